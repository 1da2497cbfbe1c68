/- The walks of this program's functions. No condition. -/
import Derived.Test.YtcnlbbmokphjnaaProg
import Derived.Test.YtcnlbbmokphjnaaWWords
import Derived.Outline
import Derived.RangeFuncNested
import Derived.RangeFuncBound
import Derived.RangeFuncCalls
import Derived.RangeFuncLeaves
import Derived.Shelf.Abstract
import Derived.TacticsInMore
import Derived.LoopNIn
import Derived.LoopIn
import Derived.OwnWalkIn
import Derived.Deep.RegionHeld3
import Derived.Test.YtcnlbbmokphjnaaWEqStruct
import Derived.Laws.Slices
import Derived.WalkSpells
import Derived.Deep.RegionLaw
import Derived.Deep.AppendLies
import Derived.BigRegion
set_option linter.unusedVariables false
set_option linter.unusedSimpArgs false
namespace Go.Proofs.Ytcnlbbmokphjnaa
open Go.RowKit Go.Proofs.YtcnlbbmokphjnaaW.PrintWords
def Up (w w' : World) : Prop := Below w.heap.size w w'
theorem Up.refl (w : World) : Up w w := Below.refl _ _
theorem Up.then {w w1 w2 : World} (h : Up w w1) (k : Up w1 w2) : Up w w2 := below_then h h.size k
theorem Up.alloc {w w1 : World} (h : Up w w1) (o : Obj) : Up w (w1.alloc o) := Below.alloc h h.size o
theorem Up.drew {w w1 : World} (h : Up w w1) : Up w w1.drew := below_drew h
theorem Up.drewN {w w1 : World} (h : Up w w1) (n : Nat) : Up w (w1.drewN n) := pw_below_drewN h n
theorem Up.set {w w1 : World} (h : Up w w1) (p : Addr) (v : Value) (hp : w.heap.size ≤ p.block) : Up w (w1.setCell p v) := Below.setCell h hp v
theorem Up.cell {w w1 : World} (h : Up w w1) {a : Addr} {v : Value} (hc : w.cell? a = some v) : w1.cell? a = some v := pw_cell_below h hc
theorem Up.old {w w1 : World} (h : Up w w1) : (∀ b o, b < w.heap.size → w1.cell? ⟨b, o, none⟩ = w.cell? ⟨b, o, none⟩) ∧ (∀ b o, b < w.heap.size → w1.frozen? ⟨b, o, none⟩ = w.frozen? ⟨b, o, none⟩) :=
  ⟨fun b o hb => Below.cell (p := ⟨b, o, none⟩) h hb, fun b o hb => Below.frozen (p := ⟨b, o, none⟩) h hb⟩
theorem Up.le {w w1 : World} (h : Up w w1) : w.heap.size ≤ w1.heap.size := h.size
theorem Up.ofDrawn {w w1 : World} (h : Drawn0 w w1) : Up w w1 := h.below
theorem upA {w w' : World} (h : Up w w' := by repeat' (first | (with_reducible exact Up.refl _) | (with_reducible refine Up.alloc ?_ _) | (with_reducible refine Up.drewN ?_ _) | (with_reducible refine Up.drew ?_) | (with_reducible refine Up.set ?_ _ _ ?_) | (with_reducible refine Up.then ?_ (Aside0.out (by assumption))) | omega | (simp; done) | (simp; omega))) : Up w w' := h
theorem C_up {α : Type} {d : Kd α} {w w1 : World} {A : Option Addr} {n : Nat} {xs : List α} (h : Kd.C d w A n xs) (hb : Up w w1) : Kd.C d w1 A n xs := Kd.C_below h hb
theorem CF_len {α : Type} {d : Kd α} {w : World} {A : Option Addr} {n : Nat} {xs : List α} (h : Kd.C d w A n xs) : n ≤ 9223372036854775807 := h.2.1
theorem C_new (w : World) (t : TypeId) (xs : List Int) (cs : Array Value) (n : Nat) (hcs : cs = (xs.map (Value.int .i64)).toArray) (hn : n = xs.length) (hm : xs.length ≤ 9223372036854775807) :
    Kd.C (Kd.int .i64) (w.alloc (.cells cs t)) (some ⟨w.heap.size, 0, none⟩) n xs := by
  subst hcs hn
  refine Kd.C_of_reads (d := (0 : Int)) (h1 := fun _ => rfl) ⟨rfl, hm, fun _ => ⟨_, rfl, fun j hj => ?_⟩⟩
  rw [add_plain]
  simp [List.getD_eq_getElem?_getD, hj]
structure Sp where
  lo : Int
  hi : Int
  deriving DecidableEq
def z_Sp : Sp := ⟨0, 0⟩
def kSp : Kd Sp := Kd.iso (Kd.pair (Kd.int .i64) (Kd.int .i64)) (fun x : Sp => (x.lo, x.hi))
theorem kSp_open {w : World} {x : Sp} {cs : List Value} (h : kSp.K w x cs) : cs = [.int .i64 x.lo, .int .i64 x.hi] := by
  obtain ⟨_, _, rfl, rfl, rfl⟩ := h
  exact rfl
theorem kSp_openM {w : World} {base : Nat} {ok : Nat → Prop} {x : Sp} {cs : List Value} (h : kSp.M w base ok x cs) : cs = [.int .i64 x.lo, .int .i64 x.hi] := by
  obtain ⟨_, _, rfl, rfl, rfl⟩ := h
  exact rfl
theorem kSp_mk (w : World) (x : Sp) : kSp.K w x [.int .i64 x.lo, .int .i64 x.hi] := ⟨[.int .i64 x.lo], [.int .i64 x.hi], rfl, rfl, rfl⟩
theorem kSp_mkM (w : World) (base : Nat) (ok : Nat → Prop) (x : Sp) : kSp.M w base ok x [.int .i64 x.lo, .int .i64 x.hi] := ⟨[.int .i64 x.lo], [.int .i64 x.hi], rfl, rfl, rfl⟩
def rdS (xs : List Sp) (i : Int) : Sp := xs.getD i.toNat z_Sp
theorem at_Sp {w : World} {A : Option Addr} {n : Nat} {xs : List Sp} (h : Kd.C kSp w A n xs) (i : Int) (h0 : 0 ≤ i) (h1 : i < n) : ∃ ad, A = some ad ∧ w.cell? (ad.add (i.toNat * 2)) = some (.int .i64 (rdS xs i).lo) ∧ w.cell? ⟨(ad.add (i.toNat * 2)).block, (ad.add (i.toNat * 2)).off + 1, none⟩ = some (.int .i64 (rdS xs i).hi) := by
  obtain ⟨ad, c, e, _, hK, hc0⟩ := Kd.C_get h z_Sp i h0 h1
  have hc : ∀ j u, c[j]? = some u → w.cell? (ad.add (i.toNat * 2 + j)) = some u := hc0
  obtain rfl := kSp_open hK
  exact ⟨ad, e, hc 0 _ rfl, by rw [← add_field _ _ 1 (by omega)]; exact hc 1 _ rfl⟩
theorem bi_max2 (k k' : IntKind) (x y : Int) : Builtin.max2 (.int k x) (.int k' y) = pure (.int k (max x y)) := by
  have : (if x < y then y else x) = max x y := by omega
  simp only [Builtin.max2, gt_iff_lt, this]
theorem bi_min2 (k k' : IntKind) (x y : Int) : Builtin.min2 (.int k x) (.int k' y) = pure (.int k (min x y)) := by
  have : (if y < x then y else x) = min x y := by omega
  simp only [Builtin.min2, this]
theorem bi_max_two (ats : Array TypeId) (ty : TypeId) (a b : Value) : Builtin.max_ ats ty #[a, b] = (Builtin.max2 a b >>= fun s => pure s) := by simp only [Builtin.max_, List.foldlM_cons, List.foldlM_nil]
theorem bi_min_two (ats : Array TypeId) (ty : TypeId) (a b : Value) : Builtin.min_ ats ty #[a, b] = (Builtin.min2 a b >>= fun s => pure s) := by simp only [Builtin.min_, List.foldlM_cons, List.foldlM_nil]
structure Sv (p : Nat → Prop) (w w' : World) : Prop where
  os : w'.os = w.os
  tape : w'.tape = w.tape
  output : w'.output = w.output
  size : w.heap.size ≤ w'.heap.size
  block : ∀ k, p k → w'.heap[k]? = w.heap[k]?
theorem Sv.refl (p : Nat → Prop) (w : World) : Sv p w w := ⟨rfl, rfl, rfl, Nat.le_refl _, fun _ _ => rfl⟩
theorem Sv.trans {p : Nat → Prop} {a b c : World} (h : Sv p a b) (k : Sv p b c) : Sv p a c := ⟨k.os.trans h.os, k.tape.trans h.tape, k.output.trans h.output, Nat.le_trans h.size k.size, fun i hi => (k.block i hi).trans (h.block i hi)⟩
theorem Sv.below {p : Nat → Prop} {a b : World} {B : Nat} (h : Sv p a b) (hp : ∀ k, k < B → p k) : Below B a b := ⟨h.os, h.tape, h.output, h.size, fun k hk => h.block k (hp k hk)⟩
theorem Sv.cell {p : Nat → Prop} {a b : World} (h : Sv p a b) {ad : Addr} {v : Value} (hp : p ad.block) (hc : a.cell? ad = some v) : b.cell? ad = some v := by
  have h1 : Below (ad.block + 1) a b ∨ True := .inr trivial
  have e := h.block ad.block hp
  rw [← hc]
  unfold World.cell?
  rw [e]
theorem Sv.frozen {p : Nat → Prop} {a b : World} (h : Sv p a b) {ad : Addr} (hp : p ad.block) : b.frozen? ad = a.frozen? ad := by
  have e := h.block ad.block hp
  unfold World.frozen?
  rw [e]
theorem Up.sv {w w1 : World} (h : Up w w1) {p : Nat → Prop} (hp : ∀ k, p k → k < w.heap.size) : Sv p w w1 := ⟨h.os, h.tape, h.output, h.size, fun k hk => h.block k (hp k hk)⟩
theorem Sv.put {p : Nat → Prop} (W : World) (l : Nat) (o' : Obj) (hl : ¬ p l) : Sv p W (W.putObj l o') :=
  ⟨rfl, rfl, rfl, by simp, fun k hk => World.putObj_heap_other (fun e => hl (e ▸ hk))⟩
theorem Sv.set {p : Nat → Prop} {a b : World} (h : Sv p a b) (ad : Addr) (v : Value) (hp : ¬ p ad.block) : Sv p a (b.setCell ad v) := by
  have hb := Below.setCell (B := 0) (Below.refl 0 b) (p := ad) (Nat.zero_le _) v
  exact ⟨hb.os.trans h.os, hb.tape.trans h.tape, hb.output.trans h.output, Nat.le_trans h.size hb.size, fun k hk => (Below.heap_setCell b ad v k (fun e => hp (e ▸ hk))).trans (h.block k hk)⟩
theorem Sv.alloc {p : Nat → Prop} {a b : World} (h : Sv p a b) (o : Obj) (hp : ∀ k, p k → k < b.heap.size) : Sv p a (b.alloc o) :=
  h.trans (Up.sv ((Up.refl b).alloc o) hp)
theorem ret_int {k : IntKind} {a b : Int} (h : a = b) : Ending.returned (.int k a) = .returned (.int k b) := by rw [h]
theorem ret_bool {a b : Bool} (h : a = b) : Ending.returned (.bool a) = .returned (.bool b) := by rw [h]
end Go.Proofs.Ytcnlbbmokphjnaa
namespace Go.Proofs.Ytcnlbbmokphjnaa
open Go.RowKit Go.Proofs.YtcnlbbmokphjnaaW.PrintWords
set_option linter.unusedVariables false
set_option linter.unusedSimpArgs false
def idxF {α} (p : α → Bool) : List α → Nat → Int
  | [], _ => -1
  | x :: l, i => if p x then i else idxF p l (i+1)
theorem idxF_neg {α} (p : α → Bool) : ∀ (l : List α) (k : Nat), (0 ≤ idxF p l k ↔ l.any p = true)
  | [], k => by simp [idxF]
  | x :: l, k => by
    unfold idxF
    cases h : p x
    · simpa [h] using idxF_neg p l (k+1)
    · simp [h]
theorem idxF_any {α} (p : α → Bool) (l : List α) : decide (0 ≤ idxF p l 0) = l.any p := by
  have := idxF_neg p l 0
  cases h : l.any p <;> simp_all
theorem idx_int_drop (p : Int → Bool) (l : List Int) (k : Nat) (h : k < l.length) : idxF p (l.drop k) k = if p (rd l k) then (k:Int) else idxF p (l.drop (k+1)) (k+1) := by
  rw [List.drop_eq_getElem_cons h, idxF]; simp [rd, List.getD_eq_getElem?_getD, h]
set_option maxRecDepth 100000 in
theorem index_int (fv : FuncId) (cap : Array Value) (p : Int → Bool) (A : Option Addr) (c : Nat) (l : List Int) (w : World)
    (hr : Kd.C (Kd.int .i64) w A l.length l) (hc : l.length ≤ c)
    (hE : ∀ (args : Array Value) (w : World), (callFunc fv args).run Try.prog w = .ok (.enter fv args) w)
    (hf : ∀ x W, Up w W → Calls Try.prog fv (#[.int .i64 x] ++ cap) W fun e W' => e = .returned (.bool (p x)) ∧ Up W W') :
    Calls Try.prog 97 #[.slice A l.length c, .func (.func fv) #[] cap] w fun e w' => e = .returned (.int .i64 (idxF p l 0)) ∧ Up w w' := by
  have HF := Aside0.mk hf
  have HR := Aside0.mk hr
  have hm := CF_len hr
  clear hf hr
  go_enter Try.func97, Try.ntmps97
  go_wp2
  go_loopw [8] (fun i wr => ∃ k : Nat, k ≤ l.length ∧ i = .int .i64 k ∧ Aside0 (idxF p l 0 = idxF p (l.drop k) k) ∧ Aside0 (Up w wr)) (fun i _ => l.length - (intOf i).toNat)
  case atStart => exact ⟨0, Nat.zero_le _, rfl, ⟨rfl⟩, ⟨Up.refl _⟩⟩
  case round =>
    obtain ⟨k, hk, rfl, he, hb⟩ := hrel
    by_cases hlt : k < l.length
    · obtain ⟨ad, e, hx0⟩ := Kd.at_int (C_up HR.out hb.out) k (by omega) (by omega)
      cases e
      simp only [Int.toNat_natCast] at hx0
      have hcall := HF.out (rd l k) _ hb.out
      cases hp : p (rd l k)
      all_goals
        rw [hp] at hcall
        have he2 := idx_int_drop p l k hlt
        rw [hp] at he2
        have he3 := Aside0.mk (he.out.trans he2)
        clear hp he he2
        go_wp2_with fail
        refine hcall.mono ?_
        clear hcall
        rintro e w' ⟨rfl, hb'⟩
        have hb2 := Aside0.mk (hb.out.then hb')
        clear hb' hb
        go_wp2
      · go_roundw
        case rel => exact ⟨k+1, by omega, by go_num, ⟨by simpa using he3.out⟩, hb2⟩
        case measure => simp [intOf]; omega
      · go_ret
        exact ⟨by rw [he3.out]; rfl, hb2.out⟩
    · go_wp2
      go_ret
      exact ⟨by rw [he.out, List.drop_eq_nil_of_le (by omega)]; rfl, hb.out⟩
theorem contains_int (fv : FuncId) (cap : Array Value) (p : Int → Bool) (A : Option Addr) (c : Nat) (l : List Int) (w : World)
    (hr : Kd.C (Kd.int .i64) w A l.length l) (hc : l.length ≤ c)
    (hE : ∀ (args : Array Value) (w : World), (callFunc fv args).run Try.prog w = .ok (.enter fv args) w)
    (hf : ∀ x W, Up w W → Calls Try.prog fv (#[.int .i64 x] ++ cap) W fun e W' => e = .returned (.bool (p x)) ∧ Up W W') :
    Calls Try.prog 95 #[.slice A l.length c, .func (.func fv) #[] cap] w fun e w' => e = .returned (.bool (l.any p)) ∧ Up w w' := by
  have hcall := index_int fv cap p A c l w hr hc hE hf
  clear hr hf
  have HD : Aside0 (decide (0 ≤ idxF p l 0) = l.any p) := ⟨idxF_any p l⟩
  clear hE
  go_enter Try.func95, Try.ntmps95
  go_wp2_with fail
  refine hcall.mono ?_
  clear hcall
  rintro e w' ⟨rfl, hb'⟩
  have hb2 := Aside0.mk hb'
  clear hb'
  go_wp2
  go_ret
  exact ⟨ret_bool HD.out, hb2.out⟩
theorem within1 (n lo hi : Int) (b1 b2 : Nat) (w : World) (h1 : w.cell? ⟨b1, 0, none⟩ = some (.int .i64 lo)) (h2 : w.cell? ⟨b2, 0, none⟩ = some (.int .i64 hi)) :
    Calls Try.prog 96 #[.int .i64 n, .pointer (some ⟨b1, 0, none⟩), .pointer (some ⟨b2, 0, none⟩)] w fun e w' => e = .returned (.bool (decide (n < lo) || decide (n > hi))) ∧ Up w w' := by
  by_cases c : n < lo
  · have c1 : decide (n < lo) = true := decide_eq_true c
    go_enter Try.func96, Try.ntmps96
    go_wp2
    repeat (go_quiet (fail); try go_wp2)
    go_ret
    exact ⟨by simp [c1], upA⟩
  · have c1 : decide (n < lo) = false := decide_eq_false c
    go_enter Try.func96, Try.ntmps96
    go_wp2
    repeat (go_quiet (fail); try go_wp2)
    go_ret
    exact ⟨by simp, upA⟩
def inB (lo hi : Int) (l : List Int) : Bool := !(l.any fun n => decide (n < lo) || decide (n > hi))
theorem within (lo hi : Int) (A : Option Addr) (c n : Nat) (l : List Int) (w : World) (hn : n = l.length)
    (hr : Kd.C (Kd.int .i64) w A n l) (hc : n ≤ c) :
    Calls Try.prog 71 #[.int .i64 lo, .int .i64 hi, .slice A n c] w fun e w' => e = .returned (.bool (inB lo hi l)) ∧ Up w w' := by
  subst hn
  have hcall := contains_int 96 #[.pointer (some ⟨w.heap.size, 0, none⟩), .pointer (some ⟨w.heap.size + 1, 0, none⟩)] (fun n => decide (n < lo) || decide (n > hi)) A c l
    ((w.alloc (.cells #[.int .i64 lo] 3)).alloc (.cells #[.int .i64 hi] 3)) (C_up hr upA) hc (by intro a w; kernel_rfl)
    (by
      intro x W hb
      exact within1 x lo hi w.heap.size (w.heap.size + 1) W (hb.cell (by simp)) (hb.cell (by simp)))
  clear hr
  go_enter Try.func71, Try.ntmps71
  go_wp2_with fail
  refine hcall.mono ?_
  clear hcall
  rintro e w' ⟨rfl, hb⟩
  replace hb := Aside0.mk hb
  go_wp2
  go_ret
  exact ⟨rfl, upA⟩
theorem withinL1 (lo hi a : Int) (w : World) (b : Nat) (hb : b = w.heap.size) :
    Calls Try.prog 71 #[.int .i64 lo, .int .i64 hi, .slice (some ⟨b, 0, none⟩) 1 1] (w.alloc (.cells #[.int .i64 a] 3)) fun e w' => e = .returned (.bool (inB lo hi [a])) ∧ Up w w' := by
  subst hb
  exact (within lo hi _ 1 1 [a] _ rfl (C_new w 3 [a] _ 1 rfl rfl (by simp)) (Nat.le_refl _)).mono fun e w' h => ⟨h.1, ((Up.refl _).alloc _).then h.2⟩
theorem withinL2 (lo hi a a2 : Int) (w : World) (b : Nat) (hb : b = w.heap.size) :
    Calls Try.prog 71 #[.int .i64 lo, .int .i64 hi, .slice (some ⟨b, 0, none⟩) 2 2] (w.alloc (.cells #[.int .i64 a, .int .i64 a2] 3)) fun e w' => e = .returned (.bool (inB lo hi [a, a2])) ∧ Up w w' := by
  subst hb
  exact (within lo hi _ 2 2 [a, a2] _ rfl (C_new w 3 [a, a2] _ 2 rfl rfl (by simp)) (Nat.le_refl _)).mono fun e w' h => ⟨h.1, ((Up.refl _).alloc _).then h.2⟩
def isSpanB (a b lo hi : Int) : Bool := inB lo hi [a, b] && decide (a ≤ b)
theorem isSpan (a b lo hi : Int) (w : World) :
    Calls Try.prog 59 #[.agg #[.int .i64 a, .int .i64 b], .int .i64 lo, .int .i64 hi] w fun e w' => e = .returned (.bool (isSpanB a b lo hi)) ∧ Up w w' := by
  go_enter Try.func59, Try.ntmps59
  go_wp2_with (go_at_call 71; (with_reducible refine (withinL2 _ _ _ _ _ _ (by simp)).mono ?_); rintro e w' ⟨rfl, hb⟩; have hbA := Aside0.mk hb; obtain ⟨hcA, hfA⟩ := hb.old; have hz := hb.le; (try simp at hz); (try have hz0 : w.heap.size < w'.heap.size := by omega); (try have hzb : w.heap.size + 1 < w'.heap.size := by omega); (try have hzc : w.heap.size + 2 < w'.heap.size := by omega); clear hb)
  all_goals
    go_ret
    exact ⟨ret_bool (by first | (simp [isSpanB, *]; done) | (simp [isSpanB, *] <;> simp_all; done) | ((simp only [isSpanB]; (repeat' split)) <;> first | rfl | (exfalso; omega) | (exfalso; simp_all; done) | (exfalso; simp_all; omega) | (simp_all; done) | omega)), upA⟩
structure Mill where
  H : Int
  T : Int
  bl : Int
  bh : Int
  ho : Int
  nl : Int
  nh : Int
def millB (m : Mill) : Bool := inB 1 8 [m.H] && inB 0 100 [m.T] && isSpanB m.bl m.bh 0 5000 && inB 0 500 [m.ho] && isSpanB m.nl m.nh 0 m.ho
def millE (m : Mill) : Int := if millB m then 0 else 2
theorem checkMill (m : Mill) (w : World) :
    Calls Try.prog 57 #[.agg #[.int .i64 m.H, .int .i64 m.T, .int .i64 m.bl, .int .i64 m.bh, .int .i64 m.ho, .int .i64 m.nl, .int .i64 m.nh]] w fun e w' => e = .returned (.int .i64 (millE m)) ∧ Up w w' := by
  go_enter Try.func57, Try.ntmps57
  go_wp2_with (first | (go_at_call 71; (with_reducible refine (withinL1 _ _ _ _ _ (by simp)).mono ?_); rintro e w' ⟨rfl, hb⟩; have hbA := Aside0.mk hb; obtain ⟨hcA, hfA⟩ := hb.old; have hz := hb.le; (try simp at hz); (try have hz0 : w.heap.size < w'.heap.size := by omega); (try have hzb : w.heap.size + 1 < w'.heap.size := by omega); (try have hzc : w.heap.size + 2 < w'.heap.size := by omega); clear hb) | (go_at_call 59; (with_reducible refine (isSpan _ _ _ _ _).mono ?_); rintro e w' ⟨rfl, hb⟩; have hbA := Aside0.mk hb; obtain ⟨hcA, hfA⟩ := hb.old; have hz := hb.le; (try simp at hz); (try have hz0 : w.heap.size < w'.heap.size := by omega); (try have hzb : w.heap.size + 1 < w'.heap.size := by omega); (try have hzc : w.heap.size + 2 < w'.heap.size := by omega); clear hb))
  all_goals
    go_ret
    exact ⟨ret_int (by first | (simp [millE, millB, *]; done) | (simp [millE, millB, *] <;> simp_all; done) | ((simp only [millE, millB]; (repeat' split)) <;> first | rfl | (exfalso; omega) | (exfalso; simp_all; done) | (exfalso; simp_all; omega) | (simp_all; done) | omega)), upA⟩
theorem idx_Sp_drop (p : Sp → Bool) (l : List Sp) (k : Nat) (h : k < l.length) : idxF p (l.drop k) k = if p (rdS l k) then (k:Int) else idxF p (l.drop (k+1)) (k+1) := by
  rw [List.drop_eq_getElem_cons h, idxF]; simp [rdS, List.getD_eq_getElem?_getD, h]
set_option maxRecDepth 100000 in
theorem index_Sp (fv : FuncId) (cap : Array Value) (p : Sp → Bool) (A : Option Addr) (c : Nat) (l : List Sp) (w : World)
    (hr : Kd.C kSp w A l.length l) (hc : l.length ≤ c)
    (hE : ∀ (args : Array Value) (w : World), (callFunc fv args).run Try.prog w = .ok (.enter fv args) w)
    (hf : ∀ x W, Up w W → Calls Try.prog fv (#[.agg #[.int .i64 x.lo, .int .i64 x.hi]] ++ cap) W fun e W' => e = .returned (.bool (p x)) ∧ Up W W') :
    Calls Try.prog 93 #[.slice A l.length c, .func (.func fv) #[] cap] w fun e w' => e = .returned (.int .i64 (idxF p l 0)) ∧ Up w w' := by
  have HF := Aside0.mk hf
  have HR := Aside0.mk hr
  have hm := CF_len hr
  clear hf hr
  go_enter Try.func93, Try.ntmps93
  go_wp2
  go_loopw [8] (fun i wr => ∃ k : Nat, k ≤ l.length ∧ i = .int .i64 k ∧ Aside0 (idxF p l 0 = idxF p (l.drop k) k) ∧ Aside0 (Up w wr)) (fun i _ => l.length - (intOf i).toNat)
  case atStart => exact ⟨0, Nat.zero_le _, rfl, ⟨rfl⟩, ⟨Up.refl _⟩⟩
  case round =>
    obtain ⟨k, hk, rfl, he, hb⟩ := hrel
    by_cases hlt : k < l.length
    · obtain ⟨ad, e, hx0, hx1⟩ := at_Sp (C_up HR.out hb.out) k (by omega) (by omega)
      cases e
      have hu := Try.underlying23
      simp only [Int.toNat_natCast] at hx0 hx1
      have hcall := HF.out (rdS l k) _ hb.out
      cases hp : p (rdS l k)
      all_goals
        rw [hp] at hcall
        have he2 := idx_Sp_drop p l k hlt
        rw [hp] at he2
        have he3 := Aside0.mk (he.out.trans he2)
        clear hp he he2
        go_wp2_with fail
        refine hcall.mono ?_
        clear hcall
        rintro e w' ⟨rfl, hb'⟩
        have hb2 := Aside0.mk (hb.out.then hb')
        clear hb' hb
        go_wp2
      · go_roundw
        case rel => exact ⟨k+1, by omega, by go_num, ⟨by simpa using he3.out⟩, hb2⟩
        case measure => simp [intOf]; omega
      · go_ret
        exact ⟨by rw [he3.out]; rfl, hb2.out⟩
    · go_wp2
      go_ret
      exact ⟨by rw [he.out, List.drop_eq_nil_of_le (by omega)]; rfl, hb.out⟩
theorem contains_Sp (fv : FuncId) (cap : Array Value) (p : Sp → Bool) (A : Option Addr) (c : Nat) (l : List Sp) (w : World)
    (hr : Kd.C kSp w A l.length l) (hc : l.length ≤ c)
    (hE : ∀ (args : Array Value) (w : World), (callFunc fv args).run Try.prog w = .ok (.enter fv args) w)
    (hf : ∀ x W, Up w W → Calls Try.prog fv (#[.agg #[.int .i64 x.lo, .int .i64 x.hi]] ++ cap) W fun e W' => e = .returned (.bool (p x)) ∧ Up W W') :
    Calls Try.prog 60 #[.slice A l.length c, .func (.func fv) #[] cap] w fun e w' => e = .returned (.bool (l.any p)) ∧ Up w w' := by
  have hcall := index_Sp fv cap p A c l w hr hc hE hf
  clear hr hf
  have HD : Aside0 (decide (0 ≤ idxF p l 0) = l.any p) := ⟨idxF_any p l⟩
  clear hE
  go_enter Try.func60, Try.ntmps60
  go_wp2_with fail
  refine hcall.mono ?_
  clear hcall
  rintro e w' ⟨rfl, hb'⟩
  have hb2 := Aside0.mk hb'
  clear hb'
  go_wp2
  go_ret
  exact ⟨ret_bool HD.out, hb2.out⟩
theorem check1 (a b : Int) (w : World) :
    Calls Try.prog 58 #[.agg #[.int .i64 a, .int .i64 b]] w fun e w' => e = .returned (.bool (!isSpanB a b 0 500)) ∧ Up w w' := by
  go_enter Try.func58, Try.ntmps58
  go_wp2_with (go_at_call 59; (with_reducible refine (isSpan _ _ _ _ _).mono ?_); rintro e w' ⟨rfl, hb⟩; have hbA := Aside0.mk hb; obtain ⟨hcA, hfA⟩ := hb.old; have hz := hb.le; (try simp at hz); (try have hz0 : w.heap.size < w'.heap.size := by omega); (try have hzb : w.heap.size + 1 < w'.heap.size := by omega); (try have hzc : w.heap.size + 2 < w'.heap.size := by omega); clear hb)
  go_ret
  exact ⟨rfl, upA⟩
def badSp (s : Sp) : Bool := !isSpanB s.lo s.hi 0 500
theorem containsBad (A : Option Addr) (c : Nat) (l : List Sp) (w : World) (hr : Kd.C kSp w A l.length l) (hc : l.length ≤ c) :
    Calls Try.prog 60 #[.slice A l.length c, .func (.func 58) #[] #[]] w fun e w' => e = .returned (.bool (l.any badSp)) ∧ Up w w' :=
  contains_Sp 58 #[] badSp _ _ l _ hr hc (by intro a w; kernel_rfl) (by intro x W hb; exact check1 _ _ _)
def checkE (m : Mill) (l : List Sp) : Int := if millE m = 0 then (if l.length > 24 then 5 else if l.length = 0 then 7 else if l.any badSp then 3 else 0) else millE m
theorem check (m : Mill) (A : Option Addr) (c : Nat) (l : List Sp) (w : World) (hr : Kd.C kSp w A l.length l) (hc : l.length ≤ c) :
    Calls Try.prog 18 #[.agg #[.int .i64 m.H, .int .i64 m.T, .int .i64 m.bl, .int .i64 m.bh, .int .i64 m.ho, .int .i64 m.nl, .int .i64 m.nh], .slice A l.length c] w fun e w' => e = .returned (.int .i64 (checkE m l)) ∧ Up w w' := by
  have hm := CF_len hr
  have HR := Aside0.mk hr
  clear hr
  go_enter Try.func18, Try.ntmps18
  go_wp2_with (first | (go_at_call 57; (with_reducible refine (checkMill _ _).mono ?_); rintro e w' ⟨rfl, hb⟩; have hbA := Aside0.mk hb; obtain ⟨hcA, hfA⟩ := hb.old; have hz := hb.le; (try simp at hz); (try have hz0 : w.heap.size < w'.heap.size := by omega); (try have hzb : w.heap.size + 1 < w'.heap.size := by omega); (try have hzc : w.heap.size + 2 < w'.heap.size := by omega); clear hb) | (go_at_call 60; (with_reducible refine (containsBad _ _ _ _ (C_up HR.out upA) hc).mono ?_); rintro e w' ⟨rfl, hb⟩; have hbA := Aside0.mk hb; obtain ⟨hcA, hfA⟩ := hb.old; have hz := hb.le; (try simp at hz); (try have hz0 : w.heap.size < w'.heap.size := by omega); (try have hzb : w.heap.size + 1 < w'.heap.size := by omega); (try have hzc : w.heap.size + 2 < w'.heap.size := by omega); clear hb))
  all_goals
    go_ret
    exact ⟨ret_int (by first | (simp [checkE, *]; done) | (simp [checkE, *] <;> simp_all; done) | ((simp only [checkE]; (repeat' split)) <;> first | rfl | (exfalso; omega) | (exfalso; simp_all; done) | (exfalso; simp_all; omega) | (simp_all; done) | omega)), upA⟩
end Go.Proofs.Ytcnlbbmokphjnaa
namespace Go.Proofs.Ytcnlbbmokphjnaa
open Go.RowKit Go.Proofs.YtcnlbbmokphjnaaW.PrintWords
set_option linter.unusedVariables false
set_option linter.unusedSimpArgs false
theorem open_ (m : Mill) (A : Option Addr) (c : Nat) (l : List Sp) (w : World) (hr : Kd.C kSp w A l.length l) (hc : l.length ≤ c) :
    Calls Try.prog 73 #[.agg #[.int .i64 m.H, .int .i64 m.T, .int .i64 m.bl, .int .i64 m.bh, .int .i64 m.ho, .int .i64 m.nl, .int .i64 m.nh], .slice A l.length c] w fun e w' => e = .returned (.tuple #[.agg #[.int .i64 m.H, .int .i64 m.T, .int .i64 m.bl, .int .i64 m.bh, .int .i64 m.ho, .int .i64 m.nl, .int .i64 m.nh, .slice A l.length c], .int .i64 (checkE m l)]) ∧ Up w w' := by
  have HR := Aside0.mk hr
  clear hr
  go_enter Try.func73, Try.ntmps73
  go_wp2_with fail
  go_region_held3 (fun W => W.cell? ⟨w.heap.size, 0, none⟩ = some (.int .i64 m.H) ∧ W.cell? ⟨w.heap.size, 1, none⟩ = some (.int .i64 m.T) ∧ W.cell? ⟨w.heap.size, 2, none⟩ = some (.int .i64 m.bl) ∧ W.cell? ⟨w.heap.size, 3, none⟩ = some (.int .i64 m.bh) ∧ W.cell? ⟨w.heap.size, 4, none⟩ = some (.int .i64 m.ho) ∧ W.cell? ⟨w.heap.size, 5, none⟩ = some (.int .i64 m.nl) ∧ W.cell? ⟨w.heap.size, 6, none⟩ = some (.int .i64 m.nh)) (first | go_keep | (simp [hcA, go_sem]; done)) ((go_at_call 18; (with_reducible refine (check _ _ _ _ _ (C_up HR.out upA) hc).mono ?_); rintro e w' ⟨rfl, hb⟩; have hbA := Aside0.mk hb; obtain ⟨hcA, hfA⟩ := hb.old; have hz := hb.le; (try simp at hz); (try have hz0 : w.heap.size < w'.heap.size := by omega); (try have hzb : w.heap.size + 1 < w'.heap.size := by omega); (try have hzc : w.heap.size + 2 < w'.heap.size := by omega); clear hb))
  go_wp2_with fail
  refine bodyPost_ret (v := .tuple #[.agg #[.int .i64 m.H, .int .i64 m.T, .int .i64 m.bl, .int .i64 m.bh, .int .i64 m.ho, .int .i64 m.nl, .int .i64 m.nh, .slice A l.length c], .int .i64 (checkE m l)]) ?_ rfl ⟨rfl, ?_⟩
  · simp [results, Try.results73, go_sem, *] <;> exact (by first | (simp [checkE, *]; done) | (simp [checkE, *] <;> simp_all; done) | ((simp only [checkE]; (repeat' split)) <;> first | rfl | (exfalso; omega) | (exfalso; simp_all; done) | (exfalso; simp_all; omega) | (simp_all; done) | omega))
  · exact upA
def planB (m : Mill) (n : Nat) (plan : List Int) (least : Int) : Bool := inB least n [(plan.length : Int)] && inB 0 m.H plan
def openE (m : Mill) (l : List Sp) (plan : List Int) (least : Int) : Int := if checkE m l = 0 then (if planB m l.length plan least then 0 else 4) else checkE m l
set_option maxRecDepth 100000 in
theorem openPlan (m : Mill) (A : Option Addr) (c : Nat) (l : List Sp) (A2 : Option Addr) (c2 : Nat) (plan : List Int) (least : Int) (w : World) (hr : Kd.C kSp w A l.length l) (hc : l.length ≤ c)
    (hr2 : Kd.C (Kd.int .i64) w A2 plan.length plan) (hc2 : plan.length ≤ c2) :
    Calls Try.prog 61 #[.agg #[.int .i64 m.H, .int .i64 m.T, .int .i64 m.bl, .int .i64 m.bh, .int .i64 m.ho, .int .i64 m.nl, .int .i64 m.nh], .slice A l.length c, .slice A2 plan.length c2, .int .i64 least] w fun e w' => e = .returned (.tuple #[.agg #[.int .i64 m.H, .int .i64 m.T, .int .i64 m.bl, .int .i64 m.bh, .int .i64 m.ho, .int .i64 m.nl, .int .i64 m.nh, .slice A l.length c], .int .i64 (openE m l plan least)]) ∧ Up w w' := by
  have HR := Aside0.mk hr
  have HR2 := Aside0.mk hr2
  clear hr hr2
  go_enter Try.func61, Try.ntmps61
  go_wp2_with fail
  (with_reducible refine (open_ _ _ _ _ _ (C_up HR.out upA) hc).mono ?_)
  rintro e w1 ⟨rfl, hb⟩
  have hbA := Aside0.mk hb
  obtain ⟨hcA, hfA⟩ := hb.old
  have hz := hb.le
  (try simp at hz)
  (try have hz0 : w.heap.size < w1.heap.size := by omega)
  (try have hzb : w.heap.size + 1 < w1.heap.size := by omega)
  (try have hzc : w.heap.size + 2 < w1.heap.size := by omega)
  clear hb
  go_wp2_with (first | (go_at_call 71; (with_reducible refine (withinL1 _ _ _ _ _ (by simp)).mono ?_); rintro e w' ⟨rfl, hb⟩; have hbA := Aside0.mk hb; obtain ⟨hcA, hfA⟩ := hb.old; have hz := hb.le; (try simp at hz); (try have hz0 : w.heap.size < w'.heap.size := by omega); (try have hzb : w.heap.size + 1 < w'.heap.size := by omega); (try have hzc : w.heap.size + 2 < w'.heap.size := by omega); have hz1 : w1.heap.size < w'.heap.size := (by omega); clear hb) | (go_at_call 71; (with_reducible refine (within _ _ _ _ _ plan _ rfl (C_up HR2.out upA) hc2).mono ?_); rintro e w' ⟨rfl, hb⟩; have hbA := Aside0.mk hb; obtain ⟨hcA, hfA⟩ := hb.old; have hz := hb.le; (try simp at hz); (try have hz0 : w.heap.size < w'.heap.size := by omega); (try have hzb : w.heap.size + 1 < w'.heap.size := by omega); (try have hzc : w.heap.size + 2 < w'.heap.size := by omega); have hz1 : w1.heap.size < w'.heap.size := (by omega); clear hb))
  all_goals
    refine bodyPost_ret (v := .tuple #[.agg #[.int .i64 m.H, .int .i64 m.T, .int .i64 m.bl, .int .i64 m.bh, .int .i64 m.ho, .int .i64 m.nl, .int .i64 m.nh, .slice A l.length c], .int .i64 (openE m l plan least)]) ?_ rfl ⟨rfl, ?_⟩
    · simp [results, Try.results61, go_sem, *] <;> exact (by first | (simp [openE, planB, *]; done) | (simp [openE, planB, *] <;> simp_all; done) | ((simp only [openE, planB]; (repeat' split)) <;> first | rfl | (exfalso; omega) | (exfalso; simp_all; done) | (exfalso; simp_all; omega) | (simp_all; done) | omega))
    · exact upA
end Go.Proofs.Ytcnlbbmokphjnaa
namespace Go.Proofs.Ytcnlbbmokphjnaa
open Go.RowKit Go.Shelf Go.Proofs.YtcnlbbmokphjnaaW.PrintWords
set_option linter.unusedVariables false
set_option linter.unusedSimpArgs false
attribute [local go_sem] Oper.semAt_some bi_max2 bi_min2 bi_max_two bi_min_two
theorem low_ (a b : Int) (w : World) : Calls Try.prog 63 #[.agg #[.int .i64 a, .int .i64 b]] w fun e w' => e = .returned (.int .i64 a) ∧ Up w w' := by
  go_enter Try.func63, Try.ntmps63
  go_wp2_with fail
  go_ret
  exact ⟨rfl, upA⟩
theorem high_ (a b : Int) (w : World) : Calls Try.prog 64 #[.agg #[.int .i64 a, .int .i64 b]] w fun e w' => e = .returned (.int .i64 b) ∧ Up w w' := by
  go_enter Try.func64, Try.ntmps64
  go_wp2_with fail
  go_ret
  exact ⟨rfl, upA⟩
structure Tide where
  hour : Nat
  full : Int
  left : Int
def fullA (m : Mill) (g : Sp → Int) (l : List Sp) (water : Int) (h : Nat) : Int := min m.ho (water + g (rdS l h))
def leftA (m : Mill) (g : Sp → Int) (l : List Sp) (water : Int) (h : Nat) (k : Int) : Int := fullA m g l water h - k * m.T
def tidesL (m : Mill) (g : Sp → Int) (l : List Sp) : Int → List Int → Nat → List Tide
  | _, [], _ => []
  | water, k :: ks, h => ⟨h, fullA m g l water h, leftA m g l water h k⟩ :: if leftA m g l water h k < 0 then [] else tidesL m g l (leftA m g l water h k) ks (h + 1)
def encT (t : Tide) : Array Value := #[.int .i64 (t.hour : Int), .agg #[.int .i64 t.full, .int .i64 t.left]]
structure Fine (m : Mill) (g : Sp → Int) (l : List Sp) (plan : List Int) : Prop where
  ho : 0 ≤ m.ho ∧ m.ho ≤ 500
  T : 0 ≤ m.T ∧ m.T ≤ 100
  now : 0 ≤ g ⟨m.nl, m.nh⟩ ∧ g ⟨m.nl, m.nh⟩ ≤ 2000
  flow : ∀ s ∈ l, 0 ≤ g s ∧ g s ≤ 2000
  pl : ∀ k ∈ plan, 0 ≤ k ∧ k ≤ 10
  len : plan.length ≤ l.length
theorem Fine.left {m g l plan} (h : Fine m g l plan) {water : Int} (hw : 0 ≤ water ∧ water ≤ 2000) {i : Nat} (hi : i < plan.length) : 0 ≤ g (rdS l i) ∧ g (rdS l i) ≤ 2000 ∧ 0 ≤ rd plan i ∧ rd plan i ≤ 10 ∧ 0 ≤ rd plan i * m.T ∧ rd plan i * m.T ≤ 1000 ∧ leftA m g l water i (rd plan i) ≤ 500 ∧ fullA m g l water i ≤ 500 ∧ 0 ≤ fullA m g l water i := by
  have h1 := h.len
  have h2 : rd plan i ∈ plan := by simp [rd, hi]
  have h3 : rdS l i ∈ l := by have h3b : i < l.length := by omega
                              simp [rdS, h3b]
  have h4 := h.flow _ h3
  have h5 := h.pl _ h2
  have h6 := h.T
  have h7 := h.ho
  have h8 : 0 ≤ rd plan i * m.T := Int.mul_nonneg h5.1 h6.1
  have h9 : rd plan i * m.T ≤ 10 * 100 := Int.mul_le_mul h5.2 h6.2 h6.1 (by omega)
  simp only [leftA, fullA]
  omega
theorem tidesL_drop (m : Mill) (g : Sp → Int) (l : List Sp) (water : Int) (plan : List Int) (k : Nat) (h : k < plan.length) :
    tidesL m g l water (plan.drop k) k = ⟨k, min m.ho (water + g (rdS l k)), min m.ho (water + g (rdS l k)) - rd plan k * m.T⟩ :: if min m.ho (water + g (rdS l k)) - rd plan k * m.T < 0 then [] else tidesL m g l (min m.ho (water + g (rdS l k)) - rd plan k * m.T) (plan.drop (k + 1)) (k + 1) := by
  have e : plan[k] = rd plan k := by simp [rd, h]
  rw [List.drop_eq_getElem_cons h, tidesL, e]
  rfl
def tidesP (base b : Nat) (k : Nat) : Prop := k < base ∨ (b ≤ k ∧ k < b + 3)
set_option maxRecDepth 100000 in
set_option maxHeartbeats 2000000 in
theorem tides1_inP (m : Mill) (g : Sp → Int) (fo : FuncId) (A : Option Addr) (c : Nat) (l : List Sp) (A2 : Option Addr) (c2 : Nat) (plan : List Int) (hfi : Fine m g l plan)
    (hE : ∀ (args : Array Value) (w : World), (callFunc fo args).run Try.prog w = .ok (.enter fo args) w)
    (hg : ∀ a b W, Calls Try.prog fo #[.agg #[.int .i64 a, .int .i64 b]] W fun e W' => e = .returned (.int .i64 (g ⟨a, b⟩)) ∧ Up W W')
    (lp b : Nat) (w : World) (hr : Kd.C kSp w A l.length l) (hc : l.length ≤ c) (hr2 : Kd.C (Kd.int .i64) w A2 plan.length plan) (hc2 : plan.length ≤ c2) (hb : w.heap.size ≤ b)
    (J Jx : List Tide → World → Prop) (W : World) (hW : Up w W) (hJ : AbidesFrom W.heap.size J)
    (hY : ∀ pre x W1, J pre W1 → pre.length < plan.length → pre ++ [x] <+: tidesL m g l (g ⟨m.nl, m.nh⟩) plan 0 → YieldAt Fence.wide 4 Try.prog lp (encT x) W1 fun e W' =>
      (e = .returned (.bool true) ∧ J (pre ++ [x]) W' ∧ Sv (tidesP w.heap.size b) W1 W') ∨ (e = .returned (.bool false) ∧ Jx (pre ++ [x]) W'))
    (h0 : W.cell? ⟨b + 2, 0, none⟩ = some (.func (.func fo) #[] #[])) (hv : W.cell? ⟨b, 0, none⟩ = some (.int .i64 m.H) ∧ W.cell? ⟨b, 1, none⟩ = some (.int .i64 m.T) ∧ W.cell? ⟨b, 2, none⟩ = some (.int .i64 m.bl) ∧ W.cell? ⟨b, 3, none⟩ = some (.int .i64 m.bh) ∧ W.cell? ⟨b, 4, none⟩ = some (.int .i64 m.ho) ∧ W.cell? ⟨b, 5, none⟩ = some (.int .i64 m.nl) ∧ W.cell? ⟨b, 6, none⟩ = some (.int .i64 m.nh) ∧ W.cell? ⟨b, 7, none⟩ = some (.slice A l.length c)) (hp : W.cell? ⟨b + 1, 0, none⟩ = some (.slice A2 plan.length c2)) (hbW : b + 2 < W.heap.size)
    (hj : J [] W) :
    CallsIn Fence.wide 5 Try.prog 94 #[.func (.yield lp) #[] #[], .pointer (some ⟨b + 2, 0, none⟩), .pointer (some ⟨b, 0, none⟩), .pointer (some ⟨b + 1, 0, none⟩)] W fun e W' => (∃ v, e = .returned v) ∧
      ((∃ ys, ys = tidesL m g l (g ⟨m.nl, m.nh⟩) plan 0 ∧ J ys W') ∨ (∃ pre, pre <+: tidesL m g l (g ⟨m.nl, m.nh⟩) plan 0 ∧ Jx pre W')) := by
  have HR := Aside0.mk hr
  have HR2 := Aside0.mk hr2
  have HY := Aside0.mk hY
  have HJ := Aside0.mk hJ
  clear hr hr2 hY hJ
  obtain ⟨hv0, hv1, hv2, hv3, hv4, hv5, hv6, hv7⟩ := hv
  have hm2 := CF_len HR2.out
  refine callsIn_of_wp Try.func94 rfl trivial ?_ rfl
  simp only [Try.ntmps94, List.size_toArray, List.length_cons, List.length_nil, Nat.reduceAdd, Nat.reduceSub, Array.replicate_succ, Array.replicate_zero, List.push_toArray, List.append_toArray, List.nil_append, List.cons_append]
  gi_wp2_with fail
  refine ⟨trivial, (callsIn_wide.2 (hg _ _ _)).mono ?_⟩
  rintro e w1 ⟨rfl, hb1⟩
  have hj1 : J [] w1 := HJ.out _ _ _ none hj (grown_of_below hb1 none) (fun r e => by cases e)
  have hB1 : Below w.heap.size w w1 := (hW.then hb1)
  replace hv0 := hb1.cell hv0
  replace hv1 := hb1.cell hv1
  replace hv4 := hb1.cell hv4
  replace hv7 := hb1.cell hv7
  replace h0 := hb1.cell h0
  replace hp := hb1.cell hp
  have hsz := hb1.le
  clear hv2 hv3 hv5 hv6
  replace hb1 := Aside0.mk hb1
  gi_wp2_with fail
  gi_loopw [5, 16] (fun v5 i wr => ∃ (k : Nat) (water : Int) (pre : List Tide), k ≤ plan.length ∧ i = .int .i64 k ∧ v5 = .int .i64 water ∧ Aside0 (pre.length = k ∧ pre ++ tidesL m g l water (plan.drop k) k = tidesL m g l (g ⟨m.nl, m.nh⟩) plan 0) ∧ 0 ≤ water ∧ water ≤ 2000 ∧ Aside0 (J pre wr ∧ Sv (tidesP w.heap.size b) w1 wr)) (fun _ i _ => plan.length - (intOf i).toNat)
  case atStart => exact ⟨0, _, [], Nat.zero_le _, rfl, rfl, ⟨by simp⟩, hfi.now.1, hfi.now.2, ⟨hj1, Sv.refl _ _⟩⟩
  case round =>
    obtain ⟨k, water, pre, hk, rfl, rfl, hpre, hw1, hw2, hJS⟩ := hrel
    replace hv1 := hJS.out.2.cell (by simp [tidesP]) hv1
    replace hv4 := hJS.out.2.cell (by simp [tidesP]) hv4
    replace hv7 := hJS.out.2.cell (by simp [tidesP]) hv7
    replace h0 := hJS.out.2.cell (by simp [tidesP]) h0
    have hBr := Aside0.mk (hB1.trans (hJS.out.2.below (B := w.heap.size) (fun k hk => .inl hk)))
    clear hp hv0 hj hj1 hB1
    by_cases hlt : k < plan.length
    · have hl := hfi.len
      obtain ⟨ad2, e2, hx2⟩ := Kd.at_int (Kd.C_below HR2.out hBr.out) k (by omega) (by omega)
      obtain ⟨ad, e, hx0, hx1⟩ := at_Sp (Kd.C_below HR.out hBr.out) k (by omega) (by omega)
      cases e
      cases e2
      simp only [Int.toNat_natCast] at hx0 hx1 hx2
      have hF := hfi.left ⟨hw1, hw2⟩ hlt
      simp only [fullA, leftA] at hF
      have hu := Try.underlying23
      gi_wp2_with fail
      have hi0 : (0 : Int) ≤ (k : Int) := by omega
      have hi1 : (k : Int) < (l.length : Int) := by omega
      have hgs : g ⟨(rdS l k).lo, (rdS l k).hi⟩ = g (rdS l k) := rfl
      have hwr : IntKind.i64.wrap (water + g (rdS l k)) = water + g (rdS l k) := IntWalk.i64_in _ (by omega)
      refine wpIn_wide.2 ?_
      go_region_held3 (fun W => W.cell? ⟨b, 4, none⟩ = some (.int .i64 m.ho) ∧ W.cell? ⟨b, 7, none⟩ = some (.slice (some ad) l.length c) ∧ W.cell? ⟨b + 2, 0, none⟩ = some (.func (.func fo) #[] #[]) ∧ W.cell? (ad.add (k * 2)) = some (.int .i64 (rdS l k).lo) ∧ W.cell? ⟨(ad.add (k * 2)).block, (ad.add (k * 2)).off + 1, none⟩ = some (.int .i64 (rdS l k).hi)) (first | go_keep | (refine ⟨hb2.cell ?_, hb2.cell ?_, hb2.cell ?_, hb2.cell ?_, hb2.cell ?_⟩ <;> (simp [*]; done))) ((refine (hg _ _ _).mono ?_; rintro e w2 ⟨rfl, hb2⟩))
      clear hwr hgs
      have hj2 : J pre w2 := HJ.out _ _ _ none hJS.out.1 (grown_of_below (((Up.refl _).drew).then hb2) none) (fun r e => by cases e)
      obtain ⟨fn, tmps, assign, body, hy, hR⟩ := HY.out pre ⟨k, min m.ho (water + g (rdS l k)), min m.ho (water + g (rdS l k)) - rd plan k * m.T⟩ w2 hj2 (by have := hpre.out.1; omega) (by rw [← hpre.out.2, tidesL_drop m g l water plan k hlt]; exact ⟨_, by rw [List.append_assoc]; rfl⟩)
      dsimp only [encT] at hy
      replace hv1 := hb2.cell (show wr.drew.cell? _ = _ from hv1)
      clear hj2
      have hS2 : Sv (tidesP w.heap.size b) w1 w2 := hJS.out.2.trans (((Up.refl _).drew.then hb2).sv (by
        have hsz' := hJS.out.2.size
        have hbs := hW.le
        intro q hq
        simp only [tidesP] at hq
        omega))
      have hdrop := tidesL_drop m g l water plan k hlt
      have hpre' := hpre.out
      rw [hdrop] at hpre'
      have HP := Aside0.mk hpre'
      have HS := Aside0.mk hS2
      clear hpre' hdrop hS2 hpre hJS hb2 hBr
      by_cases hneg : min m.ho (water + g (rdS l k)) - rd plan k * m.T < 0
      · rw [if_pos hneg] at HP
        gi_wp2_with fail
        refine hR.mono ?_
        rintro e W3 (⟨rfl, hJ3, hS3⟩ | ⟨rfl, hJx3⟩)
        · gi_wp2_with fail
          refine bodyPost_ret (results_none rfl _ _ _) rfl ?_
          exact ⟨⟨_, rfl⟩, .inl ⟨_, HP.out.2, hJ3⟩⟩
        · gi_wp2_with fail
          refine bodyPost_ret (results_none rfl _ _ _) rfl ?_
          exact ⟨⟨_, rfl⟩, .inr ⟨_, ⟨[], by rw [List.append_nil]; exact HP.out.2⟩, hJx3⟩⟩
      · rw [if_neg hneg] at HP
        have hge : 0 ≤ min m.ho (water + g (rdS l k)) - rd plan k * m.T := by omega
        gi_wp2_with fail
        refine hR.mono ?_
        rintro e W3 (⟨rfl, hJ3, hS3⟩ | ⟨rfl, hJx3⟩)
        · gi_wp2_with fail
          go_roundw
          case rel => exact ⟨k + 1, _, pre ++ [⟨k, min m.ho (water + g (rdS l k)), min m.ho (water + g (rdS l k)) - rd plan k * m.T⟩], by omega, by go_num, rfl, ⟨by have := HP.out.1; simp; omega, by rw [List.append_assoc]; exact HP.out.2⟩, hge, by omega, ⟨hJ3, HS.out.trans hS3⟩⟩
          case measure => simp [intOf]; omega
        · gi_wp2_with fail
          refine bodyPost_ret (results_none rfl _ _ _) rfl ?_
          exact ⟨⟨_, rfl⟩, .inr ⟨_, ⟨_, by rw [List.append_assoc]; exact HP.out.2⟩, hJx3⟩⟩
    · obtain rfl : k = plan.length := by omega
      have hall := hpre.out.2
      rw [List.drop_length, tidesL, List.append_nil] at hall
      have HA := Aside0.mk hall
      clear hall hpre
      gi_wp2_with fail
      go_end0
      exact ⟨⟨_, rfl⟩, .inl ⟨_, HA.out, hJS.out.1⟩⟩
theorem tides1_in (m : Mill) (g : Sp → Int) (fo : FuncId) (A : Option Addr) (c : Nat) (l : List Sp) (A2 : Option Addr) (c2 : Nat) (plan : List Int) (hfi : Fine m g l plan)
    (hE : ∀ (args : Array Value) (w : World), (callFunc fo args).run Try.prog w = .ok (.enter fo args) w)
    (hg : ∀ a b W, Calls Try.prog fo #[.agg #[.int .i64 a, .int .i64 b]] W fun e W' => e = .returned (.int .i64 (g ⟨a, b⟩)) ∧ Up W W')
    (lp b : Nat) (w : World) (hr : Kd.C kSp w A l.length l) (hc : l.length ≤ c) (hr2 : Kd.C (Kd.int .i64) w A2 plan.length plan) (hc2 : plan.length ≤ c2) (hb : w.heap.size ≤ b)
    (J Jx : List Tide → World → Prop) (W : World) (hW : Up w W) (hJ : AbidesFrom W.heap.size J)
    (hY : ∀ pre x W1, J pre W1 → pre.length < plan.length → YieldAt Fence.wide 4 Try.prog lp (encT x) W1 fun e W' =>
      (e = .returned (.bool true) ∧ J (pre ++ [x]) W' ∧ Sv (tidesP w.heap.size b) W1 W') ∨ (e = .returned (.bool false) ∧ Jx (pre ++ [x]) W'))
    (h0 : W.cell? ⟨b + 2, 0, none⟩ = some (.func (.func fo) #[] #[])) (hv : W.cell? ⟨b, 0, none⟩ = some (.int .i64 m.H) ∧ W.cell? ⟨b, 1, none⟩ = some (.int .i64 m.T) ∧ W.cell? ⟨b, 2, none⟩ = some (.int .i64 m.bl) ∧ W.cell? ⟨b, 3, none⟩ = some (.int .i64 m.bh) ∧ W.cell? ⟨b, 4, none⟩ = some (.int .i64 m.ho) ∧ W.cell? ⟨b, 5, none⟩ = some (.int .i64 m.nl) ∧ W.cell? ⟨b, 6, none⟩ = some (.int .i64 m.nh) ∧ W.cell? ⟨b, 7, none⟩ = some (.slice A l.length c)) (hp : W.cell? ⟨b + 1, 0, none⟩ = some (.slice A2 plan.length c2)) (hbW : b + 2 < W.heap.size)
    (hj : J [] W) :
    CallsIn Fence.wide 5 Try.prog 94 #[.func (.yield lp) #[] #[], .pointer (some ⟨b + 2, 0, none⟩), .pointer (some ⟨b, 0, none⟩), .pointer (some ⟨b + 1, 0, none⟩)] W fun e W' => (∃ v, e = .returned v) ∧
      ((∃ ys, ys = tidesL m g l (g ⟨m.nl, m.nh⟩) plan 0 ∧ J ys W') ∨ (∃ pre, pre <+: tidesL m g l (g ⟨m.nl, m.nh⟩) plan 0 ∧ Jx pre W')) :=
  tides1_inP m g fo A c l A2 c2 plan hfi hE hg lp b w hr hc hr2 hc2 hb J Jx W hW hJ (fun pre x W1 h1 h2 _ => hY pre x W1 h1 h2) h0 hv hp hbW hj
end Go.Proofs.Ytcnlbbmokphjnaa
namespace Go.Proofs.Ytcnlbbmokphjnaa
open Go.RowKit Go.Shelf Go.Proofs.YtcnlbbmokphjnaaW.PrintWords
set_option linter.unusedVariables false
set_option linter.unusedSimpArgs false
attribute [local go_sem] Oper.semAt_some
theorem tides_ (m : Mill) (A : Option Addr) (n c : Nat) (A2 : Option Addr) (n2 c2 : Nat) (fo : FuncId) (w : World) :
    Calls Try.prog 66 #[.agg #[.int .i64 m.H, .int .i64 m.T, .int .i64 m.bl, .int .i64 m.bh, .int .i64 m.ho, .int .i64 m.nl, .int .i64 m.nh, .slice A n c], .slice A2 n2 c2, .func (.func fo) #[] #[]] w fun e w' => e = .returned (.func (.func 94) #[] #[.pointer (some ⟨w.heap.size + 2, 0, none⟩), .pointer (some ⟨w.heap.size, 0, none⟩), .pointer (some ⟨w.heap.size + 1, 0, none⟩)]) ∧
      w' = ((w.alloc (.cells #[.int .i64 m.H, .int .i64 m.T, .int .i64 m.bl, .int .i64 m.bh, .int .i64 m.ho, .int .i64 m.nl, .int .i64 m.nh, .slice A n c] 98)).alloc (.cells #[.slice A2 n2 c2] 27)).alloc (.cells #[.func (.func fo) #[] #[]] 135) := by
  go_enter Try.func66, Try.ntmps66
  go_wp2_with fail
  go_ret
  exact ⟨rfl, rfl⟩
def dryF (ts : List Tide) : Int := match ts.find? (fun t => decide (t.left < 0)) with | some t => (t.hour : Int) | none => -1
def dryS (m : Mill) (g : Sp → Int) (l : List Sp) (plan : List Int) : Int := dryF (tidesL m g l (g ⟨m.nl, m.nh⟩) plan 0)
theorem tides_stops (m : Mill) (g : Sp → Int) (fo : FuncId) (A : Option Addr) (c : Nat) (l : List Sp) (A2 : Option Addr) (c2 : Nat) (plan : List Int) (hfi : Fine m g l plan)
    (hE : ∀ (args : Array Value) (w : World), (callFunc fo args).run Try.prog w = .ok (.enter fo args) w)
    (hg : ∀ a b W, Calls Try.prog fo #[.agg #[.int .i64 a, .int .i64 b]] W fun e W' => e = .returned (.int .i64 (g ⟨a, b⟩)) ∧ Up W W')
    (b : Nat) (w : World) (hr : Kd.C kSp w A l.length l) (hc : l.length ≤ c) (hr2 : Kd.C (Kd.int .i64) w A2 plan.length plan) (hc2 : plan.length ≤ c2) (hb : w.heap.size ≤ b)
    (W : World) (hW : Up w W) (h0 : W.cell? ⟨b + 2, 0, none⟩ = some (.func (.func fo) #[] #[])) (hv : W.cell? ⟨b, 0, none⟩ = some (.int .i64 m.H) ∧ W.cell? ⟨b, 1, none⟩ = some (.int .i64 m.T) ∧ W.cell? ⟨b, 2, none⟩ = some (.int .i64 m.bl) ∧ W.cell? ⟨b, 3, none⟩ = some (.int .i64 m.bh) ∧ W.cell? ⟨b, 4, none⟩ = some (.int .i64 m.ho) ∧ W.cell? ⟨b, 5, none⟩ = some (.int .i64 m.nl) ∧ W.cell? ⟨b, 6, none⟩ = some (.int .i64 m.nh) ∧ W.cell? ⟨b, 7, none⟩ = some (.slice A l.length c)) (hp : W.cell? ⟨b + 1, 0, none⟩ = some (.slice A2 plan.length c2)) (hbW : b + 2 < W.heap.size) :
    SeqStopsK Fence.wide 5 Try.prog 94 #[.pointer (some ⟨b + 2, 0, none⟩), .pointer (some ⟨b, 0, none⟩), .pointer (some ⟨b + 1, 0, none⟩)] encT (Sv (tidesP w.heap.size b))
      (fun ys => ys = tidesL m g l (g ⟨m.nl, m.nh⟩) plan 0) (fun pre => pre <+: tidesL m g l (g ⟨m.nl, m.nh⟩) plan 0) plan.length W := fun lp J Jx W' hW' hJ hJx hY hj =>
  tides1_in m g fo A c l A2 c2 plan hfi hE hg lp b w hr hc hr2 hc2 hb J Jx W' (hW.then hW') hJ hY (Up.cell hW' h0)
    ⟨Up.cell hW' hv.1, Up.cell hW' hv.2.1, Up.cell hW' hv.2.2.1, Up.cell hW' hv.2.2.2.1, Up.cell hW' hv.2.2.2.2.1, Up.cell hW' hv.2.2.2.2.2.1, Up.cell hW' hv.2.2.2.2.2.2.1, Up.cell hW' hv.2.2.2.2.2.2.2⟩ (Up.cell hW' hp) (Nat.lt_of_lt_of_le hbW hW'.size) hj
set_option maxRecDepth 100000 in
set_option maxHeartbeats 2000000 in
theorem dry_ (m : Mill) (g : Sp → Int) (fo : FuncId) (A : Option Addr) (c : Nat) (l : List Sp) (A2 : Option Addr) (c2 : Nat) (plan : List Int) (hfi : Fine m g l plan)
    (hE : ∀ (args : Array Value) (w : World), (callFunc fo args).run Try.prog w = .ok (.enter fo args) w)
    (hg : ∀ a b W, Calls Try.prog fo #[.agg #[.int .i64 a, .int .i64 b]] W fun e W' => e = .returned (.int .i64 (g ⟨a, b⟩)) ∧ Up W W')
    (w : World) (hr : Kd.C kSp w A l.length l) (hc : l.length ≤ c) (hr2 : Kd.C (Kd.int .i64) w A2 plan.length plan) (hc2 : plan.length ≤ c2) :
    Calls Try.prog 62 #[.agg #[.int .i64 m.H, .int .i64 m.T, .int .i64 m.bl, .int .i64 m.bh, .int .i64 m.ho, .int .i64 m.nl, .int .i64 m.nh, .slice A l.length c], .slice A2 plan.length c2, .func (.func fo) #[] #[]] w fun e w' => e = .returned (.int .i64 (dryS m g l plan)) ∧ Up w w' := by
  refine (callsIn_wide (n := 6)).1 ?_
  refine callsIn_of_wp_marks Try.func62 rfl trivial ?_ rfl
  simp only [Try.ntmps62, List.size_toArray, List.length_cons, List.length_nil, Nat.reduceAdd, Nat.reduceSub, Array.replicate_succ, Array.replicate_zero, List.push_toArray, List.append_toArray, List.nil_append, List.cons_append]
  have HR := Aside0.mk hr
  have HR2 := Aside0.mk hr2
  have HE := Aside0.mk hE
  have HG := Aside0.mk hg
  clear hr hr2 hE hg
  gi_wp2_with fail
  refine ⟨trivial, (callsIn_wide.2 (tides_ _ _ _ _ _ _ _ _ _)).mono ?_⟩
  rintro e w1 ⟨rfl, rfl⟩
  gi_wp2_with fail
  refine wpIn_rangeFunc_ownH (F := Fence.wide) rfl (by decide) (gf := 94) (lb := #[.pointer (some ⟨w.heap.size + 1 + 1 + 2, 0, none⟩), .pointer (some ⟨w.heap.size + 1 + 1, 0, none⟩), .pointer (some ⟨w.heap.size + 1 + 1 + 1, 0, none⟩)]) rfl trivial (enters_of Try.func94 (by kernel_rfl) rfl)
    (tides_stops m g fo A c l A2 c2 plan hfi HE.out HG.out (w.heap.size + 1 + 1) w HR.out hc HR2.out hc2 (by omega) _ ?up ?c1 ?c2 ?c3 ?c4) Sv.trans
    (fun W q o o' hq _ _ _ => Sv.put W q o' (by simp at hq; simp only [tidesP]; omega)) (Below.refl _ _) (fun _ => rfl)
    (fun pre W => ((∀ t ∈ pre, ¬ t.left < 0) ∧ W.cell? ⟨w.heap.size + 1, 0, none⟩ = some (.int .i64 0) ∧ W.frozen? ⟨w.heap.size + 1, 0, none⟩ = false) ∧ (Below w.heap.size w W ∧ w.heap.size + 5 ≤ W.heap.size))
    (fun q pre W => (q = .ret ∧ ∃ ini last, pre = ini ++ [last] ∧ (∀ t ∈ ini, ¬ t.left < 0) ∧ last.left < 0 ∧ W.cell? ⟨w.heap.size + 1, 0, none⟩ = some (.int .i64 (last.hour : Int))) ∧ Below w.heap.size w W)
    (OwnFrom.and (Own.from (fun s A B row hs hg hr => ⟨hs.1, cell_kept hs.2.1 hg hr, (frozen_kept hs.2.1 hg hr).trans hs.2.2⟩) _) (fun s X Y row hs hg hr => ⟨hs.1.grown hg hs.1.size (fun k e => by have := (hr k e).1; simp at this; omega), by have := hg.size; omega⟩))
    (fun q => OwnFrom.and (Own.from (fun s A B row hs hg hr => by obtain ⟨hc, ini, last, e1, e2, e3, e4⟩ := hs; exact ⟨hc, ini, last, e1, e2, e3, cell_kept e4 hg hr⟩) _) (ownFrom_below (Nat.le_refl _) (by simp; omega)))
    ⟨⟨?c5, ?c6, ?c7⟩, ?up2, ?c8⟩
    (fun x a' W => ∃ Bx, w.heap.size + 5 ≤ Bx ∧ W.cell? ⟨Bx, 0, none⟩ = some (.int .i64 x.full) ∧ W.cell? ⟨Bx, 1, none⟩ = some (.int .i64 x.left) ∧ a' = { tmps := #[.agg #[.int .i64 m.H, .int .i64 m.T, .int .i64 m.bl, .int .i64 m.bh, .int .i64 m.ho, .int .i64 m.nl, .int .i64 m.nh, .slice A l.length c], .slice A2 plan.length c2, .func (.func fo) #[] #[], .pointer (some ⟨w.heap.size, 0, none⟩), undef, undef, .pointer (some ⟨w.heap.size + 1, 0, none⟩), .int .i64 (x.hour : Int), .pointer (some ⟨Bx, 0, none⟩), .agg #[.int .i64 m.H, .int .i64 m.T, .int .i64 m.bl, .int .i64 m.bh, .int .i64 m.ho, .int .i64 m.nl, .int .i64 m.nh, .slice A l.length c], .slice A2 plan.length c2, .func (.func fo) #[] #[], .func (.func 94) #[] #[.pointer (some ⟨w.heap.size + 1 + 1 + 2, 0, none⟩), .pointer (some ⟨w.heap.size + 1 + 1, 0, none⟩), .pointer (some ⟨w.heap.size + 1 + 1 + 1, 0, none⟩)], .int .i64 (x.hour : Int), .agg #[.int .i64 x.full, .int .i64 x.left], undef, undef, undef, undef], defers := [] })
    (fun x a' => Own.from (fun s A B row hs hg hr => by obtain ⟨Bx, h1, h2, h3, h4⟩ := hs; exact ⟨Bx, h1, cell_kept h2 hg hr, cell_kept h3 hg hr, h4⟩) _)
    ?assign ?body ?done ?stop
  case up => exact upA
  case up2 =>
    show Up _ _
    exact upA
  case c1 => simp [go_sem]
  case c2 => simp [go_sem]
  case c3 => simp [go_sem]
  case c4 => simp
  case c5 => simp
  case c6 => simp [go_sem]
  case c7 => simp [go_sem]
  case c8 => simp
  case assign =>
    rintro q pre x W K ⟨⟨hp, hcr, hfr⟩, hB, hz⟩ hK
    dsimp only [encT]
    gi_wp2_with fail
    refine hK _ _ ((KeepsOthers.alloc _ _).from _) (Sv.alloc (Sv.refl (tidesP w.heap.size (w.heap.size + 1 + 1)) W) _ ?z1) ⟨⟨hp, ?_, ?_⟩, ?_, ?_⟩ ⟨W.heap.size, hz, ?_, ?_, rfl⟩
    case z1 => simp only [tidesP]; omega
    · exact ((Up.refl W).alloc _).cell hcr
    · exact (((Up.refl W).alloc _).old.2 _ _ (by omega)).trans hfr
    · exact hB.alloc hB.size _
    · simp; omega
    · simp
    · simp
  case body =>
    rintro q pre x a' W hq _ ⟨⟨hp, hcr, hfr⟩, hB, hz⟩ ⟨Bx, hx1, hx2, hx3, rfl⟩ hN
    have HP := Aside0.mk hp
    clear hp
    by_cases hneg : x.left < 0
    · gi_wp2_with fail
      exact ⟨(KeepsOthers.setCell _ _ _).from _, ⟨rfl, pre, x, rfl, HP.out, hneg, World.cell?_setCell_same' _ _ _ (by rw [hcr]; rfl)⟩, hB.setCell (p := ⟨w.heap.size + 1, 0, none⟩) (by simp) _⟩
    · gi_wp2_with fail
      exact ⟨KeepsFrom.refl _ _, Sv.refl _ _, ⟨fun t ht => (List.mem_append.1 ht).elim (HP.out t) (fun e => by simp at e; subst e; exact hneg), hcr, hfr⟩, hB, hz⟩
  case done =>
    rintro D ys W hD rfl ⟨⟨hne, hcr, hfr⟩, hB, hz⟩ hK
    have HN := Aside0.mk hne
    clear hne
    gi_wp2_with fail
    have hK' := (KeepsOthers.setCell W ⟨w.heap.size + 1, 0, none⟩ (.int .i64 (-1))).same D _ hK rfl
    refine ⟨by simp, .inl ⟨_, _, rfl, run_takeDeferred hK', ?_⟩⟩
    have hc5 := cell_kept (World.cell?_setCell_same' W ⟨w.heap.size + 1, 0, none⟩ (.int .i64 (-1)) (by rw [hcr]; rfl)) (grownBy_putObj' _ D (.deferred none)) (fun r e => by cases e; exact ⟨_, hK', rfl⟩)
    refine ⟨.int .i64 (-1), ?_, ?_, (hB.setCell (p := ⟨w.heap.size + 1, 0, none⟩) (by simp) _).trans (belowK_b (w := w) (Nat.le_refl _) _ D _ _ (by simp at hD; omega) hK' rfl rfl)⟩
    · simp [results, Try.f62, go_sem, hc5]
    · have : dryS m g l plan = -1 := by
        unfold dryS dryF
        rw [List.find?_eq_none.2 (fun t ht => by simpa using HN.out t ht)]
      rw [this]
  case stop =>
    rintro D q pre W hD hpre ⟨⟨rfl, ini, last, e1, e2, e3, hcr⟩, hB⟩ hK
    have hval : dryS m g l plan = last.hour := by
      obtain ⟨suf, hsuf⟩ := hpre
      unfold dryS dryF
      rw [← hsuf, e1, List.append_assoc, List.find?_append, List.find?_eq_none.2 (fun t ht => by simpa using e2 t ht)]
      simp [e3]
    have HV := Aside0.mk hval
    clear hval hpre e1 e2
    gi_wp2_with fail
    refine ⟨by simp, .inl ⟨_, _, rfl, run_takeDeferred hK, ?_⟩⟩
    have hc5 := cell_kept hcr (grownBy_putObj' _ D (.deferred none)) (fun r e => by cases e; exact ⟨_, hK, rfl⟩)
    refine ⟨.int .i64 (last.hour : Int), ?_, by rw [HV.out], hB.trans (belowK_b (w := w) (Nat.le_refl _) _ D _ _ (by simp at hD; omega) hK rfl rfl)⟩
    simp [results, Try.f62, go_sem, hc5]
end Go.Proofs.Ytcnlbbmokphjnaa
namespace Go.Proofs.Ytcnlbbmokphjnaa
open Go.RowKit Go.Shelf Go.Proofs.YtcnlbbmokphjnaaW.PrintWords
set_option linter.unusedVariables false
set_option linter.unusedSimpArgs false
theorem inB_iff (lo hi : Int) (l : List Int) : inB lo hi l = true ↔ ∀ n ∈ l, lo ≤ n ∧ n ≤ hi := by
  unfold inB
  simp only [Bool.not_eq_true', List.any_eq_false, Bool.or_eq_true, decide_eq_true_eq]
  exact ⟨fun h n hn => by have := h n hn; omega, fun h n hn => by have := h n hn; omega⟩
theorem isSpanB_iff (a b lo hi : Int) : isSpanB a b lo hi = true ↔ lo ≤ a ∧ a ≤ b ∧ b ≤ hi := by
  unfold isSpanB
  rw [Bool.and_eq_true, inB_iff, decide_eq_true_eq]
  simp only [List.mem_cons, List.mem_singleton, forall_eq_or_imp, forall_eq, List.not_mem_nil, false_implies, implies_true, and_true]
  omega
structure Valid (m : Mill) (l : List Sp) : Prop where
  H : 1 ≤ m.H ∧ m.H ≤ 8
  T : 0 ≤ m.T ∧ m.T ≤ 100
  bl : 0 ≤ m.bl ∧ m.bl ≤ m.bh ∧ m.bh ≤ 5000
  ho : 0 ≤ m.ho ∧ m.ho ≤ 500
  now : 0 ≤ m.nl ∧ m.nl ≤ m.nh ∧ m.nh ≤ m.ho
  len : 1 ≤ l.length ∧ l.length ≤ 24
  flow : ∀ s ∈ l, 0 ≤ s.lo ∧ s.lo ≤ s.hi ∧ s.hi ≤ 500
theorem millB_iff (m : Mill) : millB m = true ↔ (1 ≤ m.H ∧ m.H ≤ 8) ∧ (0 ≤ m.T ∧ m.T ≤ 100) ∧ (0 ≤ m.bl ∧ m.bl ≤ m.bh ∧ m.bh ≤ 5000) ∧ (0 ≤ m.ho ∧ m.ho ≤ 500) ∧ (0 ≤ m.nl ∧ m.nl ≤ m.nh ∧ m.nh ≤ m.ho) := by
  unfold millB
  simp only [Bool.and_eq_true, inB_iff, isSpanB_iff, List.mem_singleton, forall_eq]
  omega
theorem valid_of (m : Mill) (l : List Sp) (h : checkE m l = 0) : Valid m l := by
  have hb : millB m = true := by
    cases hm : millB m
    · simp [checkE, millE, hm] at h
    · rfl
  have h1 : millE m = 0 := by simp [millE, hb]
  simp only [checkE, h1] at h
  obtain ⟨a, b, c, d, e⟩ := (millB_iff m).1 hb
  by_cases h2 : l.length > 24
  · simp [h2] at h
  by_cases h3 : l.length = 0
  · simp [h3] at h
  cases h4 : l.any badSp
  · refine ⟨a, b, c, d, e, by omega, fun s hs => ?_⟩
    have := List.any_eq_false.1 h4 s hs
    simp only [badSp, Bool.not_eq_true', Bool.not_eq_false'] at this
    exact (isSpanB_iff _ _ _ _).1 (by simpa using this)
  · rw [h4] at h
    simp [h2, h3] at h
theorem check_of (m : Mill) (l : List Sp) (h : Valid m l) : checkE m l = 0 := by
  have hb : millB m = true := (millB_iff m).2 ⟨h.H, h.T, h.bl, h.ho, h.now⟩
  have h1 : millE m = 0 := by simp [millE, hb]
  have h4 : l.any badSp = false := List.any_eq_false.2 fun s hs => by
    have := (isSpanB_iff s.lo s.hi 0 500).2 (h.flow s hs)
    simp [badSp, this]
  have := h.len
  simp only [checkE, h1, h4]
  rw [if_pos trivial, if_neg (by omega), if_neg (by omega)]
  rfl
theorem planB_iff (m : Mill) (n : Nat) (plan : List Int) (least : Int) : planB m n plan least = true ↔ (least ≤ plan.length ∧ plan.length ≤ n) ∧ ∀ k ∈ plan, 0 ≤ k ∧ k ≤ m.H := by
  unfold planB
  rw [Bool.and_eq_true, inB_iff, inB_iff]
  simp only [List.mem_singleton, forall_eq]
  constructor
  · rintro ⟨h1, h2⟩
    exact ⟨⟨h1.1, by omega⟩, h2⟩
  · rintro ⟨h1, h2⟩
    exact ⟨⟨h1.1, by omega⟩, h2⟩
theorem open_of (m : Mill) (l : List Sp) (plan : List Int) (least : Int) (h : openE m l plan least = 0) : Valid m l ∧ planB m l.length plan least = true := by
  unfold openE at h
  by_cases h1 : checkE m l = 0
  · rw [if_pos h1] at h
    cases h2 : planB m l.length plan least
    · rw [h2] at h; simp at h
    · exact ⟨valid_of m l h1, rfl⟩
  · rw [if_neg h1] at h; exact absurd h h1
theorem fine_lo {m : Mill} {l : List Sp} {plan : List Int} {least : Int} (h : Valid m l) (hp : planB m l.length plan least = true) : Fine m Sp.lo l plan := by
  obtain ⟨h1, h2⟩ := (planB_iff _ _ _ _).1 hp
  have h3 := h.H
  have h4 := h.now
  have h5 := h.ho
  exact ⟨h.ho, h.T, by simp only; omega, fun s hs => by have := h.flow s hs; omega, fun k hk => by have := h2 k hk; omega, by omega⟩
theorem fine_hi {m : Mill} {l : List Sp} {plan : List Int} {least : Int} (h : Valid m l) (hp : planB m l.length plan least = true) : Fine m Sp.hi l plan := by
  obtain ⟨h1, h2⟩ := (planB_iff _ _ _ _).1 hp
  have h3 := h.H
  have h4 := h.now
  have h5 := h.ho
  exact ⟨h.ho, h.T, by simp only; omega, fun s hs => by have := h.flow s hs; omega, fun k hk => by have := h2 k hk; omega, by omega⟩
theorem dry_low (m : Mill) (A : Option Addr) (c : Nat) (l : List Sp) (A2 : Option Addr) (c2 : Nat) (plan : List Int) (hfi : Fine m Sp.lo l plan)
    (w : World) (hr : Kd.C kSp w A l.length l) (hc : l.length ≤ c) (hr2 : Kd.C (Kd.int .i64) w A2 plan.length plan) (hc2 : plan.length ≤ c2) :
    Calls Try.prog 62 #[.agg #[.int .i64 m.H, .int .i64 m.T, .int .i64 m.bl, .int .i64 m.bh, .int .i64 m.ho, .int .i64 m.nl, .int .i64 m.nh, .slice A l.length c], .slice A2 plan.length c2, .func (.func 63) #[] #[]] w fun e w' => e = .returned (.int .i64 (dryS m Sp.lo l plan)) ∧ Up w w' :=
  dry_ m Sp.lo 63 A c l A2 c2 plan hfi (by intro a w; kernel_rfl) (fun a b W => low_ a b W) w hr hc hr2 hc2
theorem dry_high (m : Mill) (A : Option Addr) (c : Nat) (l : List Sp) (A2 : Option Addr) (c2 : Nat) (plan : List Int) (hfi : Fine m Sp.hi l plan)
    (w : World) (hr : Kd.C kSp w A l.length l) (hc : l.length ≤ c) (hr2 : Kd.C (Kd.int .i64) w A2 plan.length plan) (hc2 : plan.length ≤ c2) :
    Calls Try.prog 62 #[.agg #[.int .i64 m.H, .int .i64 m.T, .int .i64 m.bl, .int .i64 m.bh, .int .i64 m.ho, .int .i64 m.nl, .int .i64 m.nh, .slice A l.length c], .slice A2 plan.length c2, .func (.func 64) #[] #[]] w fun e w' => e = .returned (.int .i64 (dryS m Sp.hi l plan)) ∧ Up w w' :=
  dry_ m Sp.hi 64 A c l A2 c2 plan hfi (by intro a w; kernel_rfl) (fun a b W => high_ a b W) w hr hc hr2 hc2
def rightB (m : Mill) (l : List Sp) (plan : List Int) : Bool := dryS m Sp.lo l plan == -1
theorem isRight_ (m : Mill) (A : Option Addr) (c : Nat) (l : List Sp) (A2 : Option Addr) (c2 : Nat) (plan : List Int) (hfi : Fine m Sp.lo l plan)
    (w : World) (hr : Kd.C kSp w A l.length l) (hc : l.length ≤ c) (hr2 : Kd.C (Kd.int .i64) w A2 plan.length plan) (hc2 : plan.length ≤ c2) :
    Calls Try.prog 65 #[.agg #[.int .i64 m.H, .int .i64 m.T, .int .i64 m.bl, .int .i64 m.bh, .int .i64 m.ho, .int .i64 m.nl, .int .i64 m.nh, .slice A l.length c], .slice A2 plan.length c2] w fun e w' => e = .returned (.bool (rightB m l plan)) ∧ Up w w' := by
  have HR := Aside0.mk hr
  have HR2 := Aside0.mk hr2
  clear hr hr2
  go_enter Try.func65, Try.ntmps65
  go_wp2_with (go_at_call 62; (with_reducible refine (dry_low m A c l A2 c2 plan hfi _ (C_up HR.out upA) hc (C_up HR2.out upA) hc2).mono ?_); rintro e w' ⟨rfl, hb⟩; have hbA := Aside0.mk hb; obtain ⟨hcA, hfA⟩ := hb.old; have hz := hb.le; (try simp at hz); (try have hz0 : w.heap.size < w'.heap.size := by omega); (try have hzb : w.heap.size + 1 < w'.heap.size := by omega); (try have hzc : w.heap.size + 2 < w'.heap.size := by omega); clear hb)
  go_ret
  exact ⟨ret_bool rfl, upA⟩
def goesI (m : Mill) (l : List Sp) (plan : List Int) : Int := if openE m l plan l.length = 0 then (if dryS m Sp.lo l plan = -1 then 0 else dryS m Sp.lo l plan) else 0
def goesB (m : Mill) (l : List Sp) (plan : List Int) : Bool := if openE m l plan l.length = 0 then (if dryS m Sp.lo l plan = -1 then false else dryS m Sp.hi l plan == dryS m Sp.lo l plan) else false
def goesE (m : Mill) (l : List Sp) (plan : List Int) : Int := if openE m l plan l.length = 0 then (if dryS m Sp.lo l plan = -1 then 7 else 0) else openE m l plan l.length
set_option maxRecDepth 100000 in
theorem goesF_ (m : Mill) (A : Option Addr) (c : Nat) (l : List Sp) (A2 : Option Addr) (c2 : Nat) (plan : List Int)
    (w : World) (hr : Kd.C kSp w A l.length l) (hc : l.length ≤ c) (hr2 : Kd.C (Kd.int .i64) w A2 plan.length plan) (hc2 : plan.length ≤ c2) :
    Calls Try.prog 19 #[.agg #[.int .i64 m.H, .int .i64 m.T, .int .i64 m.bl, .int .i64 m.bh, .int .i64 m.ho, .int .i64 m.nl, .int .i64 m.nh], .slice A l.length c, .slice A2 plan.length c2] w fun e w' => e = .returned (.tuple #[.int .i64 (goesI m l plan), .bool (goesB m l plan), .int .i64 (goesE m l plan)]) ∧ Up w w' := by
  have HR := Aside0.mk hr
  have HR2 := Aside0.mk hr2
  clear hr hr2
  by_cases h0 : openE m l plan l.length = 0
  · have hv := open_of m l plan _ h0
    have hlo := fine_lo hv.1 hv.2
    have hhi := fine_hi hv.1 hv.2
    have H0 := Aside0.mk h0
    have h00 : (openE m l plan l.length != 0) = false := by simp [h0]
    clear h0 hv
    by_cases h1 : dryS m Sp.lo l plan = -1
    · have h10 : (dryS m Sp.lo l plan == -1) = true := by simp [h1]
      have H1 := Aside0.mk h1
      clear h1
      go_enter Try.func19, Try.ntmps19
      go_wp2_with fail
      (with_reducible refine (openPlan m A c l A2 c2 plan _ _ (C_up HR.out upA) hc (C_up HR2.out upA) hc2).mono ?_)
      rintro e w1 ⟨rfl, hb⟩
      have hbA := Aside0.mk hb
      obtain ⟨hcA, hfA⟩ := hb.old
      have hz := hb.le
      (try simp at hz)
      (try have hz0 : w.heap.size < w1.heap.size := by omega)
      (try have hzb : w.heap.size + 1 < w1.heap.size := by omega)
      (try have hzc : w.heap.size + 2 < w1.heap.size := by omega)
      clear hb
      go_wp2_with (go_at_call 62; (with_reducible refine (dry_low m A c l A2 c2 plan hlo _ (C_up HR.out upA) hc (C_up HR2.out upA) hc2).mono ?_); rintro e w' ⟨rfl, hb⟩; have hbA := Aside0.mk hb; obtain ⟨hcA, hfA⟩ := hb.old; have hz := hb.le; (try simp at hz); (try have hz0 : w.heap.size < w'.heap.size := by omega); (try have hzb : w.heap.size + 1 < w'.heap.size := by omega); (try have hzc : w.heap.size + 2 < w'.heap.size := by omega); clear hb)
      go_ret3
      exact ⟨by simp [goesI, goesB, goesE, H0.out, H1.out], upA⟩
    · have h10 : (dryS m Sp.lo l plan == -1) = false := by simp [h1]
      have H1 := Aside0.mk h1
      clear h1
      go_enter Try.func19, Try.ntmps19
      go_wp2_with fail
      (with_reducible refine (openPlan m A c l A2 c2 plan _ _ (C_up HR.out upA) hc (C_up HR2.out upA) hc2).mono ?_)
      rintro e w1 ⟨rfl, hb⟩
      have hbA := Aside0.mk hb
      obtain ⟨hcA, hfA⟩ := hb.old
      have hz := hb.le
      (try simp at hz)
      (try have hz0 : w.heap.size < w1.heap.size := by omega)
      (try have hzb : w.heap.size + 1 < w1.heap.size := by omega)
      (try have hzc : w.heap.size + 2 < w1.heap.size := by omega)
      clear hb
      go_wp2_with (first | (go_at_call 62; (with_reducible refine (dry_low m A c l A2 c2 plan hlo _ (C_up HR.out upA) hc (C_up HR2.out upA) hc2).mono ?_); rintro e w' ⟨rfl, hb⟩; have hbA := Aside0.mk hb; obtain ⟨hcA, hfA⟩ := hb.old; have hz := hb.le; (try simp at hz); (try have hz0 : w.heap.size < w'.heap.size := by omega); (try have hzb : w.heap.size + 1 < w'.heap.size := by omega); (try have hzc : w.heap.size + 2 < w'.heap.size := by omega); have hz1 : w1.heap.size < w'.heap.size := (by omega); clear hb) | (go_at_call 62; (with_reducible refine (dry_high m A c l A2 c2 plan hhi _ (C_up HR.out upA) hc (C_up HR2.out upA) hc2).mono ?_); rintro e w' ⟨rfl, hb⟩; have hbA := Aside0.mk hb; obtain ⟨hcA, hfA⟩ := hb.old; have hz := hb.le; (try simp at hz); (try have hz0 : w.heap.size < w'.heap.size := by omega); (try have hzb : w.heap.size + 1 < w'.heap.size := by omega); (try have hzc : w.heap.size + 2 < w'.heap.size := by omega); clear hb))
      go_ret3
      exact ⟨by simp [goesI, goesB, goesE, H0.out, H1.out], upA⟩
  · have H0 := Aside0.mk h0
    have h00 : (openE m l plan l.length != 0) = true := by simp [h0]
    clear h0
    go_enter Try.func19, Try.ntmps19
    go_wp2_with fail
    (with_reducible refine (openPlan m A c l A2 c2 plan _ _ (C_up HR.out upA) hc (C_up HR2.out upA) hc2).mono ?_)
    rintro e w1 ⟨rfl, hb⟩
    have hbA := Aside0.mk hb
    obtain ⟨hcA, hfA⟩ := hb.old
    have hz := hb.le
    (try simp at hz)
    (try have hz0 : w.heap.size < w1.heap.size := by omega)
    (try have hzb : w.heap.size + 1 < w1.heap.size := by omega)
    (try have hzc : w.heap.size + 2 < w1.heap.size := by omega)
    clear hb
    go_wp2_with fail
    go_ret3
    exact ⟨by simp [goesI, goesB, goesE, H0.out], upA⟩
end Go.Proofs.Ytcnlbbmokphjnaa
namespace Go.Proofs.Ytcnlbbmokphjnaa
open Go.RowKit Go.Shelf Go.Proofs.YtcnlbbmokphjnaaW.PrintWords
set_option linter.unusedVariables false
set_option linter.unusedSimpArgs false
attribute [local go_sem] bi_max2 bi_min2 bi_max_two bi_min_two
def afterW (m : Mill) (s : Sp) (water k : Int) : Int := min m.ho (water + s.lo) - k * m.T
set_option maxRecDepth 100000 in
set_option maxHeartbeats 1000000 in
theorem after_ (m : Mill) (A : Option Addr) (c : Nat) (l : List Sp) (r : Nat) (h : Nat) (water k : Int) (w : World) (hr : Kd.C kSp w A l.length l) (hc : l.length ≤ c)
    (hh : h < l.length) (hlen : l.length ≤ 1000) (hw : 0 ≤ water ∧ water ≤ 2000) (hf : 0 ≤ (rdS l h).lo ∧ (rdS l h).lo ≤ 2000) (hk : 0 ≤ k ∧ k ≤ 10) (hT : 0 ≤ m.T ∧ m.T ≤ 100) (hho : 0 ≤ m.ho ∧ m.ho ≤ 500) :
    Calls Try.prog 75 #[.agg #[.int .i64 m.H, .int .i64 m.T, .int .i64 m.bl, .int .i64 m.bh, .int .i64 m.ho, .int .i64 m.nl, .int .i64 m.nh, .slice A l.length c, .map (some r)], .agg #[.int .i64 (h : Int), .int .i64 water], .int .i64 k] w fun e w' => e = .returned (.agg #[.int .i64 ((h + 1 : Nat) : Int), .int .i64 (afterW m (rdS l h) water k)]) ∧ Up w w' := by
  obtain ⟨ad, e, hx0, hx1⟩ := at_Sp hr h (by omega) (by omega)
  cases e
  simp only [Int.toNat_natCast] at hx0 hx1
  have hi0 : (0 : Int) ≤ (h : Int) := by omega
  have hi1 : (h : Int) < (l.length : Int) := by omega
  have hkT : 0 ≤ k * m.T := Int.mul_nonneg hk.1 hT.1
  have hkT2 : k * m.T ≤ 10 * 100 := Int.mul_le_mul hk.2 hT.2 hT.1 (by omega)
  have hwr : IntKind.i64.wrap (water + (rdS l h).lo) = water + (rdS l h).lo := IntWalk.i64_in _ (by omega)
  have hwr1 : IntKind.i64.wrap ((h : Int) + 1) = (h : Int) + 1 := IntWalk.i64_in _ (by omega)
  have hwr2 : IntKind.i64.wrap (k * m.T) = k * m.T := IntWalk.i64_in _ (by omega)
  have hwr3 : IntKind.i64.wrap (min m.ho (water + (rdS l h).lo) - k * m.T) = min m.ho (water + (rdS l h).lo) - k * m.T := IntWalk.i64_in _ (by omega)
  have hxx : ∀ C : Obj, (((w.alloc (.cells #[.int .i64 m.H, .int .i64 m.T, .int .i64 m.bl, .int .i64 m.bh, .int .i64 m.ho, .int .i64 m.nl, .int .i64 m.nh, .slice (some ad) l.length c, .map (some r)] 115)).alloc (.cells #[.int .i64 (h : Int), .int .i64 water] 118)).alloc C).cell? (ad.add (h * 2)) = some (.int .i64 (rdS l h).lo) := fun C => Up.cell upA hx0
  go_enter Try.func75, Try.ntmps75
  go_wp2_with fail
  go_region_held3 (fun W => W.cell? ⟨w.heap.size, 1, none⟩ = some (.int .i64 m.T) ∧ W.cell? ⟨w.heap.size, 4, none⟩ = some (.int .i64 m.ho) ∧ W.cell? ⟨w.heap.size, 7, none⟩ = some (.slice (some ad) l.length c) ∧ W.cell? ⟨w.heap.size + 1, 0, none⟩ = some (.int .i64 (h : Int)) ∧ W.cell? ⟨w.heap.size + 1, 1, none⟩ = some (.int .i64 water) ∧ W.cell? (ad.add (h * 2)) = some (.int .i64 (rdS l h).lo)) (go_keep) (fail)
  go_wp2_with fail
  refine bodyPost_ret (v := .agg #[.int .i64 ((h + 1 : Nat) : Int), .int .i64 (afterW m (rdS l h) water k)]) ?_ rfl ⟨rfl, upA⟩
  clear hwr hwr1 hwr2 hwr3
  simp [results, Try.results75, go_sem, afterW]
theorem eq_spot (d : Nat) (w : World) (a b x y : Int) : (Op.equalIn (d + 2) 118 (.agg #[.int .i64 a, .int .i64 b]) (.agg #[.int .i64 x, .int .i64 y])).run Try.prog w = .ok (a == x && b == y) w := by
  refine eqA_of Try.underlying118 (by kernel_rfl) ?_
  refine eqf_cons (by rfl) (by go_simp; rfl) (by go_simp; rfl) (by go_simp) ?_
  exact eqf_last (by rfl) (by go_simp; rfl) (by go_simp; rfl) (by go_simp)
def keyV (a b : Int) : Value := .agg #[.int .i64 a, .int .i64 b]
open Classical in
noncomputable def findL (a b : Int) : List MapEntry → Nat → Option (Nat × Value)
  | [], _ => none
  | e :: es, i => if e.key = keyV a b then some (i, e.val) else findL a b es (i + 1)
def AllF (f : Int → Int → Int) (es : List MapEntry) : Prop := ∀ e ∈ es, ∃ a b, e.key = keyV a b ∧ e.val = .int .i64 (f a b)
theorem keyV_inj {a b x y : Int} (h : keyV a b = keyV x y) : a = x ∧ b = y := by
  simp only [keyV, Value.agg.injEq] at h
  simpa using h
theorem findAsking_run (f : Int → Int → Int) (a b : Int) (w : World) : ∀ (es : List MapEntry) (i : Nat), AllF f es → (Instr.findAsking 118 (keyV a b) es i).run Try.prog w = .ok (findL a b es i) w
  | [], i, _ => rfl
  | e :: es, i, h => by
    obtain ⟨x, y, hk, hv⟩ := h e (List.mem_cons_self ..)
    have ih := findAsking_run f a b w es (i + 1) (fun e' he' => h e' (List.mem_cons_of_mem _ he'))
    have he : (Op.equal 118 (keyV a b) e.key).run Try.prog w = .ok (a == x && b == y) w := by
      rw [hk]
      exact eq_spot 9998 w a b x y
    have hd : (e.key = keyV a b) ↔ (a == x && b == y) = true := by
      rw [hk]
      constructor
      · intro h; obtain ⟨rfl, rfl⟩ := keyV_inj h; simp
      · intro h; simp at h; rw [h.1, h.2]
    simp only [Instr.findAsking, findL]
    cases hc : (a == x && b == y)
    · rw [hc] at he
      rw [if_neg (by rw [hd, hc]; simp)]
      simp [go_sem, he, ih]
    · rw [hc] at he
      rw [if_pos (hd.2 hc)]
      simp [go_sem, he]
theorem findKey_run (f : Int → Int → Int) (a b : Int) (w : World) (es : List MapEntry) (h : AllF f es) : (Instr.findKey 118 (keyV a b) es).run Try.prog w = .ok (findL a b es 0) w := by
  have hn : ∀ es i, Instr.findNow (.struct #[]) (keyV a b) es i = if es = [] then some none else none := by
    intro es i
    cases es <;> simp [Instr.findNow, Instr.sameNow, keyV]
  have hu := Try.underlying118
  cases es with
  | nil => simp [Instr.findKey, go_sem, run_underlying hu, Instr.findNow, findL]
  | cons e es =>
    simp [Instr.findKey, go_sem, run_underlying hu, Instr.findNow, Instr.sameNow, keyV]
    exact findAsking_run f a b w (e :: es) 0 h
end Go.Proofs.Ytcnlbbmokphjnaa
namespace Go.Proofs.Ytcnlbbmokphjnaa
open Go.RowKit Go.Shelf Go.Proofs.YtcnlbbmokphjnaaW.PrintWords
set_option linter.unusedVariables false
set_option linter.unusedSimpArgs false
theorem findL_spec (f : Int → Int → Int) (a b : Int) : ∀ (es : List MapEntry) (i : Nat), AllF f es → findL a b es i = none ∨ ∃ j e, findL a b es i = some (i + j, .int .i64 (f a b)) ∧ es[j]? = some e ∧ e.key = keyV a b
  | [], i, _ => .inl rfl
  | e :: es, i, h => by
    obtain ⟨x, y, hk, hv⟩ := h e (List.mem_cons_self ..)
    by_cases hc : e.key = keyV a b
    · refine .inr ⟨0, e, ?_, rfl, hc⟩
      rw [hk] at hc
      obtain ⟨rfl, rfl⟩ := keyV_inj hc
      simp [findL, hk, hv]
    · rcases findL_spec f a b es (i + 1) (fun e' he' => h e' (List.mem_cons_of_mem _ he')) with h1 | ⟨j, e1, h1, h2, h3⟩
      · exact .inl (by simp [findL, hc, h1])
      · exact .inr ⟨j + 1, e1, by simp [findL, hc, h1]; omega, by simpa using h2, h3⟩
def Memo (f : Int → Int → Int) (w : World) (r : Nat) : Prop := ∃ es clock, w.heap[r]? = some (.map es clock) ∧ AllF f es.toList
theorem Memo.lt {f w r} (h : Memo f w r) : r < w.heap.size := by
  obtain ⟨es, clock, h1, _⟩ := h
  exact (Array.getElem?_eq_some_iff.1 h1).1
theorem Memo.up {f w r w'} (h : Memo f w r) (hu : Up w w') : Memo f w' r := by
  have hl := h.lt
  obtain ⟨es, clock, h1, h2⟩ := h
  exact ⟨es, clock, (hu.block r hl).trans h1, h2⟩
theorem checkKey_spot2 (em : Bool) (n : Nat) (a b : Int) (w : World) : (Instr.checkKey em (n + 2) 118 (keyV a b)).run Try.prog w = .ok () w := by
  have hu := Try.underlying118
  have hi := Try.underlying3
  have h1 : ∀ (x : Int), (Instr.checkKey em (n + 1) 3 (.int .i64 x)).run Try.prog w = .ok () w := fun x => by simp [Instr.checkKey, go_sem, run_underlying hi]
  have h2 : ∀ (w : World) (x y : Int), (part 3 #[.int .i64 x, .int .i64 y] 0).run Try.prog w = .ok (.int .i64 x) w := fun w x y => by go_simp
  have h3 : ∀ (w : World) (x y : Int), (part 3 #[.int .i64 x, .int .i64 y] 1).run Try.prog w = .ok (.int .i64 y) w := fun w x y => by go_simp
  rw [Instr.checkKey]
  simp [go_sem, run_underlying hu, keyV, h1, h2, h3]
theorem checkKey_spot (em : Bool) (a b : Int) (w : World) : (Instr.checkKey em 10000 118 (keyV a b)).run Try.prog w = .ok () w := checkKey_spot2 em 9998 a b w
theorem lookup_run (f : Int → Int → Int) (a b : Int) (w : World) (r : Nat) (h : Memo f w r) :
    (Instr.lookup 113 (.map (some r)) (keyV a b) true).run Try.prog w = .ok (.tuple #[.int .i64 0, .bool false]) w ∨ (Instr.lookup 113 (.map (some r)) (keyV a b) true).run Try.prog w = .ok (.tuple #[.int .i64 (f a b), .bool true]) w := by
  obtain ⟨es, clock, h1, h2⟩ := h
  have hu := Try.underlying113
  have hz : ∀ w, (zeroValue 3).run Try.prog w = .ok (.int .i64 0) w := by intro w; kernel_rfl
  have hg : ∀ w : World, w.heap[r]? = some (.map es clock) → (getObj r).run Try.prog w = .ok (.map es clock) w := fun w h => run_getObj_map w r es clock h
  rcases findL_spec f a b es.toList 0 h2 with h3 | ⟨j, e, h3, h4, h5⟩
  · left
    simp [Instr.lookup, go_sem, run_underlying hu, hg w h1, checkKey_spot, findKey_run f a b w _ h2, h3, hz]
  · right
    simp [Instr.lookup, go_sem, run_underlying hu, hg w h1, checkKey_spot, findKey_run f a b w _ h2, h3, hz]
def Wr (r : Nat) (w w' : World) : Prop := Sv (fun k => k < w.heap.size ∧ k ≠ r) w w'
theorem Wr.refl (r : Nat) (w : World) : Wr r w w := Sv.refl _ _
theorem Wr.ofUp {r : Nat} {w w' : World} (h : Up w w') : Wr r w w' := h.sv (fun k hk => hk.1)
theorem Wr.then {r : Nat} {a b c : World} (h : Wr r a b) (k : Wr r b c) : Wr r a c :=
  ⟨k.os.trans h.os, k.tape.trans h.tape, k.output.trans h.output, Nat.le_trans h.size k.size, fun i hi => (k.block i ⟨Nat.lt_of_lt_of_le hi.1 h.size, hi.2⟩).trans (h.block i hi)⟩
theorem Wr.cell {r : Nat} {a b : World} (h : Wr r a b) {ad : Addr} {v : Value} (hp : ad.block ≠ r) (hc : a.cell? ad = some v) : b.cell? ad = some v := Sv.cell h ⟨World.block_lt_of_cell? a ad hc, hp⟩ hc
theorem Wr.old {r : Nat} {w w1 : World} (h : Wr r w w1) : (∀ b o, b < w.heap.size → b ≠ r → w1.cell? ⟨b, o, none⟩ = w.cell? ⟨b, o, none⟩) ∧ (∀ b o, b < w.heap.size → b ≠ r → w1.frozen? ⟨b, o, none⟩ = w.frozen? ⟨b, o, none⟩) :=
  ⟨fun b o hb hr => by have := h.block b ⟨hb, hr⟩; unfold World.cell?; rw [this], fun b o hb hr => by have := h.block b ⟨hb, hr⟩; unfold World.frozen?; rw [this]⟩
theorem Wr.up {r : Nat} {w0 w w' : World} (h : Wr r w w') (hr : w0.heap.size ≤ r) (h0 : Up w0 w) : Up w0 w' :=
  ⟨h.os.trans h0.os, h.tape.trans h0.tape, h.output.trans h0.output, Nat.le_trans h0.size h.size, fun k hk => (h.block k ⟨Nat.lt_of_lt_of_le hk h0.size, by omega⟩).trans (h0.block k hk)⟩
theorem update_run (f : Int → Int → Int) (a b : Int) (w : World) (r : Nat) (h : Memo f w r) :
    ∃ w', (Instr.mapUpdate 113 (.map (some r)) (keyV a b) (.int .i64 (f a b))).run Try.prog w = .ok () w' ∧ Memo f w' r ∧ Wr r w w' ∧ w'.heap.size = w.heap.size := by
  obtain ⟨es, clock, h1, h2⟩ := h
  have hu := Try.underlying113
  have hlt := (Array.getElem?_eq_some_iff.1 h1).1
  have key : ∀ o, AllF f o → ∀ es' cl', es'.toList = o → (setObj r (.map es' cl')).run Try.prog w = .ok () { w with heap := w.heap.setIfInBounds r (.map es' cl') } ∧ Memo f { w with heap := w.heap.setIfInBounds r (.map es' cl') } r ∧ Wr r w { w with heap := w.heap.setIfInBounds r (.map es' cl') } ∧ (w.heap.setIfInBounds r (.map es' cl')).size = w.heap.size := by
    rintro o ho es' cl' rfl
    refine ⟨by simp [setObj, Sem.run, h1], ⟨es', cl', ?_, ho⟩, ⟨rfl, rfl, rfl, by simp, fun k hk => ?_⟩, by simp⟩
    · simp [Array.getElem?_setIfInBounds, hlt]
    · simp [Array.getElem?_setIfInBounds, Ne.symm hk.2]
  rcases findL_spec f a b es.toList 0 h2 with h3 | ⟨j, e, h3, h4, h5⟩
  · obtain ⟨k1, k2, k3, k4⟩ := key (es.push { key := keyV a b, val := .int .i64 (f a b), born := clock }).toList (by
      intro e he
      simp at he
      rcases he with he | rfl
      · exact h2 e (by simpa using he)
      · exact ⟨a, b, rfl, rfl⟩) _ (clock + 1) rfl
    refine ⟨_, ?_, k2, k3, k4⟩
    simp [Instr.mapUpdate, go_sem, run_underlying hu, run_getObj_map w r es clock h1, checkKey_spot, findKey_run f a b w _ h2, h3, k1]
  · have h6 : es[j]? = some e := by simpa using h4
    have hst : ∀ w, (Instr.keyThatStays (keyV a b) (keyV a b)).run Try.prog w = .ok (keyV a b) w := fun w => by
      have : Instr.sameBits 10000 (keyV a b) (keyV a b) = true := by
        show Instr.sameBits (9999 + 1) (keyV a b) (keyV a b) = true
        simp [keyV, Instr.sameBits]
      simp [Instr.keyThatStays, this, go_sem]
    obtain ⟨k1, k2, k3, k4⟩ := key (es.modify j fun e => { e with key := keyV a b, val := .int .i64 (f a b) }).toList (by
      intro e' he'
      obtain ⟨i, hi⟩ := List.getElem?_of_mem he'
      rw [Array.getElem?_toList, Array.getElem?_modify] at hi
      by_cases hij : j = i
      · subst hij
        simp [h6] at hi
        subst hi
        exact ⟨a, b, rfl, rfl⟩
      · simp [hij] at hi
        exact h2 e' (List.mem_of_getElem? (by simpa using hi : es.toList[i]? = some e'))) _ clock rfl
    refine ⟨_, ?_, k2, k3, k4⟩
    simp [Instr.mapUpdate, go_sem, run_underlying hu, run_getObj_map w r es clock h1, checkKey_spot, findKey_run f a b w _ h2, h3, k1, h6, h5, hst]
end Go.Proofs.Ytcnlbbmokphjnaa
namespace Go.Proofs.Ytcnlbbmokphjnaa
open Go.RowKit Go.Shelf Go.Proofs.YtcnlbbmokphjnaaW.PrintWords
set_option linter.unusedVariables false
set_option linter.unusedSimpArgs false
attribute [local go_sem] bi_max2 bi_min2 bi_max_two bi_min_two
def mostL (m : Mill) : List Sp → Int → Int
  | [], _ => 0
  | s :: ss, water => (List.range (m.H + 1).toNat).foldl (fun (best : Int) (k : Nat) => if 0 ≤ afterW m s water k then max best (k + mostL m ss (afterW m s water k)) else best) 0
def bst (m : Mill) (s : Sp) (ss : List Sp) (water : Int) (k : Nat) : Int := (List.range k).foldl (fun (best : Int) (k : Nat) => if 0 ≤ afterW m s water k then max best (k + mostL m ss (afterW m s water k)) else best) 0
theorem mostL_cons (m : Mill) (s : Sp) (ss : List Sp) (water : Int) : mostL m (s :: ss) water = bst m s ss water (m.H + 1).toNat := rfl
theorem bst_succ (m : Mill) (s : Sp) (ss : List Sp) (water : Int) (k : Nat) : bst m s ss water (k + 1) = if 0 ≤ afterW m s water k then max (bst m s ss water k) (k + mostL m ss (afterW m s water k)) else bst m s ss water k := by
  simp only [bst, List.range_succ, List.foldl_append, List.foldl_cons, List.foldl_nil]
theorem mostL_bd (m : Mill) (hH : 0 ≤ m.H ∧ m.H ≤ 8) : ∀ (l : List Sp) (water : Int), 0 ≤ mostL m l water ∧ mostL m l water ≤ 8 * l.length
  | [], _ => by simp [mostL]
  | s :: ss, water => by
    rw [mostL_cons]
    have : ∀ k : Nat, (k : Int) ≤ m.H + 1 → 0 ≤ bst m s ss water k ∧ bst m s ss water k ≤ 8 * ((s :: ss).length : Nat) := by
      intro k
      induction k with
      | zero => intro _; simp [bst]; omega
      | succ k ih =>
        intro hk
        have h1 := ih (by omega)
        have h2 := mostL_bd m hH ss (afterW m s water k)
        rw [bst_succ]
        simp only [List.length_cons] at h1 ⊢
        split <;> omega
    exact this _ (by omega)
theorem bst_bd (m : Mill) (hH : 0 ≤ m.H ∧ m.H ≤ 8) (s : Sp) (ss : List Sp) (water : Int) (k : Nat) (hk : (k : Int) ≤ m.H + 1) : 0 ≤ bst m s ss water k ∧ bst m s ss water k ≤ 8 * (ss.length + 1) := by
  induction k with
  | zero => simp [bst]; omega
  | succ k ih =>
    have h1 := ih (by omega)
    have h2 := mostL_bd m hH ss (afterW m s water k)
    rw [bst_succ]
    split <;> omega
def knows (m : Mill) (l : List Sp) (h water : Int) : Int := mostL m (l.drop h.toNat) water
set_option maxRecDepth 100000 in
set_option maxHeartbeats 2000000 in
theorem most_ (m : Mill) (A : Option Addr) (c : Nat) (l : List Sp) (r : Nat) (w0 : World) (hr : Kd.C kSp w0 A l.length l) (hc : l.length ≤ c) (hr0 : w0.heap.size ≤ r) (hlen : l.length ≤ 1000)
    (hf : ∀ s ∈ l, 0 ≤ s.lo ∧ s.lo ≤ 2000) (hT : 0 ≤ m.T ∧ m.T ≤ 100) (hho : 0 ≤ m.ho ∧ m.ho ≤ 500) (hH : 0 ≤ m.H ∧ m.H ≤ 8) :
    ∀ (n h : Nat) (water : Int) (w : World), h + n = l.length → 0 ≤ water → water ≤ 2000 → Up w0 w → Memo (knows m l) w r →
    Calls Try.prog 76 #[.agg #[.int .i64 m.H, .int .i64 m.T, .int .i64 m.bl, .int .i64 m.bh, .int .i64 m.ho, .int .i64 m.nl, .int .i64 m.nh, .slice A l.length c, .map (some r)], .agg #[.int .i64 (h : Int), .int .i64 water]] w fun e w' => e = .returned (.int .i64 (mostL m (l.drop h) water)) ∧ Wr r w w' ∧ Memo (knows m l) w' r := by
  intro n
  induction n with
  | zero =>
    intro h water w hn hw1 hw2 hup hmemo
    obtain rfl : h = l.length := by omega
    have HM := Aside0.mk hmemo
    clear hmemo
    have hb : ((l.length : Int) == (l.length : Int)) = true := by simp
    have hb2 : (l.length == l.length) = true := by simp
    go_enter Try.func76, Try.ntmps76
    go_wp2_with fail
    go_ret
    exact ⟨by rw [List.drop_length]; rfl, Wr.ofUp upA, HM.out.up upA⟩
  | succ n ih =>
    intro h water w hn hw1 hw2 hup hmemo
    have hb : ((h : Int) == (l.length : Int)) = false := by simp; omega
    have hb2 : (h == l.length) = false := by simp; omega
    have IH := Aside0.mk ih
    clear ih
    have hrl := hmemo.lt
    have HM := Aside0.mk hmemo
    have HU := Aside0.mk hup
    have hd : l.drop h = rdS l h :: l.drop (h + 1) := by
      rw [List.drop_eq_getElem_cons (show h < l.length by omega)]
      congr 1
      simp [rdS, show h < l.length by omega]
    have hfl : 0 ≤ (rdS l h).lo ∧ (rdS l h).lo ≤ 2000 := by
      have hh : h < l.length := by omega
      exact hf _ (by simp [rdS, hh])
    have hlk := lookup_run (knows m l) (h : Int) water ((w.alloc (.cells #[.int .i64 m.H, .int .i64 m.T, .int .i64 m.bl, .int .i64 m.bh, .int .i64 m.ho, .int .i64 m.nl, .int .i64 m.nh, .slice A l.length c, .map (some r)] 115)).alloc (.cells #[.int .i64 (h : Int), .int .i64 water] 118)) r (HM.out.up upA)
    have hmo : Memo (knows m l) ((w.alloc (.cells #[.int .i64 m.H, .int .i64 m.T, .int .i64 m.bl, .int .i64 m.bh, .int .i64 m.ho, .int .i64 m.nl, .int .i64 m.nh, .slice A l.length c, .map (some r)] 115)).alloc (.cells #[.int .i64 (h : Int), .int .i64 water] 118)) r := HM.out.up upA
    have HMO := Aside0.mk hmo
    have HD := Aside0.mk hd
    have hkn : knows m l h water = mostL m (l.drop h) water := by simp [knows]
    rw [hkn] at hlk
    clear hmemo hmo hd hup hf hkn
    have hn0 : ¬ w.heap.size = r := by omega
    have hn1 : ¬ w.heap.size + 1 = r := by omega
    simp only [keyV] at hlk
    rcases hlk with hlk | hlk
    · go_enter Try.func76, Try.ntmps76
      go_wp2_with fail
      clear hlk
      go_loopw [4, 30] (fun v4 i wr => ∃ k : Nat, (k : Int) ≤ m.H + 1 ∧ i = .int .i64 k ∧ v4 = .int .i64 (bst m (rdS l h) (l.drop (h + 1)) water k) ∧ Aside0 (Wr r ((w.alloc (.cells #[.int .i64 m.H, .int .i64 m.T, .int .i64 m.bl, .int .i64 m.bh, .int .i64 m.ho, .int .i64 m.nl, .int .i64 m.nh, .slice A l.length c, .map (some r)] 115)).alloc (.cells #[.int .i64 (h : Int), .int .i64 water] 118)) wr ∧ Memo (knows m l) wr r)) (fun _ i _ => (m.H + 1 - intOf i).toNat)
      case atStart => exact ⟨0, by omega, rfl, by simp [bst], ⟨Wr.refl _ _, HMO.out⟩⟩
      case round =>
        obtain ⟨k, hk, rfl, rfl, hJ⟩ := hrel
        have hA := hJ.out.1.old
        have hc0 : ∀ o, wr.cell? ⟨w.heap.size, o, none⟩ = (#[.int .i64 m.H, .int .i64 m.T, .int .i64 m.bl, .int .i64 m.bh, .int .i64 m.ho, .int .i64 m.nl, .int .i64 m.nh, .slice A l.length c, .map (some r)] : Array Value)[o]? := fun o => (hA.1 _ o (by simp; omega) (by omega)).trans (by simp [go_sem])
        have hc1 : ∀ o, wr.cell? ⟨w.heap.size + 1, o, none⟩ = (#[.int .i64 (h : Int), .int .i64 water] : Array Value)[o]? := fun o => (hA.1 _ o (by simp) (by omega)).trans (by simp [go_sem])
        have hsz : w.heap.size + 2 ≤ wr.heap.size := by have := hJ.out.1.size; simpa using this
        have hupr : Up w0 wr := hJ.out.1.up hr0 (((HU.out.alloc _)).alloc _)
        have HUR := Aside0.mk hupr
        clear hA hupr
        have hbd := mostL_bd m hH
        have hb1 : 0 ≤ bst m (rdS l h) (l.drop (h + 1)) water k ∧ bst m (rdS l h) (l.drop (h + 1)) water k ≤ 8000 := by
          have h1 := bst_bd m hH (rdS l h) (l.drop (h + 1)) water k hk
          rw [List.length_drop] at h1
          omega
        by_cases hlt : (k : Int) < m.H + 1
        · have hbs := bst_succ m (rdS l h) (l.drop (h + 1)) water k
          have hcall := after_ m A c l r h water k wr (C_up hr HUR.out) hc (by omega) hlen ⟨hw1, hw2⟩ hfl ⟨by omega, by omega⟩ hT hho
          have hb2 := hbd (l.drop (h + 1)) (afterW m (rdS l h) water k)
          rw [List.length_drop] at hb2
          have hb3 : mostL m (l.drop (h + 1)) (afterW m (rdS l h) water k) ≤ 8000 := by omega
          have HBS := Aside0.mk hbs
          clear hbd hbs
          by_cases hpos : 0 ≤ afterW m (rdS l h) water k
          · have haf : afterW m (rdS l h) water k ≤ 2000 := by
              have : 0 ≤ (k : Int) * m.T := Int.mul_nonneg (by omega) hT.1
              simp only [afterW]; omega
            go_wp2_with fail
            refine hcall.mono ?_
            clear hcall
            rintro e w2 ⟨rfl, hu2⟩
            have hc02 : ∀ o, w2.cell? ⟨w.heap.size, o, none⟩ = (#[.int .i64 m.H, .int .i64 m.T, .int .i64 m.bl, .int .i64 m.bh, .int .i64 m.ho, .int .i64 m.nl, .int .i64 m.nh, .slice A l.length c, .map (some r)] : Array Value)[o]? := fun o => (hu2.old.1 _ o (by omega)).trans (hc0 o)
            have hz2 : w.heap.size < w2.heap.size := by have := hu2.le; omega
            have hrec := IH.out (h + 1) (afterW m (rdS l h) water k) (w2.alloc (.cells #[.int .i64 ((h : Int) + 1), .int .i64 (afterW m (rdS l h) water k)] 118)) (by omega) hpos haf ((HUR.out.then hu2).alloc _) ((hJ.out.2.up hu2).up ((Up.refl _).alloc _))
            rw [show ((h + 1 : Nat) : Int) = (h : Int) + 1 from by omega] at hrec
            have HU2 := Aside0.mk hu2
            clear hu2 hc0 hc1
            go_wp2_with fail
            refine hrec.mono ?_
            clear hrec
            rintro e w3 ⟨rfl, hw3, hm3⟩
            have HW3 := Aside0.mk (((hJ.out.1.then (Wr.ofUp HU2.out)).then (Wr.ofUp ((Up.refl _).alloc _))).then hw3)
            have HM3 := Aside0.mk hm3
            clear hw3 hm3
            go_wp2_with fail
            go_roundw
            case rel => exact ⟨k + 1, by omega, by go_num, by rw [HBS.out, if_pos hpos], ⟨HW3.out, HM3.out⟩⟩
            case measure => simp [intOf]; omega
          · have hneg : afterW m (rdS l h) water k < 0 := by omega
            go_wp2_with fail
            refine hcall.mono ?_
            clear hcall
            rintro e w2 ⟨rfl, hu2⟩
            have HU2 := Aside0.mk hu2
            clear hu2 hc0 hc1
            go_wp2_with fail
            go_roundw
            case rel => exact ⟨k + 1, by omega, by go_num, by rw [HBS.out, if_neg (by omega)], ⟨(hJ.out.1.then (Wr.ofUp HU2.out)).then (Wr.ofUp ((Up.refl _).alloc _)), (hJ.out.2.up HU2.out).up ((Up.refl _).alloc _)⟩⟩
            case measure => simp [intOf]; omega
        · obtain ⟨we, hrun, hme, hwe, hse⟩ := update_run (knows m l) (h : Int) water wr r hJ.out.2
          have hval : knows m l h water = bst m (rdS l h) (l.drop (h + 1)) water k := by
            simp only [knows, Int.toNat_natCast]
            rw [HD.out, mostL_cons]
            congr 1
            omega
          rw [hval] at hrun
          simp only [keyV] at hrun
          have HV := Aside0.mk hval
          have HME := Aside0.mk hme
          have HWE := Aside0.mk hwe
          clear hval hme hwe hbd hse
          go_wp2_with fail
          go_ret
          exact ⟨by rw [← HV.out]; simp [knows], (((Wr.ofUp upA).then hJ.out.1).then HWE.out), HME.out⟩
    · go_enter Try.func76, Try.ntmps76
      go_wp2_with fail
      go_ret
      exact ⟨rfl, Wr.ofUp upA, HMO.out⟩
end Go.Proofs.Ytcnlbbmokphjnaa
namespace Go.Proofs.Ytcnlbbmokphjnaa
open Go.RowKit Go.Shelf Go.Proofs.YtcnlbbmokphjnaaW.PrintWords
set_option linter.unusedVariables false
set_option linter.unusedSimpArgs false
theorem CF_take {w : World} {A : Option Addr} {l : List Sp} (n : Nat) (hn : n ≤ l.length) (h : Kd.C kSp w A l.length l) : Kd.C kSp w A (l.take n).length (l.take n) := by
  obtain ⟨h1, h2, h3⟩ := h
  refine ⟨rfl, by rw [List.length_take]; omega, fun hp => ?_⟩
  rw [List.length_take] at hp
  obtain ⟨ad, e, hc⟩ := h3 (by omega)
  refine ⟨ad, e, fun j p hj => hc j p ?_⟩
  rw [List.getElem?_take] at hj
  split at hj
  · exact hj
  · cases hj
set_option maxRecDepth 100000 in
theorem newMiller_ (m : Mill) (A : Option Addr) (c : Nat) (l : List Sp) (n : Nat) (w : World) (f : Int → Int → Int) (hc : l.length ≤ c) (hn : n ≤ l.length) :
    Calls Try.prog 74 #[.agg #[.int .i64 m.H, .int .i64 m.T, .int .i64 m.bl, .int .i64 m.bh, .int .i64 m.ho, .int .i64 m.nl, .int .i64 m.nh, .slice A l.length c], .int .i64 (n : Int)] w fun e w' => ∃ r, e = .returned (.agg #[.int .i64 m.H, .int .i64 m.T, .int .i64 m.bl, .int .i64 m.bh, .int .i64 m.ho, .int .i64 m.nl, .int .i64 m.nh, .slice A n c, .map (some r)]) ∧ Up w w' ∧ w.heap.size ≤ r ∧ Memo f w' r := by
  have hmm := @run_makeMap Try.prog
  have h0 : (0 : Int) ≤ (n : Int) := by omega
  have h1 : (n : Int) ≤ (c : Int) := by omega
  go_enter Try.func74, Try.ntmps74
  go_wp2_with fail
  refine bodyPost_ret (v := .agg #[.int .i64 m.H, .int .i64 m.T, .int .i64 m.bl, .int .i64 m.bh, .int .i64 m.ho, .int .i64 m.nl, .int .i64 m.nh, .slice A n c, .map (some (w.heap.size + 1 + 1))]) ?_ rfl ⟨_, rfl, upA, by omega, ⟨#[], 0, ?_, fun e he => by simp at he⟩⟩
  · simp [results, Try.results74, go_sem]
  · have h := World.alloc_heap_new ((w.alloc (.cells #[.int .i64 m.H, .int .i64 m.T, .int .i64 m.bl, .int .i64 m.bh, .int .i64 m.ho, .int .i64 m.nl, .int .i64 m.nh, .slice A n c] 98)).alloc (.cells #[.int .i64 m.H, .int .i64 m.T, .int .i64 m.bl, .int .i64 m.bh, .int .i64 m.ho, .int .i64 m.nl, .int .i64 m.nh, .slice A n c, .map (some (w.heap.size + 1 + 1))] 115)) (.map #[] 0)
    simp only [World.size_alloc] at h
    exact h
def okB (m : Mill) (s : Sp) (ss : List Sp) (water : Int) (k : Nat) : Bool := decide (0 ≤ afterW m s water k) && decide (mostL m (s :: ss) water ≤ k + mostL m ss (afterW m s water k))
def pick (m : Mill) (s : Sp) (ss : List Sp) (water : Int) : Nat := ((List.range (m.H + 1).toNat).find? (okB m s ss water)).getD 0
def mostPlan (m : Mill) : List Sp → Int → List Int
  | [], _ => []
  | s :: ss, water => (pick m s ss water : Int) :: mostPlan m ss (afterW m s water (pick m s ss water))
theorem bst_attained (m : Mill) (hT : 0 ≤ m.T) (hH : 0 ≤ m.H ∧ m.H ≤ 8) (s : Sp) (ss : List Sp) (water : Int) (h0 : 0 ≤ afterW m s water 0) : ∀ k : Nat, ∃ j ≤ k, 0 ≤ afterW m s water j ∧ bst m s ss water (k + 1) ≤ j + mostL m ss (afterW m s water j) := by
  intro k
  induction k with
  | zero =>
    refine ⟨0, Nat.le_refl _, h0, ?_⟩
    have := mostL_bd m hH ss (afterW m s water 0)
    rw [bst_succ]
    simp only [bst, List.range_zero, List.foldl_nil]
    simp only [Int.natCast_zero] at *
    split <;> omega
  | succ k ih =>
    obtain ⟨j, hj, h1, h2⟩ := ih
    rw [bst_succ]
    by_cases hp : 0 ≤ afterW m s water ((k + 1 : Nat) : Int)
    · rw [if_pos hp]
      by_cases hle : bst m s ss water (k + 1) ≤ ((k + 1 : Nat) : Int) + mostL m ss (afterW m s water ((k + 1 : Nat) : Int))
      · exact ⟨k + 1, Nat.le_refl _, hp, by omega⟩
      · exact ⟨j, by omega, h1, by omega⟩
    · rw [if_neg hp]
      exact ⟨j, by omega, h1, h2⟩
theorem pick_spec (m : Mill) (hT : 0 ≤ m.T) (hH : 0 ≤ m.H ∧ m.H ≤ 8) (s : Sp) (ss : List Sp) (water : Int) (h0 : 0 ≤ afterW m s water 0) :
    okB m s ss water (pick m s ss water) = true ∧ (pick m s ss water : Int) ≤ m.H ∧ ∀ j : Nat, j < pick m s ss water → okB m s ss water j = false := by
  obtain ⟨j, hj, h1, h2⟩ := bst_attained m hT hH s ss water h0 m.H.toNat
  have hok : okB m s ss water j = true := by
    simp only [okB, Bool.and_eq_true, decide_eq_true_eq]
    refine ⟨h1, ?_⟩
    rw [mostL_cons, show (m.H + 1).toNat = m.H.toNat + 1 from by omega]
    exact h2
  have hsome : ((List.range (m.H + 1).toNat).find? (okB m s ss water)).isSome = true := List.find?_isSome.2 ⟨j, List.mem_range.2 (by omega), hok⟩
  obtain ⟨p, hp⟩ := Option.isSome_iff_exists.1 hsome
  have hpk : pick m s ss water = p := by simp [pick, hp]
  rw [hpk]
  refine ⟨List.find?_some hp, ?_, fun i hi => ?_⟩
  · have := List.mem_range.1 (List.mem_of_find?_eq_some hp)
    omega
  · rw [List.find?_range_eq_some] at hp
    have := hp.2.2 i hi
    simpa using this
end Go.Proofs.Ytcnlbbmokphjnaa
namespace Go.Proofs.Ytcnlbbmokphjnaa
open Go.RowKit Go.Shelf Go.Proofs.YtcnlbbmokphjnaaW.PrintWords
set_option linter.unusedVariables false
set_option linter.unusedSimpArgs false
def Bx (w : World) (B : Nat) (C : Array Value) (T : TypeId) : Prop := w.heap[B]? = some (.cells C T (0, 0))
theorem Bx.new (w : World) (C : Array Value) (T : TypeId) : Bx (w.alloc (.cells C T)) w.heap.size C T := World.alloc_heap_new w _
theorem Bx.lt {w B C T} (h : Bx w B C T) : B < w.heap.size := (Array.getElem?_eq_some_iff.1 h).1
theorem Bx.up {w w' B C T} (h : Bx w B C T) (hu : Up w w') : Bx w' B C T := (hu.block B h.lt).trans h
theorem Bx.cell {w B C T} (h : Bx w B C T) (o : Nat) : w.cell? ⟨B, o, none⟩ = C[o]? := by simp [World.cell?, show w.heap[B]? = _ from h]
theorem Bx.frozen {w B C T} (h : Bx w B C T) (o : Nat) : w.frozen? ⟨B, o, none⟩ = false := by simp [World.frozen?, show w.heap[B]? = _ from h]
theorem Bx.not_map {f w B C T r} (h : Bx w B C T) (hm : Memo f w r) : B ≠ r := by
  rintro rfl
  obtain ⟨es, cl, h1, _⟩ := hm
  rw [show w.heap[B]? = _ from h] at h1
  cases h1
theorem Bx.wr {f w w' B C T r} (h : Bx w B C T) (hm : Memo f w r) (hw : Wr r w w') : Bx w' B C T := (hw.block B ⟨h.lt, h.not_map hm⟩).trans h
theorem Wr.grown {r : Nat} {w w' : World} (h : Wr r w w') : w.grownBy w' (some r) := ⟨h.os, h.tape, h.output, h.size, fun k hk hne => h.block k ⟨hk, fun e => hne (by rw [e])⟩⟩
theorem own_wr {f w w' base e size v n xs r} (h : World.ownsRow w base e size v n xs) (hm : Memo f w r) (hw : Wr r w w') : w'.ownsRow base e size v n xs := by
  refine h.kept hw.grown ?_
  rcases h.2 with ⟨rfl, _⟩ | ⟨g, cap, cur, rfl, _, hg, _⟩
  · exact .inl rfl
  · refine .inr fun e' => ?_
    obtain ⟨es, cl, h1, _⟩ := hm
    have : g = r := by simpa [Value.ownBlock] using e'
    subst this
    rw [hg] at h1
    cases h1
theorem own_up {w w' : World} {base e size v n xs} (h : w.ownsRow base e size v n xs) (hu : Up w w') : w'.ownsRow base e size v n xs := pw_own_below h hu
def mostS (m : Mill) (l : List Sp) : List Int := if checkE m l = 0 then mostPlan m l m.nl else []
theorem Bx.far {w B B' C T} (h : Bx w B C T) (hne : B ≠ B') (o : Nat) (u : Value) : Bx (w.setCell ⟨B', o, none⟩ u) B C T := (Below.heap_setCell w ⟨B', o, none⟩ u B hne).trans h
theorem Bx.set2 {w B T} {a b : Value} (h : Bx w B #[a, b] T) (x y : Value) : Bx ((w.setCell ⟨B, 0, none⟩ x).setCell ⟨B, 1, none⟩ y) B #[x, y] T := by
  unfold Bx at h ⊢
  unfold World.setCell
  dsimp only
  rw [Array.getElem?_modify, if_pos rfl, Array.getElem?_modify, if_pos rfl, h]
  rfl
theorem Memo.far {f w r} (h : Memo f w r) {B : Nat} (hne : r ≠ B) (o : Nat) (u : Value) : Memo f (w.setCell ⟨B, o, none⟩ u) r := by
  obtain ⟨es, cl, h1, h2⟩ := h
  exact ⟨es, cl, (Below.heap_setCell w ⟨B, o, none⟩ u r hne).trans h1, h2⟩
theorem own_far {w : World} {base e size v n xs} (h : w.ownsRow base e size v n xs) {B C T} (hb : Bx w B C T) (ht : e ≠ T) (o : Nat) (u : Value) : (w.setCell ⟨B, o, none⟩ u).ownsRow base e size v n xs := by
  have hg : w.grownBy (w.setCell ⟨B, o, none⟩ u) (some B) := by
    have hb0 := Below.setCell (B := 0) (Below.refl 0 w) (p := ⟨B, o, none⟩) (Nat.zero_le _) u
    exact ⟨hb0.os, hb0.tape, hb0.output, hb0.size, fun k _ hk => Below.heap_setCell w ⟨B, o, none⟩ u k (fun e => hk (by rw [e]))⟩
  refine h.kept hg ?_
  rcases h.2 with ⟨rfl, _⟩ | ⟨g, cap, cur, rfl, _, hg2, _⟩
  · exact .inl rfl
  · refine .inr fun e' => ?_
    have : g = B := by simpa [Value.ownBlock] using e'
    subst this
    rw [show w.heap[g]? = _ from hb] at hg2
    injection hg2 with hg2
    injection hg2 with _ h2
    exact ht h2.symm
structure MS (m : Mill) (A : Option Addr) (n c r : Nat) (f : Int → Int → Int) (w : World) (X B8 Bn : Nat) (h water h1 wa : Int) (v4 : Value) (P : List Int) (W : World) : Prop where
  x : Bx W X #[.int .i64 m.H, .int .i64 m.T, .int .i64 m.bl, .int .i64 m.bh, .int .i64 m.ho, .int .i64 m.nl, .int .i64 m.nh, .slice A n c, .map (some r)] 115
  s : Bx W B8 #[.int .i64 h, .int .i64 water] 118
  nx : Bx W Bn #[.int .i64 h1, .int .i64 wa] 118
  up : Up w W
  memo : Memo f W r
  own : W.ownsRow w.heap.size 3 1 v4 P.length (nums .i64 P)
theorem MS.wr {m A n c r f w X B8 Bn h water h1 wa v4 P W W'} (hM : MS m A n c r f w X B8 Bn h water h1 wa v4 P W) (hr : w.heap.size ≤ r) (hw : Wr r W W') (hm : Memo f W' r) : MS m A n c r f w X B8 Bn h water h1 wa v4 P W' :=
  ⟨hM.x.wr hM.memo hw, hM.s.wr hM.memo hw, hM.nx.wr hM.memo hw, hw.up hr hM.up, hm, own_wr hM.own hM.memo hw⟩
theorem MS.upw {m A n c r f w X B8 Bn h water h1 wa v4 P W W'} (hM : MS m A n c r f w X B8 Bn h water h1 wa v4 P W) (hu : Up W W') : MS m A n c r f w X B8 Bn h water h1 wa v4 P W' :=
  ⟨hM.x.up hu, hM.s.up hu, hM.nx.up hu, hM.up.then hu, hM.memo.up hu, own_up hM.own hu⟩
theorem MS.next {m A n c r f w X B8 Bn h water h1 wa v4 P W} (hM : MS m A n c r f w X B8 Bn h water h1 wa v4 P W) {B' : Nat} {a b : Value} (hb : Bx W B' #[a, b] 118) (hX : X ≠ B') (h8 : B8 ≠ B') (hw : w.heap.size ≤ B') (h1' wa' : Int) :
    MS m A n c r f w X B8 B' h water h1' wa' v4 P ((W.setCell ⟨B', 0, none⟩ (.int .i64 h1')).setCell ⟨B', 1, none⟩ (.int .i64 wa')) :=
  ⟨(hM.x.far hX _ _).far hX _ _, (hM.s.far h8 _ _).far h8 _ _, hb.set2 _ _, (hM.up.set _ _ hw).set _ _ hw, (hM.memo.far (hb.not_map hM.memo).symm _ _).far (hb.not_map hM.memo).symm _ _, by
    have h1 := own_far hM.own hb (by decide) 0 (.int .i64 h1')
    refine h1.kept (row := some B') ?_ ?_
    · have hb0 := Below.setCell (B := 0) (Below.refl 0 (W.setCell ⟨B', 0, none⟩ (.int .i64 h1'))) (p := ⟨B', 1, none⟩) (Nat.zero_le _) (.int .i64 wa')
      exact ⟨hb0.os, hb0.tape, hb0.output, hb0.size, fun k _ hk => Below.heap_setCell _ ⟨B', 1, none⟩ _ k (fun e => hk (by rw [e]))⟩
    · rcases hM.own.2 with ⟨e1, _⟩ | ⟨g, cap, cur, e1, _, hg2, _⟩
      · exact .inl (by rw [e1]; rfl)
      · refine .inr fun e' => ?_
        rw [e1] at e'
        have : g = B' := by simpa [Value.ownBlock] using e'
        subst this
        rw [show W.heap[g]? = _ from hb] at hg2
        injection hg2 with hg2
        injection hg2 with _ h2
        exact absurd h2 (by decide)⟩
def MSC (m : Mill) (A : Option Addr) (n c r : Nat) (f : Int → Int → Int) (w : World) (X B8 Bn : Nat) (h water h1 wa : Int) (v4 : Value) (P : List Int) (W : World) : Prop :=
  W.cell? ⟨X, 0, none⟩ = some (.int .i64 m.H) ∧ W.cell? ⟨X, 1, none⟩ = some (.int .i64 m.T) ∧ W.cell? ⟨X, 2, none⟩ = some (.int .i64 m.bl) ∧ W.cell? ⟨X, 3, none⟩ = some (.int .i64 m.bh) ∧ W.cell? ⟨X, 4, none⟩ = some (.int .i64 m.ho) ∧ W.cell? ⟨X, 5, none⟩ = some (.int .i64 m.nl) ∧ W.cell? ⟨X, 6, none⟩ = some (.int .i64 m.nh) ∧ W.cell? ⟨X, 7, none⟩ = some (.slice A n c) ∧ W.cell? ⟨X, 8, none⟩ = some (.map (some r)) ∧
  W.cell? ⟨B8, 0, none⟩ = some (.int .i64 h) ∧ W.cell? ⟨B8, 1, none⟩ = some (.int .i64 water) ∧ W.cell? ⟨Bn, 0, none⟩ = some (.int .i64 h1) ∧ W.cell? ⟨Bn, 1, none⟩ = some (.int .i64 wa)
theorem MS.cells {m A n c r f w X B8 Bn h water h1 wa v4 P W} (hM : MS m A n c r f w X B8 Bn h water h1 wa v4 P W) : MSC m A n c r f w X B8 Bn h water h1 wa v4 P W := by
  unfold MSC
  simp [hM.x.cell, hM.s.cell, hM.nx.cell]
theorem MS.flat {m A n c r f w X B8 Bn h water h1 wa v4 P W} (hM : MS m A n c r f w X B8 Bn h water h1 wa v4 P W) : W.cell? ⟨X, 0, none⟩ = some (.int .i64 m.H) ∧ W.cell? ⟨X, 1, none⟩ = some (.int .i64 m.T) ∧ W.cell? ⟨X, 2, none⟩ = some (.int .i64 m.bl) ∧ W.cell? ⟨X, 3, none⟩ = some (.int .i64 m.bh) ∧ W.cell? ⟨X, 4, none⟩ = some (.int .i64 m.ho) ∧ W.cell? ⟨X, 5, none⟩ = some (.int .i64 m.nl) ∧ W.cell? ⟨X, 6, none⟩ = some (.int .i64 m.nh) ∧ W.cell? ⟨X, 7, none⟩ = some (.slice A n c) ∧ W.cell? ⟨X, 8, none⟩ = some (.map (some r)) ∧
  W.cell? ⟨B8, 0, none⟩ = some (.int .i64 h) ∧ W.cell? ⟨B8, 1, none⟩ = some (.int .i64 water) ∧ W.cell? ⟨Bn, 0, none⟩ = some (.int .i64 h1) ∧ W.cell? ⟨Bn, 1, none⟩ = some (.int .i64 wa) ∧ MS m A n c r f w X B8 Bn h water h1 wa v4 P W := by
  have h1 := hM.cells
  unfold MSC at h1
  obtain ⟨a1, a2, a3, a4, a5, a6, a7, a8, a9, a10, a11, a12, a13⟩ := h1
  exact ⟨a1, a2, a3, a4, a5, a6, a7, a8, a9, a10, a11, a12, a13, hM⟩
structure MT (m : Mill) (A : Option Addr) (n c r : Nat) (f : Int → Int → Int) (w : World) (X B8 : Nat) (h water : Int) (W : World) : Prop where
  x : Bx W X #[.int .i64 m.H, .int .i64 m.T, .int .i64 m.bl, .int .i64 m.bh, .int .i64 m.ho, .int .i64 m.nl, .int .i64 m.nh, .slice A n c, .map (some r)] 115
  s : Bx W B8 #[.int .i64 h, .int .i64 water] 118
  up : Up w W
  memo : Memo f W r
theorem MS.mt {m A n c r f w X B8 Bn h water h1 wa v4 P W} (hM : MS m A n c r f w X B8 Bn h water h1 wa v4 P W) : MT m A n c r f w X B8 h water W := ⟨hM.x, hM.s, hM.up, hM.memo⟩
theorem MT.upw {m A n c r f w X B8 h water W W'} (hM : MT m A n c r f w X B8 h water W) (hu : Up W W') : MT m A n c r f w X B8 h water W' := ⟨hM.x.up hu, hM.s.up hu, hM.up.then hu, hM.memo.up hu⟩
theorem Bx.app {W W' : World} {B C T base e size v n xs} (h : Bx W B C T) (hown : World.ownsRow W base e size v n xs) (hg : W.grownBy W' v.ownBlock) (ht : e ≠ T) : Bx W' B C T := by
  refine (hg.block B h.lt ?_).trans h
  rcases hown.2 with ⟨rfl, _⟩ | ⟨g, cap, cur, rfl, _, hg2, _⟩
  · simp [Value.ownBlock]
  · intro e'
    have : g = B := by simpa [Value.ownBlock] using e'.symm
    subst this
    rw [show W.heap[g]? = _ from h] at hg2
    injection hg2 with hg2
    injection hg2 with _ h2
    exact ht h2.symm
theorem Memo.app {W W' : World} {f r base e size v n xs} (h : Memo f W r) (hown : World.ownsRow W base e size v n xs) (hg : W.grownBy W' v.ownBlock) : Memo f W' r := by
  have hl := h.lt
  obtain ⟨es, cl, h1, h2⟩ := h
  refine ⟨es, cl, (hg.block r hl ?_).trans h1, h2⟩
  rcases hown.2 with ⟨rfl, _⟩ | ⟨g, cap, cur, rfl, _, hg2, _⟩
  · simp [Value.ownBlock]
  · intro e'
    have : g = r := by simpa [Value.ownBlock] using e'.symm
    subst this
    rw [h1] at hg2
    cases hg2
theorem Up.app {w W W' : World} {base e size v n xs} (h : Up w W) (hown : World.ownsRow W base e size v n xs) (hg : W.grownBy W' v.ownBlock) (hb : w.heap.size ≤ base) : Up w W' :=
  Below.grown h hg h.size (fun k hk => by have := own_base hown k hk; omega)
theorem MT.app {m A n c r f w X B8 h water W W' size v n' xs} (hM : MT m A n c r f w X B8 h water W) (hown : W.ownsRow w.heap.size 3 size v n' xs) (hg : W.grownBy W' v.ownBlock) : MT m A n c r f w X B8 h water W' :=
  ⟨hM.x.app hown hg (by decide), hM.s.app hown hg (by decide), hM.up.app hown hg (Nat.le_refl _), hM.memo.app hown hg⟩
theorem MT.cells {m A n c r f w X B8 h water W} (hM : MT m A n c r f w X B8 h water W) : (∀ o, W.cell? ⟨X, o, none⟩ = (#[.int .i64 m.H, .int .i64 m.T, .int .i64 m.bl, .int .i64 m.bh, .int .i64 m.ho, .int .i64 m.nl, .int .i64 m.nh, .slice A n c, .map (some r)] : Array Value)[o]?) ∧ (∀ o, W.cell? ⟨B8, o, none⟩ = (#[.int .i64 h, .int .i64 water] : Array Value)[o]?) ∧ (∀ o, W.frozen? ⟨B8, o, none⟩ = false) ∧ X < W.heap.size ∧ B8 < W.heap.size ∧ w.heap.size ≤ W.heap.size :=
  ⟨hM.x.cell, hM.s.cell, hM.s.frozen, hM.x.lt, hM.s.lt, hM.up.le⟩
theorem MT.done {m A n c r f w X B8 h water W v} {P : List Int} (hM : MT m A n c r f w X B8 h water W) (hown : W.ownsRow w.heap.size 3 1 v P.length (nums .i64 P)) (hne : X ≠ B8) (hw : w.heap.size ≤ B8) (h1 wa : Int) :
    Bx (((W.setCell ⟨B8, 0, none⟩ (.int .i64 h1)).setCell ⟨B8, 1, none⟩ (.int .i64 wa)).alloc (.cells #[.int .i64 h1, .int .i64 wa] 118)) X #[.int .i64 m.H, .int .i64 m.T, .int .i64 m.bl, .int .i64 m.bh, .int .i64 m.ho, .int .i64 m.nl, .int .i64 m.nh, .slice A n c, .map (some r)] 115 ∧
    Bx (((W.setCell ⟨B8, 0, none⟩ (.int .i64 h1)).setCell ⟨B8, 1, none⟩ (.int .i64 wa)).alloc (.cells #[.int .i64 h1, .int .i64 wa] 118)) W.heap.size #[.int .i64 h1, .int .i64 wa] 118 ∧
    Up w (((W.setCell ⟨B8, 0, none⟩ (.int .i64 h1)).setCell ⟨B8, 1, none⟩ (.int .i64 wa)).alloc (.cells #[.int .i64 h1, .int .i64 wa] 118)) ∧
    Memo f (((W.setCell ⟨B8, 0, none⟩ (.int .i64 h1)).setCell ⟨B8, 1, none⟩ (.int .i64 wa)).alloc (.cells #[.int .i64 h1, .int .i64 wa] 118)) r ∧
    (((W.setCell ⟨B8, 0, none⟩ (.int .i64 h1)).setCell ⟨B8, 1, none⟩ (.int .i64 wa)).alloc (.cells #[.int .i64 h1, .int .i64 wa] 118)).ownsRow w.heap.size 3 1 v P.length (nums .i64 P) := by
  have hr := (hM.s.not_map hM.memo).symm
  have h2 : Bx (W.setCell ⟨B8, 0, none⟩ (.int .i64 h1)) B8 #[.int .i64 h1, .int .i64 water] 118 := by
    have h := hM.s
    unfold Bx World.setCell at *
    dsimp only
    rw [Array.getElem?_modify, if_pos rfl, h]
    rfl
  have hz : ((W.setCell ⟨B8, 0, none⟩ (.int .i64 h1)).setCell ⟨B8, 1, none⟩ (.int .i64 wa)).heap.size = W.heap.size := by simp
  refine ⟨((hM.x.far hne _ _).far hne _ _).up ((Up.refl _).alloc _), ?_, (((hM.up.set _ _ hw).set _ _ hw).alloc _), ((hM.memo.far hr _ _).far hr _ _).up ((Up.refl _).alloc _), own_up (own_far (own_far hown hM.s (by decide) _ _) h2 (by decide) _ _) ((Up.refl _).alloc _)⟩
  have := Bx.new ((W.setCell ⟨B8, 0, none⟩ (.int .i64 h1)).setCell ⟨B8, 1, none⟩ (.int .i64 wa)) #[.int .i64 h1, .int .i64 wa] 118
  rwa [hz] at this
theorem news1 {W : World} {ad : Addr} {u : Value} (h : W.cell? (ad.add 0) = some u) : ∀ (j : Nat) (u' : Value), [u][j]? = some u' → W.cell? (ad.add j) = some u' := by
  intro j u' hj
  cases j with
  | zero => simp at hj; subst hj; exact h
  | succ j => simp at hj
theorem info_int : (Try.prog.info? 3).map (fun i => (i.zero, i.size, i.bytes)) = some (some (.int .i64 0), 1, 8) := by kernel_rfl
set_option maxRecDepth 100000 in
set_option maxHeartbeats 4000000 in
theorem mostF_ (m : Mill) (A : Option Addr) (c : Nat) (l : List Sp) (w : World) (hr : Kd.C kSp w A l.length l) (hc : l.length ≤ c) :
    Calls Try.prog 31 #[.agg #[.int .i64 m.H, .int .i64 m.T, .int .i64 m.bl, .int .i64 m.bh, .int .i64 m.ho, .int .i64 m.nl, .int .i64 m.nh], .slice A l.length c] w fun e w' => ∃ v, e = .returned (.tuple #[v, .int .i64 (checkE m l)]) ∧ w'.ownsRow w.heap.size 3 1 v (mostS m l).length (nums .i64 (mostS m l)) ∧ Up w w' := by
  have HR := Aside0.mk hr
  clear hr
  by_cases h0 : checkE m l = 0
  · have hv := valid_of m l h0
    have H0 := Aside0.mk h0
    have h00 : (checkE m l != 0) = false := by simp [h0]
    clear h0
    go_enter Try.func31, Try.ntmps31
    go_wp2_with fail
    (with_reducible refine (open_ m A c l _ (C_up HR.out upA) hc).mono ?_)
    rintro e w1 ⟨rfl, hb⟩
    have hbA := Aside0.mk hb
    obtain ⟨hcA, hfA⟩ := hb.old
    have hz := hb.le
    (try simp at hz)
    (try have hz0 : w.heap.size < w1.heap.size := by omega)
    (try have hzb : w.heap.size + 1 < w1.heap.size := by omega)
    (try have hzc : w.heap.size + 2 < w1.heap.size := by omega)
    clear hb
    go_wp2_with fail
    refine (newMiller_ m A c l l.length _ (knows m l) hc (Nat.le_refl _)).mono ?_
    rintro e w2 ⟨r, rfl, hb2, hr2, hm2⟩
    have HB2 := Aside0.mk hb2
    have HM2 := Aside0.mk hm2
    obtain ⟨hcA2, hfA2⟩ := hb2.old
    have hz2 := hb2.le
    simp at hz2
    have hz3 : w.heap.size < w2.heap.size := by omega
    clear hb2 hm2
    go_wp2_with fail
    have hmnl : 0 ≤ m.nl ∧ m.nl ≤ 2000 := by have := hv.now; have := hv.ho; omega
    have hrw : w.heap.size ≤ r := by simp at hr2; omega
    have hrX : r < w2.heap.size := HM2.out.lt
    have hupw : Up w w2 := upA
    have HUW := Aside0.mk hupw
    clear hcA hfA hcA2 hfA2 hupw hr2 hz hz2
    go_loopg [4, 8] l.length (fun kq v4 v8 wr => ∃ (h : Nat) (water : Int) (B8 : Nat), h + kq = l.length ∧ 0 ≤ water ∧ water ≤ 2000 ∧ v8 = .pointer (some ⟨B8, 0, none⟩) ∧ w2.heap.size < B8 ∧ Aside0 (w2.heap.size < wr.heap.size ∧ Bx wr w2.heap.size #[.int .i64 m.H, .int .i64 m.T, .int .i64 m.bl, .int .i64 m.bh, .int .i64 m.ho, .int .i64 m.nl, .int .i64 m.nh, .slice A l.length c, .map (some r)] 115 ∧ Bx wr B8 #[.int .i64 (h : Int), .int .i64 water] 118 ∧ Up w wr ∧ Memo (knows m l) wr r ∧ ∃ P : List Int, P ++ mostPlan m (l.drop h) water = mostPlan m l m.nl ∧ P.length = h ∧ wr.ownsRow w.heap.size 3 1 v4 P.length (nums .i64 P)))
    case atStart =>
      refine ⟨0, m.nl, w2.heap.size + 1, by omega, hmnl.1, hmnl.2, rfl, by omega, ⟨by simp; omega, ?_, ?_, ?_, HM2.out.up upA, [], by simp, rfl, own_nil _ _ _ _⟩⟩
      · exact (Bx.new w2 _ _).up ((Up.refl _).alloc _)
      · have h := Bx.new (w2.alloc (.cells #[.int .i64 m.H, .int .i64 m.T, .int .i64 m.bl, .int .i64 m.bh, .int .i64 m.ho, .int .i64 m.nl, .int .i64 m.nh, .slice A l.length c, .map (some r)] 115)) #[.int .i64 0, .int .i64 m.nl] 118
        simp only [World.size_alloc] at h
        exact h
      · exact (HUW.out.alloc _).alloc _
    case round =>
      obtain ⟨h, water, B8, hh, hw1, hw2, rfl, hB8, hJ⟩ := hrel
      obtain ⟨hsz, hbX, hbS, hup, hm, P, hP, hPl, hown⟩ := hJ.out
      clear hJ
      have hx := hbX.cell
      have hs := hbS.cell
      have HX := Aside0.mk hbX
      have HS := Aside0.mk hbS
      have HU := Aside0.mk hup
      have HM := Aside0.mk hm
      have HP := Aside0.mk hP
      have HPL := Aside0.mk hPl
      have HO := Aside0.mk hown
      clear hbX hbS hup hm hP hPl hown
      cases gk with
      | zero =>
        obtain rfl : h = l.length := by omega
        go_wp2_with fail
        go_ret2
        refine ⟨_, by rw [H0.out]; rfl, ?_, HU.out⟩
        have := HP.out
        rw [List.drop_length] at this
        simp only [mostPlan, List.append_nil] at this
        rw [mostS, if_pos H0.out, ← this]
        exact HO.out
      | succ n =>
        have hlt : (h : Int) < (l.length : Int) := by omega
        have hlt2 : decide ((h : Int) < (l.length : Int)) = true := by simp; omega
        have hhl : h < l.length := by omega
        have hfl : 0 ≤ (rdS l h).lo ∧ (rdS l h).lo ≤ 2000 := by
          have := hv.flow (rdS l h) (by simp [rdS, hhl])
          omega
        have hll : l.length ≤ 1000 := by have := hv.len; omega
        have hT := hv.T
        have hho := hv.ho
        have hH : 0 ≤ m.H ∧ m.H ≤ 8 := by have := hv.H; omega
        have hd : l.drop h = rdS l h :: l.drop (h + 1) := by
          rw [List.drop_eq_getElem_cons hhl]
          congr 1
          simp [rdS, hhl]
        have HD := Aside0.mk hd
        have hpk := pick_spec m hT.1 hH (rdS l h) (l.drop (h + 1)) water (by simp only [afterW]; omega)
        have HPK := Aside0.mk hpk
        have hpkH := hpk.2.1
        have hca := after_ m A c l r h water 0 wr (C_up HR.out HU.out) hc hhl hll ⟨hw1, hw2⟩ hfl ⟨by omega, by omega⟩ hT hho
        have haf : ∀ (k : Int) (W : World), Up w W → 0 ≤ k → k ≤ 10 → Calls Try.prog 75 #[.agg #[.int .i64 m.H, .int .i64 m.T, .int .i64 m.bl, .int .i64 m.bh, .int .i64 m.ho, .int .i64 m.nl, .int .i64 m.nh, .slice A l.length c, .map (some r)], .agg #[.int .i64 (h : Int), .int .i64 water], .int .i64 k] W fun e w' => e = .returned (.agg #[.int .i64 ((h : Int) + 1), .int .i64 (afterW m (rdS l h) water k)]) ∧ Up W w' := fun k W hu h1 h2 =>
          after_ m A c l r h water k W (C_up HR.out hu) hc hhl hll ⟨hw1, hw2⟩ hfl ⟨h1, h2⟩ hT hho
        have HAF := Aside0.mk haf
        clear hd hpk haf
        go_wp2_with fail
        refine hca.mono ?_
        clear hca
        rintro e w4 ⟨rfl, hu4⟩
        have hx4 := (HX.out.up hu4).cell
        have hs4 := (HS.out.up hu4).cell
        have HX4 := Aside0.mk (HX.out.up hu4)
        have HS4 := Aside0.mk (HS.out.up hu4)
        have HU4 := Aside0.mk (HU.out.then hu4)
        have HM4 := Aside0.mk (HM.out.up hu4)
        have HO4 := Aside0.mk (own_up HO.out hu4)
        clear hx hs HX HS HU HM HO hu4
        go_wp2_with fail
        clear hx4 hs4
        have hn0 : Bx (w4.alloc (.cells #[.int .i64 ((h : Int) + 1), .int .i64 (afterW m (rdS l h) water 0)] 118)) w4.heap.size #[.int .i64 ((h : Int) + 1), .int .i64 (afterW m (rdS l h) water 0)] 118 := Bx.new _ _ _
        have HN0 := Aside0.mk hn0
        clear hn0
        obtain ⟨wo, hwo⟩ : ∃ wo : World, wo = wr := ⟨_, rfl⟩
        go_loopw [9, 10] (fun v9 v10 wn => ∃ (k Bn : Nat), v9 = .int .i64 (k : Int) ∧ v10 = .pointer (some ⟨Bn, 0, none⟩) ∧ k ≤ pick m (rdS l h) (l.drop (h + 1)) water ∧ Aside0 (MS m A l.length c r (knows m l) w w2.heap.size B8 Bn h water ((h : Int) + 1) (afterW m (rdS l h) water k) u4 P wn)) (fun v9 _ _ => pick m (rdS l h) (l.drop (h + 1)) water - (intOf v9).toNat)
        case atStart => exact ⟨0, w4.heap.size, rfl, rfl, Nat.zero_le _, ⟨⟨HX4.out.up ((Up.refl _).alloc _), HS4.out.up ((Up.refl _).alloc _), HN0.out, HU4.out.alloc _, HM4.out.up ((Up.refl _).alloc _), own_up HO4.out ((Up.refl _).alloc _)⟩⟩⟩
        case round =>
          obtain ⟨k, Bn, rfl, rfl, hk, hMS⟩ := hrel
          clear HX4 HS4 HU4 HM4 HO4 HN0
          have hcells := hMS.out.cells
          unfold MSC at hcells
          have hpz : 0 ≤ afterW m (rdS l h) water k ∧ afterW m (rdS l h) water k ≤ 2000 := by
            have h1 := HPK.out.1
            simp only [okB, Bool.and_eq_true, decide_eq_true_eq] at h1
            have h2 : (k : Int) * m.T ≤ (pick m (rdS l h) (l.drop (h + 1)) water : Int) * m.T := Int.mul_le_mul_of_nonneg_right (by omega) hT.1
            have h3 : 0 ≤ (k : Int) * m.T := Int.mul_nonneg (by omega) hT.1
            simp only [afterW] at h1 ⊢
            omega
          have hneg : decide (afterW m (rdS l h) water k < 0) = false := by simp; omega
          have hmN : ∀ W, Up w W → Memo (knows m l) W r → Calls Try.prog 76 #[.agg #[.int .i64 m.H, .int .i64 m.T, .int .i64 m.bl, .int .i64 m.bh, .int .i64 m.ho, .int .i64 m.nl, .int .i64 m.nh, .slice A l.length c, .map (some r)], .agg #[.int .i64 ((h : Int) + 1), .int .i64 (afterW m (rdS l h) water k)]] W fun e w' => e = .returned (.int .i64 (mostL m (l.drop (h + 1)) (afterW m (rdS l h) water k))) ∧ Wr r W w' ∧ Memo (knows m l) w' r := fun W hu hm =>
            most_ m A c l r w HR.out hc hrw hll (fun s hs => by have := hv.flow s hs; omega) hT hho hH (l.length - (h + 1)) (h + 1) (afterW m (rdS l h) water k) W (by omega) hpz.1 hpz.2 hu hm
          have hmS : ∀ W, Up w W → Memo (knows m l) W r → Calls Try.prog 76 #[.agg #[.int .i64 m.H, .int .i64 m.T, .int .i64 m.bl, .int .i64 m.bh, .int .i64 m.ho, .int .i64 m.nl, .int .i64 m.nh, .slice A l.length c, .map (some r)], .agg #[.int .i64 (h : Int), .int .i64 water]] W fun e w' => e = .returned (.int .i64 (mostL m (l.drop h) water)) ∧ Wr r W w' ∧ Memo (knows m l) w' r := fun W hu hm =>
            most_ m A c l r w HR.out hc hrw hll (fun s hs => by have := hv.flow s hs; omega) hT hho hH (l.length - h) h water W (by omega) hw1 hw2 hu hm
          have hb1 : 0 ≤ mostL m (l.drop (h + 1)) (afterW m (rdS l h) water k) ∧ mostL m (l.drop (h + 1)) (afterW m (rdS l h) water k) ≤ 8000 := by
            have := mostL_bd m hH (l.drop (h + 1)) (afterW m (rdS l h) water k)
            rw [List.length_drop] at this
            omega
          have HmN := Aside0.mk hmN
          have HmS := Aside0.mk hmS
          clear hmN hmS
          by_cases hlk : k < pick m (rdS l h) (l.drop (h + 1)) water
          · have hok := HPK.out.2.2 k hlk
            have hcond : decide ((k : Int) + mostL m (l.drop (h + 1)) (afterW m (rdS l h) water k) < mostL m (l.drop h) water) = true := by
              simp only [okB, Bool.and_eq_false_iff, decide_eq_false_iff_not] at hok
              rw [HD.out]
              simp only [decide_eq_true_eq]
              omega
            have hwrp : IntKind.i64.wrap ((k : Int) + mostL m (l.drop (h + 1)) (afterW m (rdS l h) water k)) = (k : Int) + mostL m (l.drop (h + 1)) (afterW m (rdS l h) water k) := IntWalk.i64_in _ (by omega)
            clear hok
            go_wp2_with fail
            have hMM : MS m A l.length c r (knows m l) w w2.heap.size B8 Bn h water ((h : Int) + 1) (afterW m (rdS l h) water k) u4 P wr.drew := hMS.out.upw ((Up.refl _).drew)
            have hMF := hMM.flat
            go_region_held3 (fun W => W.cell? ⟨w2.heap.size, 0, none⟩ = some (.int .i64 m.H) ∧ W.cell? ⟨w2.heap.size, 1, none⟩ = some (.int .i64 m.T) ∧ W.cell? ⟨w2.heap.size, 2, none⟩ = some (.int .i64 m.bl) ∧ W.cell? ⟨w2.heap.size, 3, none⟩ = some (.int .i64 m.bh) ∧ W.cell? ⟨w2.heap.size, 4, none⟩ = some (.int .i64 m.ho) ∧ W.cell? ⟨w2.heap.size, 5, none⟩ = some (.int .i64 m.nl) ∧ W.cell? ⟨w2.heap.size, 6, none⟩ = some (.int .i64 m.nh) ∧ W.cell? ⟨w2.heap.size, 7, none⟩ = some (.slice A l.length c) ∧ W.cell? ⟨w2.heap.size, 8, none⟩ = some (.map (some r)) ∧ W.cell? ⟨B8, 0, none⟩ = some (.int .i64 (h : Int)) ∧ W.cell? ⟨B8, 1, none⟩ = some (.int .i64 water) ∧ W.cell? ⟨Bn, 0, none⟩ = some (.int .i64 ((h : Int) + 1)) ∧ W.cell? ⟨Bn, 1, none⟩ = some (.int .i64 (afterW m (rdS l h) water k)) ∧ MS m A l.length c r (knows m l) w w2.heap.size B8 Bn h water ((h : Int) + 1) (afterW m (rdS l h) water k) u4 P W) (first | go_keep | (exact hMF) | (go_split_ands; (exact (MS.wr (by assumption) hrw hwr' hm').flat))) (first | (go_split_ands; (with_reducible refine (HmN.out _ (MS.up (by assumption)) (MS.memo (by assumption))).mono ?_); rintro e w' ⟨rfl, hwr', hm'⟩) | (go_split_ands; (with_reducible refine (HmS.out _ (MS.up (by assumption)) (MS.memo (by assumption))).mono ?_); rintro e w' ⟨rfl, hwr', hm'⟩))
            have hM2 : MS m A l.length c r (knows m l) w w2.heap.size B8 Bn h water ((h : Int) + 1) (afterW m (rdS l h) water k) u4 P w' := by go_split_ands; assumption
            have HM2 := Aside0.mk hM2
            have hcl := hM2.cells
            unfold MSC at hcl
            have hM3 : MS m A l.length c r (knows m l) w w2.heap.size B8 Bn h water ((h : Int) + 1) (afterW m (rdS l h) water k) u4 P (w'.alloc (.cells #[.int .i64 ((h : Int) + 1), .int .i64 (afterW m (rdS l h) water k)] 118)) := hM2.upw ((Up.refl _).alloc _)
            have hB3 : Bx (w'.alloc (.cells #[.int .i64 ((h : Int) + 1), .int .i64 (afterW m (rdS l h) water k)] 118)) w'.heap.size #[.int .i64 ((h : Int) + 1), .int .i64 (afterW m (rdS l h) water k)] 118 := Bx.new _ _ _
            have hlX := hM2.x.lt
            have hl8 := hM2.s.lt
            have hlw : w.heap.size < w'.heap.size := by have := hM2.up.le; omega
            have hcall := HAF.out ((k : Int) + 1) (w'.alloc (.cells #[.int .i64 ((h : Int) + 1), .int .i64 (afterW m (rdS l h) water k)] 118)) hM3.up (by omega) (by omega)
            have HM3 := Aside0.mk hM3
            have HB3 := Aside0.mk hB3
            clear hwrp hM2 hM3 hB3
            try clear hMM
            try clear hMF
            try clear hcells
            go_wp2_with fail
            refine hcall.mono ?_
            clear hcall
            rintro e w5 ⟨rfl, hu5⟩
            have hb5 := HB3.out.up hu5
            have hbc := hb5.cell
            have hbf := hb5.frozen
            have HB5 := Aside0.mk hb5
            have HM5 := Aside0.mk (HM3.out.upw hu5)
            clear hb5 hu5
            go_wp2_with fail
            go_roundw
            case rel => exact ⟨k + 1, w'.heap.size, by go_num, rfl, by omega, ⟨HM5.out.next HB5.out (by omega) (by omega) (by omega) _ _⟩⟩
            case measure => simp [intOf]; omega
          · obtain rfl : k = pick m (rdS l h) (l.drop (h + 1)) water := by omega
            have hok := HPK.out.1
            have hcond : decide (((pick m (rdS l h) (l.drop (h + 1)) water : Nat) : Int) + mostL m (l.drop (h + 1)) (afterW m (rdS l h) water (pick m (rdS l h) (l.drop (h + 1)) water)) < mostL m (l.drop h) water) = false := by
              simp only [okB, Bool.and_eq_true, decide_eq_true_eq] at hok
              rw [HD.out]
              simp only [decide_eq_false_iff_not]
              omega
            have hwrp : IntKind.i64.wrap (((pick m (rdS l h) (l.drop (h + 1)) water : Nat) : Int) + mostL m (l.drop (h + 1)) (afterW m (rdS l h) water (pick m (rdS l h) (l.drop (h + 1)) water))) = ((pick m (rdS l h) (l.drop (h + 1)) water : Nat) : Int) + mostL m (l.drop (h + 1)) (afterW m (rdS l h) water (pick m (rdS l h) (l.drop (h + 1)) water)) := IntWalk.i64_in _ (by omega)
            have HPW := Aside0.mk hpz
            generalize hk0 : pick m (rdS l h) (l.drop (h + 1)) water = k at *
            have HK0 := Aside0.mk hk0
            clear hok hk0
            go_wp2_with fail
            have hMM : MS m A l.length c r (knows m l) w w2.heap.size B8 Bn h water ((h : Int) + 1) (afterW m (rdS l h) water k) u4 P wr.drew := hMS.out.upw ((Up.refl _).drew)
            have hMF := hMM.flat
            go_region_held3 (fun W => W.cell? ⟨w2.heap.size, 0, none⟩ = some (.int .i64 m.H) ∧ W.cell? ⟨w2.heap.size, 1, none⟩ = some (.int .i64 m.T) ∧ W.cell? ⟨w2.heap.size, 2, none⟩ = some (.int .i64 m.bl) ∧ W.cell? ⟨w2.heap.size, 3, none⟩ = some (.int .i64 m.bh) ∧ W.cell? ⟨w2.heap.size, 4, none⟩ = some (.int .i64 m.ho) ∧ W.cell? ⟨w2.heap.size, 5, none⟩ = some (.int .i64 m.nl) ∧ W.cell? ⟨w2.heap.size, 6, none⟩ = some (.int .i64 m.nh) ∧ W.cell? ⟨w2.heap.size, 7, none⟩ = some (.slice A l.length c) ∧ W.cell? ⟨w2.heap.size, 8, none⟩ = some (.map (some r)) ∧ W.cell? ⟨B8, 0, none⟩ = some (.int .i64 (h : Int)) ∧ W.cell? ⟨B8, 1, none⟩ = some (.int .i64 water) ∧ W.cell? ⟨Bn, 0, none⟩ = some (.int .i64 ((h : Int) + 1)) ∧ W.cell? ⟨Bn, 1, none⟩ = some (.int .i64 (afterW m (rdS l h) water k)) ∧ MS m A l.length c r (knows m l) w w2.heap.size B8 Bn h water ((h : Int) + 1) (afterW m (rdS l h) water k) u4 P W) (first | go_keep | (exact hMF) | (go_split_ands; (exact (MS.wr (by assumption) hrw hwr' hm').flat))) (first | (go_split_ands; (with_reducible refine (HmN.out _ (MS.up (by assumption)) (MS.memo (by assumption))).mono ?_); rintro e w' ⟨rfl, hwr', hm'⟩) | (go_split_ands; (with_reducible refine (HmS.out _ (MS.up (by assumption)) (MS.memo (by assumption))).mono ?_); rintro e w' ⟨rfl, hwr', hm'⟩))
            have hM2 : MS m A l.length c r (knows m l) w w2.heap.size B8 Bn h water ((h : Int) + 1) (afterW m (rdS l h) water k) u4 P w' := by go_split_ands; assumption
            obtain ⟨i0, hi0, hz0, hz1, hz2⟩ := info_parts info_int
            have HMT := Aside0.mk hM2.mt
            have HOW := Aside0.mk hM2.own
            have hup' := hM2.up
            have HUW := Aside0.mk hup'
            have hcl := HMT.out.cells
            obtain ⟨hcX, hc8, hf8, hlX, hl8, hlw⟩ := hcl
            have hPlen : P.length ≤ 1000 := by rw [HPL.out]; omega
            clear hwrp hM2 hup'
            try clear hMM
            try clear hMF
            try clear hcells
            go_wp2_with fail
            go_region_law (first
              | (go_simp; go_at_call 75; (with_reducible refine (HAF.out _ _ upA (by omega) (by omega)).mono ?_); rintro e w5 ⟨rfl, hu5⟩; have HU5 := Aside0.mk hu5; have HMT := Aside0.mk (HMT.out.upw (W' := w5) upA); have HOW := Aside0.mk (own_up (w' := w5) HOW.out upA); obtain ⟨hcX, hc8, hf8, hlX, hl8, hlw⟩ := HMT.out.cells; have hcA5 := hu5.old.1; clear hu5)
              | (refine step_append_lies _ (by rfl) _ _ _ (by rfl) w.heap.size 3 i0 _ 1 8 Try.underlying27 hi0 hz0 hz1 hz2 rfl (by omega) u4 P.length (nums .i64 P) (by rfl) (own_up HOW.out upA) _ 1 1 [.int .i64 (k : Int)] (by rfl) (by rfl) (news1 (by rw [add_plain]; simp [*])) (by simp [Value.oneCell']) (by omega) (by simp only [maxLen]; omega) (by omega) (by (try simp); omega) _ rfl ?_; intro gg cap w6 hown6 hgrow6 hat6 hlt6; have HMT := Aside0.mk ((HMT.out.upw upA).app (own_up HOW.out upA) hgrow6); have HOW := Aside0.mk hown6; have HUW6 := Aside0.mk HMT.out.up; obtain ⟨hcX, hc8, hf8, hlX, hl8, hlw⟩ := HMT.out.cells; clear hgrow6 hown6))
            all_goals
              have hXne : w2.heap.size ≠ B8 := by omega
              have hB8' : w.heap.size ≤ B8 := by omega
              have hpz' := HPW.out
              have HOW2 : Aside0 (World.ownsRow _ w.heap.size 3 1 _ (P ++ [(k : Int)]).length (nums .i64 (P ++ [(k : Int)]))) := ⟨by
                have := HOW.out
                simp only [nums, List.length_append, List.length_cons, List.length_nil, Nat.zero_add, List.map_append, List.map_cons, List.map_nil] at this ⊢
                exact this⟩
              go_wp2_with fail
              go_roundg n
              case measure => omega
              case rel => exact ⟨h + 1, _, _, by omega, hpz'.1, hpz'.2, rfl, by omega, ⟨by simp; omega, (HMT.out.done HOW2.out hXne hB8' _ _).1, (HMT.out.done HOW2.out hXne hB8' _ _).2.1, (HMT.out.done HOW2.out hXne hB8' _ _).2.2.1, (HMT.out.done HOW2.out hXne hB8' _ _).2.2.2.1, P ++ [(k : Int)], by
                  rw [← HP.out, HD.out, List.append_assoc]; simp only [mostPlan, HK0.out, List.singleton_append], by simp [HPL.out], (HMT.out.done HOW2.out hXne hB8' _ _).2.2.2.2⟩⟩
  · have H0 := Aside0.mk h0
    have h00 : (checkE m l != 0) = true := by simp [h0]
    clear h0
    go_enter Try.func31, Try.ntmps31
    go_wp2_with fail
    (with_reducible refine (open_ m A c l _ (C_up HR.out upA) hc).mono ?_)
    rintro e w1 ⟨rfl, hb⟩
    have hbA := Aside0.mk hb
    obtain ⟨hcA, hfA⟩ := hb.old
    have hz := hb.le
    (try simp at hz)
    (try have hz0 : w.heap.size < w1.heap.size := by omega)
    (try have hzb : w.heap.size + 1 < w1.heap.size := by omega)
    (try have hzc : w.heap.size + 2 < w1.heap.size := by omega)
    clear hb
    go_wp2_with fail
    go_ret2
    refine ⟨_, rfl, ?_, upA⟩
    rw [mostS, if_neg H0.out]
    exact own_nil _ _ _ _
end Go.Proofs.Ytcnlbbmokphjnaa
namespace Go.Proofs.Ytcnlbbmokphjnaa
open Go.RowKit Go.Shelf Go.Proofs.YtcnlbbmokphjnaaW.PrintWords
set_option linter.unusedVariables false
set_option linter.unusedSimpArgs false
theorem Bx.setI {w B C T} (h : Bx w B C T) (i : Nat) (v : Value) : Bx (w.setCell ⟨B, i, none⟩ v) B (C.setIfInBounds i v) T := by
  unfold Bx World.setCell at *
  dsimp only
  rw [Array.getElem?_modify, if_pos rfl, h]
  rfl
def intsA (X : List Int) : Array Value := (X.map (Value.int .i64)).toArray
theorem intsA_set (X : List Int) (i : Nat) (v : Int) : (intsA X).setIfInBounds i (.int .i64 v) = intsA (X.set i v) := by
  simp [intsA, List.map_set]
theorem intsA_get (X : List Int) (i : Nat) (h : i < X.length) : (intsA X)[i]? = some (.int .i64 (rd X i)) := by
  simp [intsA, rd, h]
theorem C_ofBx {w B T} {X : List Int} (h : Bx w B (intsA X) T) (hm : X.length ≤ 9223372036854775807) (n : Nat) (hn : n = X.length) : Kd.C (Kd.int .i64) w (some ⟨B, 0, none⟩) n X := by
  subst hn
  refine Kd.C_of_reads (d := (0 : Int)) (h1 := fun _ => rfl) ⟨rfl, hm, fun _ => ⟨_, rfl, fun j hj => ?_⟩⟩
  rw [add_plain, h.cell j, intsA_get X j hj]
  rfl
theorem intsA_made (n : Nat) : madeCells #[.int .i64 0] n = intsA (List.replicate n 0) := by
  apply Array.ext
  · simp [intsA, madeCells]
  · intro i h1 h2
    simp [intsA, madeCells, Nat.mod_one]
theorem take_sum (l : List Int) (k : Nat) (h : k < l.length) : (l.take (k + 1)).sum = (l.take k).sum + rd l k := by
  rw [List.take_succ_eq_append_getElem h, List.sum_append]
  simp [rd, h]
theorem sum_bd (l : List Int) (B : Int) (hB : ∀ k ∈ l, 0 ≤ k ∧ k ≤ B) : 0 ≤ l.sum ∧ l.sum ≤ B * l.length := by
  induction l with
  | nil => simp
  | cons x l ih =>
    have h1 := hB x (List.mem_cons_self ..)
    have h2 := ih (fun k hk => hB k (List.mem_cons_of_mem _ hk))
    simp only [List.sum_cons, List.length_cons]
    have h3 : B * ((l.length + 1 : Nat) : Int) = B * l.length + B := by rw [Int.natCast_add, Int.mul_add]; simp
    omega
set_option maxRecDepth 100000 in
theorem sum_ (A : Option Addr) (c : Nat) (l : List Int) (w : World) (hr : Kd.C (Kd.int .i64) w A l.length l) (hc : l.length ≤ c) (hb : ∀ k ∈ l, 0 ≤ k ∧ k ≤ 10) (hl : l.length ≤ 1000) :
    Calls Try.prog 72 #[.slice A l.length c] w fun e w' => e = .returned (.int .i64 l.sum) ∧ Up w w' := by
  have HR := Aside0.mk hr
  have HB := Aside0.mk hb
  clear hr hb
  go_enter Try.func72, Try.ntmps72
  go_wp2
  go_loopw [2, 7] (fun v2 i wr => ∃ k : Nat, k ≤ l.length ∧ i = .int .i64 k ∧ v2 = .int .i64 (l.take k).sum ∧ Aside0 (Up w wr)) (fun _ i _ => l.length - (intOf i).toNat)
  case atStart => exact ⟨0, Nat.zero_le _, rfl, by simp, ⟨Up.refl _⟩⟩
  case round =>
    obtain ⟨k, hk, rfl, rfl, hu⟩ := hrel
    by_cases hlt : k < l.length
    · obtain ⟨ad, e, hx⟩ := Kd.at_int (C_up HR.out hu.out) k (by omega) (by omega)
      cases e
      simp only [Int.toNat_natCast] at hx
      have h1 := sum_bd (l.take k) 10 (fun x hx => HB.out x (List.mem_of_mem_take hx))
      have h2 := HB.out (rd l k) (by simp [rd, hlt])
      rw [List.length_take] at h1
      have h3 : (l.take k).sum ≤ 10000 := by omega
      have h4 : 0 ≤ (l.take k).sum := h1.1
      have hs := Aside0.mk (take_sum l k hlt)
      clear h1
      go_wp2
      go_roundw
      case rel => exact ⟨k + 1, by omega, by go_num, by rw [hs.out], hu⟩
      case measure => simp [intOf]; omega
    · go_wp2
      go_ret
      exact ⟨ret_int (by rw [List.take_of_length_le (by omega)]), hu.out⟩
def planTo (n : Nat) (k : Int) (fr h : Nat) : List Int := (List.range n).map (fun i => if fr ≤ i ∧ i < h then k else 0)
theorem planTo_length (n : Nat) (k : Int) (fr h : Nat) : (planTo n k fr h).length = n := by simp [planTo]
theorem planTo_succ (n : Nat) (k : Int) (fr h : Nat) (h1 : fr ≤ h) : (planTo n k fr h).set h k = planTo n k fr (h + 1) := by
  apply List.ext_getElem
  · simp [planTo]
  · intro i h2 h3
    simp only [planTo, List.length_set, List.length_map, List.length_range] at h2
    simp only [planTo, List.getElem_set, List.getElem_map, List.getElem_range]
    by_cases e : h = i
    · subst e
      simp
      omega
    · simp only [if_neg e]
      by_cases c1 : fr ≤ i ∧ i < h
      · rw [if_pos c1, if_pos (by omega)]
      · rw [if_neg c1, if_neg (by omega)]
theorem planTo_start (n : Nat) (k : Int) (fr : Nat) : planTo n k fr fr = List.replicate n 0 := by
  apply List.ext_getElem
  · simp [planTo]
  · intro i h1 h2
    simp [planTo]
    omega
theorem planTo_mem {n : Nat} {k : Int} {fr h : Nat} {x : Int} (hx : x ∈ planTo n k fr h) : x = k ∨ x = 0 := by
  simp only [planTo, List.mem_map] at hx
  obtain ⟨i, _, rfl⟩ := hx
  split
  · exact .inl rfl
  · exact .inr rfl
def lastsS (m : Mill) (g : Sp → Int) (l : List Sp) (k : Int) (fr : Nat) : Int := if dryS m g l (planTo l.length k fr l.length) = -1 then (l.length : Int) - fr else dryS m g l (planTo l.length k fr l.length) - fr
theorem dryF_bd : ∀ (ts : List Tide) (n : Nat), (∀ t ∈ ts, t.hour < n) → -1 ≤ dryF ts ∧ dryF ts < n + 1 := by
  intro ts n h
  unfold dryF
  split
  · rename_i t ht
    have := h t (List.mem_of_find?_eq_some ht)
    omega
  · omega
theorem tidesL_hours (m : Mill) (g : Sp → Int) (l : List Sp) : ∀ (p : List Int) (water : Int) (h : Nat), ∀ t ∈ tidesL m g l water p h, h ≤ t.hour ∧ t.hour < h + p.length
  | [], _, _ => by simp [tidesL]
  | k :: p, water, h => by
    intro t ht
    simp only [tidesL, List.mem_cons] at ht
    rcases ht with rfl | ht
    · simp
    · split at ht
      · cases ht
      · have := tidesL_hours m g l p _ (h + 1) t ht
        simp only [List.length_cons]
        omega
theorem dryS_bd (m : Mill) (g : Sp → Int) (l : List Sp) (p : List Int) : -1 ≤ dryS m g l p ∧ dryS m g l p ≤ p.length := by
  have := dryF_bd (tidesL m g l (g ⟨m.nl, m.nh⟩) p 0) p.length (fun t ht => by have := tidesL_hours m g l p _ 0 t ht; omega)
  unfold dryS
  omega
set_option maxRecDepth 100000 in
set_option maxHeartbeats 1000000 in
theorem lasts_ (m : Mill) (g : Sp → Int) (fo : FuncId) (A : Option Addr) (c : Nat) (l : List Sp) (k : Int) (fr : Nat) (hfi : ∀ p : List Int, p.length = l.length → (∀ x ∈ p, x = k ∨ x = 0) → Fine m g l p)
    (hdry : ∀ (A2 : Option Addr) (c2 : Nat) (plan : List Int) (w : World), Fine m g l plan → Kd.C kSp w A l.length l → Kd.C (Kd.int .i64) w A2 plan.length plan → plan.length ≤ c2 →
      Calls Try.prog 62 #[.agg #[.int .i64 m.H, .int .i64 m.T, .int .i64 m.bl, .int .i64 m.bh, .int .i64 m.ho, .int .i64 m.nl, .int .i64 m.nh, .slice A l.length c], .slice A2 plan.length c2, .func (.func fo) #[] #[]] w fun e w' => e = .returned (.int .i64 (dryS m g l plan)) ∧ Up w w')
    (w : World) (hr : Kd.C kSp w A l.length l) (hc : l.length ≤ c) (hfr : fr ≤ l.length) (hl : l.length ≤ 1000) :
    Calls Try.prog 78 #[.agg #[.int .i64 m.H, .int .i64 m.T, .int .i64 m.bl, .int .i64 m.bh, .int .i64 m.ho, .int .i64 m.nl, .int .i64 m.nh, .slice A l.length c], .int .i64 k, .int .i64 (fr : Int), .func (.func fo) #[] #[]] w fun e w' => e = .returned (.int .i64 (lastsS m g l k fr)) ∧ Up w w' := by
  have HR := Aside0.mk hr
  have HFI := Aside0.mk hfi
  have HDRY := Aside0.mk hdry
  clear hr hfi hdry
  have hmk := print_make (P := Try.prog) 27 3 .i64 8 Try.underlying27 info_int (by omega) l.length (by omega)
  go_enter Try.func78, Try.ntmps78
  go_wp2_with fail
  clear hmk
  have hb0 : Bx ((w.alloc (.cells #[.int .i64 m.H, .int .i64 m.T, .int .i64 m.bl, .int .i64 m.bh, .int .i64 m.ho, .int .i64 m.nl, .int .i64 m.nh, .slice A l.length c] 98)).alloc (.cells (madeCells #[.int .i64 0] l.length) 3)) (w.heap.size + 1) (intsA (planTo l.length k fr fr)) 3 := by
    rw [planTo_start, ← intsA_made]
    have h := Bx.new (w.alloc (.cells #[.int .i64 m.H, .int .i64 m.T, .int .i64 m.bl, .int .i64 m.bh, .int .i64 m.ho, .int .i64 m.nl, .int .i64 m.nh, .slice A l.length c] 98)) (madeCells #[.int .i64 0] l.length) 3
    simpa using h
  have HB0 := Aside0.mk hb0
  clear hb0
  go_loopw [10] (fun v10 wr => ∃ h : Nat, fr ≤ h ∧ h ≤ l.length ∧ v10 = .int .i64 (h : Int) ∧ Aside0 (Bx wr (w.heap.size + 1) (intsA (planTo l.length k fr h)) 3 ∧ Up w wr ∧ Bx wr w.heap.size #[.int .i64 m.H, .int .i64 m.T, .int .i64 m.bl, .int .i64 m.bh, .int .i64 m.ho, .int .i64 m.nl, .int .i64 m.nh, .slice A l.length c] 98)) (fun i _ => l.length - (intOf i).toNat)
  case atStart => exact ⟨fr, Nat.le_refl _, hfr, rfl, ⟨HB0.out, upA, (Bx.new _ _ _).up ((Up.refl _).alloc _)⟩⟩
  case round =>
    obtain ⟨h, h1, h2, rfl, hJ⟩ := hrel
    obtain ⟨hb, hu, hv⟩ := hJ.out
    have hbc := hb.cell
    have hbf := hb.frozen
    have hvc := hv.cell
    have HB := Aside0.mk hb
    have HV := Aside0.mk hv
    have HU := Aside0.mk hu
    clear hb hu hv hJ HB0
    by_cases hlt : h < l.length
    · have hcell := intsA_get (planTo l.length k fr h) h (by rw [planTo_length]; exact hlt)
      have hi0 : (0 : Int) ≤ (h : Int) := by omega
      have hi1 : (h : Int) < (l.length : Int) := by omega
      have hu := HU.out
      go_wp2_with fail
      go_roundw
      case rel => exact ⟨h + 1, by omega, by omega, by go_num, ⟨by rw [← planTo_succ _ _ _ _ h1, ← intsA_set]; exact HB.out.setI h _, upA, HV.out.far (by omega) _ _⟩⟩
      case measure => simp [intOf]; omega
    · obtain rfl : h = l.length := by omega
      have hd := HDRY.out (some ⟨w.heap.size + 1, 0, none⟩) l.length (planTo l.length k fr l.length) wr (HFI.out _ (planTo_length _ _ _ _) (fun x hx => planTo_mem hx)) (C_up HR.out HU.out) (C_ofBx HB.out (by rw [planTo_length]; omega) _ rfl) (by rw [planTo_length]; omega)
      rw [planTo_length] at hd
      have hbd := dryS_bd m g l (planTo l.length k fr l.length)
      rw [planTo_length] at hbd
      by_cases hn : dryS m g l (planTo l.length k fr l.length) = -1
      · have hn1 : (dryS m g l (planTo l.length k fr l.length) != -1) = false := by simp [hn]
        have HN := Aside0.mk hn
        clear hn
        go_wp2_with fail
        refine hd.mono ?_
        clear hd
        rintro e w2 ⟨rfl, hu2⟩
        replace hu2 := Aside0.mk hu2
        go_wp2_with fail
        go_ret
        exact ⟨ret_int (by rw [lastsS, if_pos HN.out]), HU.out.then hu2.out⟩
      · have hn1 : (dryS m g l (planTo l.length k fr l.length) != -1) = true := by simp [hn]
        have HN := Aside0.mk hn
        clear hn
        go_wp2_with fail
        refine hd.mono ?_
        clear hd
        rintro e w2 ⟨rfl, hu2⟩
        replace hu2 := Aside0.mk hu2
        go_wp2_with fail
        go_ret
        exact ⟨ret_int (by rw [lastsS, if_neg HN.out]), HU.out.then hu2.out⟩
end Go.Proofs.Ytcnlbbmokphjnaa
namespace Go.Proofs.Ytcnlbbmokphjnaa
open Go.RowKit Go.Shelf Go.Proofs.YtcnlbbmokphjnaaW.PrintWords
set_option linter.unusedVariables false
set_option linter.unusedSimpArgs false
theorem fineK_lo {m : Mill} {l : List Sp} (h : Valid m l) {k : Int} (hk : 0 ≤ k ∧ k ≤ 10) (p : List Int) (hp : p.length = l.length) (hx : ∀ x ∈ p, x = k ∨ x = 0) : Fine m Sp.lo l p := by
  have h4 := h.now
  have h5 := h.ho
  exact ⟨h.ho, h.T, by simp only; omega, fun s hs => by have := h.flow s hs; omega, fun x hx' => by rcases hx x hx' with rfl | rfl <;> omega, by omega⟩
theorem fineK_hi {m : Mill} {l : List Sp} (h : Valid m l) {k : Int} (hk : 0 ≤ k ∧ k ≤ 10) (p : List Int) (hp : p.length = l.length) (hx : ∀ x ∈ p, x = k ∨ x = 0) : Fine m Sp.hi l p := by
  have h4 := h.now
  have h5 := h.ho
  exact ⟨h.ho, h.T, by simp only; omega, fun s hs => by have := h.flow s hs; omega, fun x hx' => by rcases hx x hx' with rfl | rfl <;> omega, by omega⟩
theorem lasts_low (m : Mill) (A : Option Addr) (c : Nat) (l : List Sp) (k : Int) (fr : Nat) (hv : Valid m l) (hk : 0 ≤ k ∧ k ≤ 10) (w : World) (hr : Kd.C kSp w A l.length l) (hc : l.length ≤ c) (hfr : fr ≤ l.length) :
    Calls Try.prog 78 #[.agg #[.int .i64 m.H, .int .i64 m.T, .int .i64 m.bl, .int .i64 m.bh, .int .i64 m.ho, .int .i64 m.nl, .int .i64 m.nh, .slice A l.length c], .int .i64 k, .int .i64 (fr : Int), .func (.func 63) #[] #[]] w fun e w' => e = .returned (.int .i64 (lastsS m Sp.lo l k fr)) ∧ Up w w' :=
  lasts_ m Sp.lo 63 A c l k fr (fineK_lo hv hk) (fun A2 c2 plan w hfi hr hr2 hc2 => dry_low m A c l A2 c2 plan hfi w hr hc hr2 hc2) w hr hc hfr (by have := hv.len; omega)
theorem lasts_high (m : Mill) (A : Option Addr) (c : Nat) (l : List Sp) (k : Int) (fr : Nat) (hv : Valid m l) (hk : 0 ≤ k ∧ k ≤ 10) (w : World) (hr : Kd.C kSp w A l.length l) (hc : l.length ≤ c) (hfr : fr ≤ l.length) :
    Calls Try.prog 78 #[.agg #[.int .i64 m.H, .int .i64 m.T, .int .i64 m.bl, .int .i64 m.bh, .int .i64 m.ho, .int .i64 m.nl, .int .i64 m.nh, .slice A l.length c], .int .i64 k, .int .i64 (fr : Int), .func (.func 64) #[] #[]] w fun e w' => e = .returned (.int .i64 (lastsS m Sp.hi l k fr)) ∧ Up w w' :=
  lasts_ m Sp.hi 64 A c l k fr (fineK_hi hv hk) (fun A2 c2 plan w hfi hr hr2 hc2 => dry_high m A c l A2 c2 plan hfi w hr hc hr2 hc2) w hr hc hfr (by have := hv.len; omega)
def lastsE (m : Mill) (l : List Sp) (k f : Int) : Int := if checkE m l = 0 then (if inB 1 m.H [k] && inB 0 ((l.length : Int) - 1) [f] then 0 else 3) else checkE m l
def lastsI (m : Mill) (g : Sp → Int) (l : List Sp) (k f : Int) : Int := if lastsE m l k f = 0 then lastsS m g l k f.toNat else 0
set_option maxRecDepth 100000 in
set_option maxHeartbeats 1000000 in
theorem lastsF_ (m : Mill) (A : Option Addr) (c : Nat) (l : List Sp) (k f : Int) (w : World) (hr : Kd.C kSp w A l.length l) (hc : l.length ≤ c) :
    Calls Try.prog 36 #[.agg #[.int .i64 m.H, .int .i64 m.T, .int .i64 m.bl, .int .i64 m.bh, .int .i64 m.ho, .int .i64 m.nl, .int .i64 m.nh], .slice A l.length c, .int .i64 k, .int .i64 f] w fun e w' => e = .returned (.tuple #[.int .i64 (lastsI m Sp.lo l k f), .int .i64 (lastsI m Sp.hi l k f), .int .i64 (lastsE m l k f)]) ∧ Up w w' := by
  have HR := Aside0.mk hr
  have hml := CF_len hr
  clear hr
  by_cases h0 : checkE m l = 0
  · have hv := valid_of m l h0
    have H0 := Aside0.mk h0
    have h00 : (checkE m l != 0) = false := by simp [h0]
    clear h0
    by_cases hok : (inB 1 m.H [k] && inB 0 ((l.length : Int) - 1) [f]) = true
    · have hk : inB 1 m.H [k] = true ∧ inB 0 ((l.length : Int) - 1) [f] = true := by simpa using hok
      have hk1 := (inB_iff _ _ _).1 hk.1 k (by simp)
      have hk2 := (inB_iff _ _ _).1 hk.2 f (by simp)
      have hb1 := hk.1
      have hb2 := hk.2
      have hE : lastsE m l k f = 0 := by simp only [lastsE, if_pos H0.out, if_pos hok]
      have HE := Aside0.mk hE
      obtain ⟨fr, rfl⟩ := Int.eq_ofNat_of_zero_le hk2.1
      have hH := hv.H
      clear hok hk hE
      go_enter Try.func36, Try.ntmps36
      go_wp2_with fail
      (with_reducible refine (open_ m A c l _ (C_up HR.out upA) hc).mono ?_)
      rintro e w1 ⟨rfl, hb⟩
      have hbA := Aside0.mk hb
      obtain ⟨hcA, hfA⟩ := hb.old
      have hz := hb.le
      (try simp at hz)
      (try have hz0 : w.heap.size < w1.heap.size := by omega)
      (try have hzb : w.heap.size + 1 < w1.heap.size := by omega)
      (try have hzc : w.heap.size + 2 < w1.heap.size := by omega)
      clear hb
      go_wp2_with (go_at_call 71; (with_reducible refine (withinL1 _ _ _ _ _ (by simp)).mono ?_); rintro e w' ⟨rfl, hb⟩; have hbA := Aside0.mk hb; obtain ⟨hcA, hfA⟩ := hb.old; have hz := hb.le; (try simp at hz); (try have hz0 : w.heap.size < w'.heap.size := by omega); (try have hzb : w.heap.size + 1 < w'.heap.size := by omega); (try have hzc : w.heap.size + 2 < w'.heap.size := by omega); have hz1 : w1.heap.size < w'.heap.size := (by omega); clear hb)
      go_region_held3 (fun W => W.cell? ⟨w1.heap.size, 0, none⟩ = some (.int .i64 m.H) ∧ W.cell? ⟨w1.heap.size, 1, none⟩ = some (.int .i64 m.T) ∧ W.cell? ⟨w1.heap.size, 2, none⟩ = some (.int .i64 m.bl) ∧ W.cell? ⟨w1.heap.size, 3, none⟩ = some (.int .i64 m.bh) ∧ W.cell? ⟨w1.heap.size, 4, none⟩ = some (.int .i64 m.ho) ∧ W.cell? ⟨w1.heap.size, 5, none⟩ = some (.int .i64 m.nl) ∧ W.cell? ⟨w1.heap.size, 6, none⟩ = some (.int .i64 m.nh) ∧ W.cell? ⟨w1.heap.size, 7, none⟩ = some (.slice A l.length c)) (first | go_keep | (go_split_ands; (repeat' (with_reducible apply And.intro)) <;> ((refine (hcA _ _ (by simp; omega)).trans ?_); assumption))) (first | (go_at_call 78; (with_reducible refine (lasts_low m A c l k fr hv (by omega) _ (C_up HR.out upA) hc (by omega)).mono ?_); rintro e w' ⟨rfl, hb⟩; have hbA := Aside0.mk hb; obtain ⟨hcA, hfA⟩ := hb.old; have hz := hb.le; (try simp at hz); (try have hz0 : w.heap.size < w'.heap.size := by omega); (try have hzb : w.heap.size + 1 < w'.heap.size := by omega); (try have hzc : w.heap.size + 2 < w'.heap.size := by omega); have hz1 : w1.heap.size < w'.heap.size := (by omega); clear hb) | (go_at_call 78; (with_reducible refine (lasts_high m A c l k fr hv (by omega) _ (C_up HR.out upA) hc (by omega)).mono ?_); rintro e w' ⟨rfl, hb⟩; have hbA := Aside0.mk hb; obtain ⟨hcA, hfA⟩ := hb.old; have hz := hb.le; (try simp at hz); (try have hz0 : w.heap.size < w'.heap.size := by omega); (try have hzb : w.heap.size + 1 < w'.heap.size := by omega); (try have hzc : w.heap.size + 2 < w'.heap.size := by omega); have hz1 : w1.heap.size < w'.heap.size := (by omega); clear hb))
      go_wp2_with fail
      go_ret3
      exact ⟨by simp [lastsI, HE.out], upA⟩
    · have hE : lastsE m l k f = 3 := by simp only [lastsE, if_pos H0.out, if_neg hok]
      have HE := Aside0.mk hE
      clear hE
      go_enter Try.func36, Try.ntmps36
      go_wp2_with fail
      (with_reducible refine (open_ m A c l _ (C_up HR.out upA) hc).mono ?_)
      rintro e w1 ⟨rfl, hb⟩
      have hbA := Aside0.mk hb
      obtain ⟨hcA, hfA⟩ := hb.old
      have hz := hb.le
      (try simp at hz)
      (try have hz0 : w.heap.size < w1.heap.size := by omega)
      (try have hzb : w.heap.size + 1 < w1.heap.size := by omega)
      (try have hzc : w.heap.size + 2 < w1.heap.size := by omega)
      clear hb
      go_wp2_with (go_at_call 71; (with_reducible refine (withinL1 _ _ _ _ _ (by simp)).mono ?_); rintro e w' ⟨rfl, hb⟩; have hbA := Aside0.mk hb; obtain ⟨hcA, hfA⟩ := hb.old; have hz := hb.le; (try simp at hz); (try have hz0 : w.heap.size < w'.heap.size := by omega); (try have hzb : w.heap.size + 1 < w'.heap.size := by omega); (try have hzc : w.heap.size + 2 < w'.heap.size := by omega); have hz1 : w1.heap.size < w'.heap.size := (by omega); clear hb)
      all_goals
        first
        | (exfalso; simp_all; done)
        | (go_ret3
           exact ⟨by simp [lastsI, HE.out], upA⟩)
  · have H0 := Aside0.mk h0
    have h00 : (checkE m l != 0) = true := by simp [h0]
    have hE : lastsE m l k f = checkE m l := by simp only [lastsE, if_neg H0.out]
    have HE := Aside0.mk hE
    have hE0 : ¬ lastsE m l k f = 0 := by rw [hE]; exact h0
    have HE0 := Aside0.mk hE0
    clear h0 hE hE0
    go_enter Try.func36, Try.ntmps36
    go_wp2_with fail
    (with_reducible refine (open_ m A c l _ (C_up HR.out upA) hc).mono ?_)
    rintro e w1 ⟨rfl, hb⟩
    have hbA := Aside0.mk hb
    obtain ⟨hcA, hfA⟩ := hb.old
    have hz := hb.le
    (try simp at hz)
    (try have hz0 : w.heap.size < w1.heap.size := by omega)
    (try have hzb : w.heap.size + 1 < w1.heap.size := by omega)
    (try have hzc : w.heap.size + 2 < w1.heap.size := by omega)
    clear hb
    go_wp2_with fail
    go_ret3
    exact ⟨by simp [lastsI, HE.out, H0.out], upA⟩
end Go.Proofs.Ytcnlbbmokphjnaa
namespace Go.Proofs.Ytcnlbbmokphjnaa
open Go.RowKit Go.Shelf Go.Proofs.YtcnlbbmokphjnaaW.PrintWords
set_option linter.unusedVariables false
set_option linter.unusedSimpArgs false
def fstN (p : Nat → Bool) : Nat → Nat → Int
  | 0, _ => -1
  | n + 1, k => if p k then k else fstN p n (k + 1)
def windowF (m : Mill) (l : List Sp) (k hours : Int) : Int := fstN (fun fr => decide (lastsS m Sp.lo l k fr ≥ hours)) l.length 0
def windowG (m : Mill) (l : List Sp) (k hours : Int) : Int := if checkE m l = 0 then (if inB 1 m.H [k] && inB 1 24 [hours] then 0 else 3) else checkE m l
def windowE (m : Mill) (l : List Sp) (k hours : Int) : Int := if windowG m l k hours = 0 then (if windowF m l k hours = -1 then 7 else 0) else windowG m l k hours
def windowI (m : Mill) (l : List Sp) (k hours : Int) : Int := if windowG m l k hours = 0 then (if windowF m l k hours = -1 then 0 else windowF m l k hours) else 0
set_option maxRecDepth 100000 in
set_option maxHeartbeats 1000000 in
theorem windowF_ (m : Mill) (A : Option Addr) (c : Nat) (l : List Sp) (k hrs : Int) (w : World) (hr : Kd.C kSp w A l.length l) (hc : l.length ≤ c) :
    Calls Try.prog 38 #[.agg #[.int .i64 m.H, .int .i64 m.T, .int .i64 m.bl, .int .i64 m.bh, .int .i64 m.ho, .int .i64 m.nl, .int .i64 m.nh], .slice A l.length c, .int .i64 k, .int .i64 hrs] w fun e w' => e = .returned (.tuple #[.int .i64 (windowI m l k hrs), .int .i64 (windowE m l k hrs)]) ∧ Up w w' := by
  have HR := Aside0.mk hr
  have hml := CF_len hr
  clear hr
  by_cases h0 : checkE m l = 0
  · have hv := valid_of m l h0
    have H0 := Aside0.mk h0
    have h00 : (checkE m l != 0) = false := by simp [h0]
    clear h0
    by_cases hok : (inB 1 m.H [k] && inB 1 24 [hrs]) = true
    · have hk : inB 1 m.H [k] = true ∧ inB 1 24 [hrs] = true := by simpa using hok
      have hk1 := (inB_iff _ _ _).1 hk.1 k (by simp)
      have hk2 := (inB_iff _ _ _).1 hk.2 hrs (by simp)
      have hb1 := hk.1
      have hb2 := hk.2
      have hE : windowG m l k hrs = 0 := by simp only [windowG, if_pos H0.out, if_pos hok]
      have HE := Aside0.mk hE
      have hH := hv.H
      clear hok hk hE
      go_enter Try.func38, Try.ntmps38
      go_wp2_with fail
      (with_reducible refine (open_ m A c l _ (C_up HR.out upA) hc).mono ?_)
      rintro e w1 ⟨rfl, hb⟩
      have hbA := Aside0.mk hb
      obtain ⟨hcA, hfA⟩ := hb.old
      have hz := hb.le
      (try simp at hz)
      (try have hz0 : w.heap.size < w1.heap.size := by omega)
      (try have hzb : w.heap.size + 1 < w1.heap.size := by omega)
      (try have hzc : w.heap.size + 2 < w1.heap.size := by omega)
      clear hb
      go_wp2_with (go_at_call 71; (with_reducible refine (withinL1 _ _ _ _ _ (by simp)).mono ?_); rintro e w' ⟨rfl, hb⟩; have hbA := Aside0.mk hb; obtain ⟨hcA, hfA⟩ := hb.old; have hz := hb.le; (try simp at hz); (try have hz0 : w.heap.size < w'.heap.size := by omega); (try have hzb : w.heap.size + 1 < w'.heap.size := by omega); (try have hzc : w.heap.size + 2 < w'.heap.size := by omega); have hz1 : w1.heap.size < w'.heap.size := (by omega); clear hb)
      have HW1 : Aside0 (Up w (w1.alloc (.cells #[.int .i64 m.H, .int .i64 m.T, .int .i64 m.bl, .int .i64 m.bh, .int .i64 m.ho, .int .i64 m.nl, .int .i64 m.nh, .slice A l.length c] 98))) := ⟨upA⟩
      go_loopw [36] (fun i wr => ∃ fr : Nat, fr ≤ l.length ∧ i = .int .i64 (fr : Int) ∧ Aside0 (windowF m l k hrs = fstN (fun fr => decide (lastsS m Sp.lo l k fr ≥ hrs)) (l.length - fr) fr) ∧ Aside0 (Up (w1.alloc (.cells #[.int .i64 m.H, .int .i64 m.T, .int .i64 m.bl, .int .i64 m.bh, .int .i64 m.ho, .int .i64 m.nl, .int .i64 m.nh, .slice A l.length c] 98)) wr)) (fun i _ => l.length - (intOf i).toNat)
      case atStart => exact ⟨0, Nat.zero_le _, rfl, ⟨rfl⟩, ⟨upA⟩⟩
      case round =>
        obtain ⟨fr, hfr, rfl, he, hu⟩ := hrel
        obtain ⟨hcB, hfB⟩ := hu.out.old
        have hzB := hu.out.le
        simp only [World.size_alloc] at hzB
        have HUW : Aside0 (Up w wr) := ⟨HW1.out.then hu.out⟩
        by_cases hlt : fr < l.length
        · have hi0 : (0 : Int) ≤ (fr : Int) := by omega
          have hst : fstN (fun fr => decide (lastsS m Sp.lo l k fr ≥ hrs)) (l.length - fr) fr = if lastsS m Sp.lo l k fr ≥ hrs then (fr : Int) else fstN (fun fr => decide (lastsS m Sp.lo l k fr ≥ hrs)) (l.length - (fr + 1)) (fr + 1) := by
            rw [show l.length - fr = (l.length - (fr + 1)) + 1 by omega, fstN]
            simp
          have HST := Aside0.mk hst
          clear hst
          by_cases hp : lastsS m Sp.lo l k fr ≥ hrs
          · have hF : windowF m l k hrs = (fr : Int) := by rw [he.out, HST.out, if_pos hp]
            have HF := Aside0.mk hF
            clear hF
            go_wp2_with (go_at_call 78; (with_reducible refine (lasts_low m A c l k fr hv (by omega) _ (C_up HR.out (HUW.out.then upA)) hc (by omega)).mono ?_); rintro e w' ⟨rfl, hb⟩; have hbA := Aside0.mk hb; obtain ⟨hcA, hfA⟩ := hb.old; have hz := hb.le; (try simp at hz); (try have hz0 : w.heap.size < w'.heap.size := by omega); (try have hzb : w.heap.size + 1 < w'.heap.size := by omega); (try have hzc : w.heap.size + 2 < w'.heap.size := by omega); skip; clear hb)
            go_ret2
            exact ⟨by simp [windowI, windowE, HE.out, HF.out], HUW.out.then upA⟩
          · have hF : windowF m l k hrs = fstN (fun fr => decide (lastsS m Sp.lo l k fr ≥ hrs)) (l.length - (fr + 1)) (fr + 1) := by rw [he.out, HST.out, if_neg hp]
            have HF := Aside0.mk hF
            clear hF
            go_wp2_with (go_at_call 78; (with_reducible refine (lasts_low m A c l k fr hv (by omega) _ (C_up HR.out (HUW.out.then upA)) hc (by omega)).mono ?_); rintro e w' ⟨rfl, hb⟩; have hbA := Aside0.mk hb; obtain ⟨hcA, hfA⟩ := hb.old; have hz := hb.le; (try simp at hz); (try have hz0 : w.heap.size < w'.heap.size := by omega); (try have hzb : w.heap.size + 1 < w'.heap.size := by omega); (try have hzc : w.heap.size + 2 < w'.heap.size := by omega); skip; clear hb)
            go_roundw
            case rel => exact ⟨fr + 1, by omega, by go_num, ⟨HF.out⟩, ⟨hu.out.then upA⟩⟩
            case measure => simp [intOf]; omega
        · have hF : windowF m l k hrs = -1 := by rw [he.out, show l.length - fr = 0 by omega, fstN]
          have HF := Aside0.mk hF
          clear hF
          go_wp2_with fail
          go_ret2
          exact ⟨by simp [windowI, windowE, HE.out, HF.out], HUW.out⟩
    · have hE : windowG m l k hrs = 3 := by simp only [windowG, if_pos H0.out, if_neg hok]
      have HE := Aside0.mk hE
      clear hE
      go_enter Try.func38, Try.ntmps38
      go_wp2_with fail
      (with_reducible refine (open_ m A c l _ (C_up HR.out upA) hc).mono ?_)
      rintro e w1 ⟨rfl, hb⟩
      have hbA := Aside0.mk hb
      obtain ⟨hcA, hfA⟩ := hb.old
      have hz := hb.le
      (try simp at hz)
      (try have hz0 : w.heap.size < w1.heap.size := by omega)
      (try have hzb : w.heap.size + 1 < w1.heap.size := by omega)
      (try have hzc : w.heap.size + 2 < w1.heap.size := by omega)
      clear hb
      go_wp2_with (go_at_call 71; (with_reducible refine (withinL1 _ _ _ _ _ (by simp)).mono ?_); rintro e w' ⟨rfl, hb⟩; have hbA := Aside0.mk hb; obtain ⟨hcA, hfA⟩ := hb.old; have hz := hb.le; (try simp at hz); (try have hz0 : w.heap.size < w'.heap.size := by omega); (try have hzb : w.heap.size + 1 < w'.heap.size := by omega); (try have hzc : w.heap.size + 2 < w'.heap.size := by omega); have hz1 : w1.heap.size < w'.heap.size := (by omega); clear hb)
      all_goals
        first
        | (exfalso; simp_all; done)
        | (go_ret2
           exact ⟨by simp [windowI, windowE, HE.out], upA⟩)
  · have H0 := Aside0.mk h0
    have h00 : (checkE m l != 0) = true := by simp [h0]
    have hE : windowG m l k hrs = checkE m l := by simp only [windowG, if_neg H0.out]
    have HE := Aside0.mk hE
    clear h0 hE
    go_enter Try.func38, Try.ntmps38
    go_wp2_with fail
    (with_reducible refine (open_ m A c l _ (C_up HR.out upA) hc).mono ?_)
    rintro e w1 ⟨rfl, hb⟩
    have hbA := Aside0.mk hb
    obtain ⟨hcA, hfA⟩ := hb.old
    have hz := hb.le
    (try simp at hz)
    (try have hz0 : w.heap.size < w1.heap.size := by omega)
    (try have hzb : w.heap.size + 1 < w1.heap.size := by omega)
    (try have hzc : w.heap.size + 2 < w1.heap.size := by omega)
    clear hb
    go_wp2_with fail
    go_ret2
    exact ⟨by simp [windowI, windowE, HE.out, H0.out], upA⟩
def blowsE (m : Mill) (p : List Int) : Int := if millE m = 0 then (if inB 1 24 [(p.length : Int)] && inB 0 m.H p then 0 else 4) else millE m
def blowsS (m : Mill) (p : List Int) : Sp := if blowsE m p = 0 then ⟨p.sum * m.bl, p.sum * m.bh⟩ else ⟨0, 0⟩
set_option maxRecDepth 100000 in
set_option maxHeartbeats 1000000 in
theorem blowsF_ (m : Mill) (A : Option Addr) (c : Nat) (p : List Int) (w : World) (hr : Kd.C (Kd.int .i64) w A p.length p) (hc : p.length ≤ c) :
    Calls Try.prog 27 #[.agg #[.int .i64 m.H, .int .i64 m.T, .int .i64 m.bl, .int .i64 m.bh, .int .i64 m.ho, .int .i64 m.nl, .int .i64 m.nh], .slice A p.length c] w fun e w' => e = .returned (.tuple #[.agg #[.int .i64 (blowsS m p).lo, .int .i64 (blowsS m p).hi], .int .i64 (blowsE m p)]) ∧ Up w w' := by
  have HR := Aside0.mk hr
  have hml := CF_len hr
  clear hr
  by_cases hE : blowsE m p = 0
  · have hb : millB m = true := by
      cases h : millB m
      · simp [blowsE, millE, h] at hE
      · rfl
    have hM : millE m = 0 := by simp [millE, hb]
    obtain ⟨hH, hT, hbl, _, _⟩ := (millB_iff m).1 hb
    have hok : inB 1 24 [(p.length : Int)] = true ∧ inB 0 m.H p = true := by
      simp only [blowsE, hM] at hE
      by_cases h : (inB 1 24 [(p.length : Int)] && inB 0 m.H p) = true
      · simpa using h
      · simp [h] at hE
    have h1 := (inB_iff _ _ _).1 hok.1 _ (List.mem_singleton.2 rfl)
    have h2 : ∀ x ∈ p, 0 ≤ x ∧ x ≤ 10 := fun x hx => by have := (inB_iff _ _ _).1 hok.2 x hx; omega
    have hs := sum_bd p 10 h2
    have hs1 : 0 ≤ p.sum := hs.1
    have hs2 : p.sum ≤ 240 := by omega
    have hm1 : 0 ≤ p.sum * m.bl := Int.mul_nonneg hs1 hbl.1
    have hm2 : p.sum * m.bl ≤ 240 * 5000 := Int.mul_le_mul hs2 (by omega) hbl.1 (by omega)
    have hm3 : 0 ≤ p.sum * m.bh := Int.mul_nonneg hs1 (by omega)
    have hm4 : p.sum * m.bh ≤ 240 * 5000 := Int.mul_le_mul hs2 (by omega) (by omega) (by omega)
    have HH2 := Aside0.mk h2
    have HE := Aside0.mk hE
    have hi1 := hok.1
    have hi2 := hok.2
    have hM0 : (millE m != 0) = false := by simp [hM]
    have HHH := Aside0.mk hH
    have HBL := Aside0.mk hbl
    clear h2 hE hok hM hb hs hT hH hbl
    go_enter Try.func27, Try.ntmps27
    go_wp2_with (first | (go_at_call 57; (with_reducible refine (checkMill _ _).mono ?_); rintro e w' ⟨rfl, hb⟩; have hbA := Aside0.mk hb; obtain ⟨hcA, hfA⟩ := hb.old; have hz := hb.le; (try simp at hz); (try have hz0 : w.heap.size < w'.heap.size := by omega); (try have hzb : w.heap.size + 1 < w'.heap.size := by omega); (try have hzc : w.heap.size + 2 < w'.heap.size := by omega); clear hb) | (go_at_call 71; (with_reducible refine (withinL1 _ _ _ _ _ (by simp)).mono ?_); rintro e w' ⟨rfl, hb⟩; have hbA := Aside0.mk hb; obtain ⟨hcA, hfA⟩ := hb.old; have hz := hb.le; (try simp at hz); (try have hz0 : w.heap.size < w'.heap.size := by omega); (try have hzb : w.heap.size + 1 < w'.heap.size := by omega); (try have hzc : w.heap.size + 2 < w'.heap.size := by omega); clear hb) | (go_at_call 71; (with_reducible refine (within _ _ A c _ p _ rfl (C_up HR.out upA) hc).mono ?_); rintro e w' ⟨rfl, hb⟩; have hbA := Aside0.mk hb; obtain ⟨hcA, hfA⟩ := hb.old; have hz := hb.le; (try simp at hz); (try have hz0 : w.heap.size < w'.heap.size := by omega); (try have hzb : w.heap.size + 1 < w'.heap.size := by omega); (try have hzc : w.heap.size + 2 < w'.heap.size := by omega); clear hb) | (go_at_call 72; (with_reducible refine (sum_ A c p _ (C_up HR.out upA) hc HH2.out (by omega)).mono ?_); rintro e w' ⟨rfl, hb⟩; have hbA := Aside0.mk hb; obtain ⟨hcA, hfA⟩ := hb.old; have hz := hb.le; (try simp at hz); (try have hz0 : w.heap.size < w'.heap.size := by omega); (try have hzb : w.heap.size + 1 < w'.heap.size := by omega); (try have hzc : w.heap.size + 2 < w'.heap.size := by omega); clear hb))
    have hb := ((Bx.new (w.alloc (.cells #[.int .i64 m.H, .int .i64 m.T, .int .i64 m.bl, .int .i64 m.bh, .int .i64 m.ho, .int .i64 m.nl, .int .i64 m.nh] 25)) #[.int .i64 0, .int .i64 0] 23).up (w' := w') upA).set2 (.int .i64 (p.sum * m.bl)) (.int .i64 (p.sum * m.bh))
    simp only [World.size_alloc] at hb
    have hbc := hb.cell
    refine bodyPost_ret (v := .tuple #[.agg #[.int .i64 (p.sum * m.bl), .int .i64 (p.sum * m.bh)], .int .i64 0]) ?_ rfl ⟨?_, ?_⟩
    · simp [results, Try.results27, go_sem, hbc]
    · simp [blowsS, HE.out]
    · exact upA
  · have HE := Aside0.mk hE
    clear hE
    by_cases hM : millE m = 0
    · have hM0 : (millE m != 0) = false := by simp [hM]
      have hE4 : blowsE m p = 4 := by
        have := HE.out
        simp only [blowsE, hM] at this ⊢
        by_cases h : (inB 1 24 [(p.length : Int)] && inB 0 m.H p) = true
        · simp [h] at this
        · simp [h]
      have HE4 := Aside0.mk hE4
      have hno : ¬ (inB 1 24 [(p.length : Int)] = true ∧ inB 0 m.H p = true) := by
        intro h
        simp [blowsE, hM, h.1, h.2] at hE4
      clear hE4
      have HMM := Aside0.mk hM
      clear hM
      go_enter Try.func27, Try.ntmps27
      go_wp2_with (first | (go_at_call 57; (with_reducible refine (checkMill _ _).mono ?_); rintro e w' ⟨rfl, hb⟩; have hbA := Aside0.mk hb; obtain ⟨hcA, hfA⟩ := hb.old; have hz := hb.le; (try simp at hz); (try have hz0 : w.heap.size < w'.heap.size := by omega); (try have hzb : w.heap.size + 1 < w'.heap.size := by omega); (try have hzc : w.heap.size + 2 < w'.heap.size := by omega); clear hb) | (go_at_call 71; (with_reducible refine (withinL1 _ _ _ _ _ (by simp)).mono ?_); rintro e w' ⟨rfl, hb⟩; have hbA := Aside0.mk hb; obtain ⟨hcA, hfA⟩ := hb.old; have hz := hb.le; (try simp at hz); (try have hz0 : w.heap.size < w'.heap.size := by omega); (try have hzb : w.heap.size + 1 < w'.heap.size := by omega); (try have hzc : w.heap.size + 2 < w'.heap.size := by omega); clear hb) | (go_at_call 71; (with_reducible refine (within _ _ A c _ p _ rfl (C_up HR.out upA) hc).mono ?_); rintro e w' ⟨rfl, hb⟩; have hbA := Aside0.mk hb; obtain ⟨hcA, hfA⟩ := hb.old; have hz := hb.le; (try simp at hz); (try have hz0 : w.heap.size < w'.heap.size := by omega); (try have hzb : w.heap.size + 1 < w'.heap.size := by omega); (try have hzc : w.heap.size + 2 < w'.heap.size := by omega); clear hb))
      all_goals
        first
        | (exfalso; simp_all; done)
        | (have hb := ((Bx.new (w.alloc (.cells #[.int .i64 m.H, .int .i64 m.T, .int .i64 m.bl, .int .i64 m.bh, .int .i64 m.ho, .int .i64 m.nl, .int .i64 m.nh] 25)) #[.int .i64 0, .int .i64 0] 23).up (w' := w') upA).set2 (.int .i64 0) (.int .i64 0)
           simp only [World.size_alloc] at hb
           have hbc := hb.cell
           refine bodyPost_ret (v := .tuple #[.agg #[.int .i64 0, .int .i64 0], .int .i64 4]) ?_ rfl ⟨?_, ?_⟩
           · simp [results, Try.results27, go_sem, hbc]
           · rw [blowsS, if_neg HE.out, HE4.out]
           · exact upA)
    · have hM0 : (millE m != 0) = true := by simp [hM]
      have hE2 : blowsE m p = millE m := by simp only [blowsE, if_neg hM]
      have HE2 := Aside0.mk hE2
      clear hM hE2
      go_enter Try.func27, Try.ntmps27
      go_wp2_with (first | (go_at_call 57; (with_reducible refine (checkMill _ _).mono ?_); rintro e w' ⟨rfl, hb⟩; have hbA := Aside0.mk hb; obtain ⟨hcA, hfA⟩ := hb.old; have hz := hb.le; (try simp at hz); (try have hz0 : w.heap.size < w'.heap.size := by omega); (try have hzb : w.heap.size + 1 < w'.heap.size := by omega); (try have hzc : w.heap.size + 2 < w'.heap.size := by omega); clear hb))
      have hb := ((Bx.new (w.alloc (.cells #[.int .i64 m.H, .int .i64 m.T, .int .i64 m.bl, .int .i64 m.bh, .int .i64 m.ho, .int .i64 m.nl, .int .i64 m.nh] 25)) #[.int .i64 0, .int .i64 0] 23).up (w' := w') upA).set2 (.int .i64 0) (.int .i64 0)
      simp only [World.size_alloc] at hb
      have hbc := hb.cell
      refine bodyPost_ret (v := .tuple #[.agg #[.int .i64 0, .int .i64 0], .int .i64 (millE m)]) ?_ rfl ⟨?_, ?_⟩
      · simp [results, Try.results27, go_sem, hbc]
      · rw [blowsS, if_neg HE.out, HE2.out]
      · exact upA
end Go.Proofs.Ytcnlbbmokphjnaa
namespace Go.Proofs.Ytcnlbbmokphjnaa
open Go.RowKit Go.Shelf Go.Proofs.YtcnlbbmokphjnaaW.PrintWords
set_option linter.unusedVariables false
set_option linter.unusedSimpArgs false
def doneF (m : Mill) (l : List Sp) (work : Int) : Int := fstN (fun n => decide (mostL m (l.take n) m.nl ≥ work)) (l.length + 1) 0
def doneG (m : Mill) (l : List Sp) (work : Int) : Int := if checkE m l = 0 then (if inB 0 200 [work] then 0 else 3) else checkE m l
def doneE (m : Mill) (l : List Sp) (work : Int) : Int := if doneG m l work = 0 then (if doneF m l work = -1 then 7 else 0) else doneG m l work
def doneI (m : Mill) (l : List Sp) (work : Int) : Int := if doneG m l work = 0 then (if doneF m l work = -1 then 0 else doneF m l work) else 0
theorem most_at (m : Mill) (A : Option Addr) (c : Nat) (l : List Sp) (r n : Nat) (wr W : World) (hv : Valid m l) (hn : n ≤ l.length) (hr : Kd.C kSp wr A l.length l) (hc : l.length ≤ c) (hr0 : wr.heap.size ≤ r) (hu : Up wr W) (hm : Memo (knows m (l.take n)) W r) :
    Calls Try.prog 76 #[.agg #[.int .i64 m.H, .int .i64 m.T, .int .i64 m.bl, .int .i64 m.bh, .int .i64 m.ho, .int .i64 m.nl, .int .i64 m.nh, .slice A n c, .map (some r)], .agg #[.int .i64 0, .int .i64 m.nl]] W fun e w' => e = .returned (.int .i64 (mostL m (l.take n) m.nl)) ∧ Up wr w' := by
  have h4 := hv.now
  have h5 := hv.ho
  have h6 := hv.T
  have h7 := hv.H
  have h8 := hv.len
  have hl : (l.take n).length = n := by rw [List.length_take]; omega
  have h := most_ m A c (l.take n) r wr (CF_take n hn hr) (by omega) hr0 (by omega) (fun s hs => by have := hv.flow s (List.mem_of_mem_take hs); omega) (by omega) (by omega) (by omega) n 0 m.nl W (by omega) (by omega) (by omega) hu hm
  rw [hl] at h
  exact h.mono fun e w' hh => ⟨hh.1, hh.2.1.up hr0 hu⟩
set_option maxRecDepth 100000 in
set_option maxHeartbeats 1000000 in
theorem doneF_ (m : Mill) (A : Option Addr) (c : Nat) (l : List Sp) (work : Int) (w : World) (hr : Kd.C kSp w A l.length l) (hc : l.length ≤ c) :
    Calls Try.prog 32 #[.agg #[.int .i64 m.H, .int .i64 m.T, .int .i64 m.bl, .int .i64 m.bh, .int .i64 m.ho, .int .i64 m.nl, .int .i64 m.nh], .slice A l.length c, .int .i64 work] w fun e w' => e = .returned (.tuple #[.int .i64 (doneI m l work), .int .i64 (doneE m l work)]) ∧ Up w w' := by
  have HR := Aside0.mk hr
  have hml := CF_len hr
  clear hr
  by_cases h0 : checkE m l = 0
  · have hv := valid_of m l h0
    have H0 := Aside0.mk h0
    have h00 : (checkE m l != 0) = false := by simp [h0]
    clear h0
    have hlen := hv.len
    by_cases hok : inB 0 200 [work] = true
    · have hE : doneG m l work = 0 := by simp only [doneG, if_pos H0.out, if_pos hok]
      have HE := Aside0.mk hE
      have hw1 : IntKind.i64.wrap ((l.length : Int) + 1) = (l.length : Int) + 1 := IntWalk.i64_in _ (by omega)
      have hw2 : IntKind.i64.wrap ((l.length : Int)) = (l.length : Int) := IntWalk.i64_in _ (by omega)
      clear hE
      go_enter Try.func32, Try.ntmps32
      go_wp2_with fail
      (with_reducible refine (open_ m A c l _ (C_up HR.out upA) hc).mono ?_)
      rintro e w1 ⟨rfl, hb⟩
      have hbA := Aside0.mk hb
      obtain ⟨hcA, hfA⟩ := hb.old
      have hz := hb.le
      (try simp at hz)
      (try have hz0 : w.heap.size < w1.heap.size := by omega)
      (try have hzb : w.heap.size + 1 < w1.heap.size := by omega)
      (try have hzc : w.heap.size + 2 < w1.heap.size := by omega)
      clear hb
      go_wp2_with (go_at_call 71; (with_reducible refine (withinL1 _ _ _ _ _ (by simp)).mono ?_); rintro e w' ⟨rfl, hb⟩; have hbA := Aside0.mk hb; obtain ⟨hcA, hfA⟩ := hb.old; have hz := hb.le; (try simp at hz); (try have hz0 : w.heap.size < w'.heap.size := by omega); (try have hzb : w.heap.size + 1 < w'.heap.size := by omega); (try have hzc : w.heap.size + 2 < w'.heap.size := by omega); have hz1 : w1.heap.size < w'.heap.size := (by omega); clear hb)
      have HW1 : Aside0 (Up w (w1.alloc (.cells #[.int .i64 m.H, .int .i64 m.T, .int .i64 m.bl, .int .i64 m.bh, .int .i64 m.ho, .int .i64 m.nl, .int .i64 m.nh, .slice A l.length c] 98))) := ⟨upA⟩
      have HW0 : Aside0 (Up (w.alloc (.cells #[.int .i64 m.H, .int .i64 m.T, .int .i64 m.bl, .int .i64 m.bh, .int .i64 m.ho, .int .i64 m.nl, .int .i64 m.nh] 25)) (w1.alloc (.cells #[.int .i64 m.H, .int .i64 m.T, .int .i64 m.bl, .int .i64 m.bh, .int .i64 m.ho, .int .i64 m.nl, .int .i64 m.nh, .slice A l.length c] 98))) := ⟨upA⟩
      go_loopw [29] (fun i wr => ∃ n : Nat, n ≤ l.length + 1 ∧ i = .int .i64 (n : Int) ∧ Aside0 (doneF m l work = fstN (fun n => decide (mostL m (l.take n) m.nl ≥ work)) (l.length + 1 - n) n) ∧ Aside0 (Up (w1.alloc (.cells #[.int .i64 m.H, .int .i64 m.T, .int .i64 m.bl, .int .i64 m.bh, .int .i64 m.ho, .int .i64 m.nl, .int .i64 m.nh, .slice A l.length c] 98)) wr)) (fun i _ => l.length + 1 - (intOf i).toNat)
      case atStart => exact ⟨0, Nat.zero_le _, rfl, ⟨rfl⟩, ⟨upA⟩⟩
      case round =>
        obtain ⟨n, hn, rfl, he, hu⟩ := hrel
        obtain ⟨hcB, hfB⟩ := hu.out.old
        obtain ⟨hcC, hfC⟩ := (HW0.out.then hu.out).old
        have hzB := hu.out.le
        simp only [World.size_alloc] at hzB
        have HUW : Aside0 (Up w wr) := ⟨HW1.out.then hu.out⟩
        by_cases hlt : n < l.length + 1
        · have hi0 : (0 : Int) ≤ (n : Int) := by omega
          have hst : fstN (fun n => decide (mostL m (l.take n) m.nl ≥ work)) (l.length + 1 - n) n = if mostL m (l.take n) m.nl ≥ work then (n : Int) else fstN (fun n => decide (mostL m (l.take n) m.nl ≥ work)) (l.length + 1 - (n + 1)) (n + 1) := by
            rw [show l.length + 1 - n = (l.length + 1 - (n + 1)) + 1 by omega, fstN]
            simp
          have HST := Aside0.mk hst
          have hv0 : wr.cell? ⟨w1.heap.size, 0, none⟩ = some (.int .i64 m.H) ∧ wr.cell? ⟨w1.heap.size, 1, none⟩ = some (.int .i64 m.T) ∧ wr.cell? ⟨w1.heap.size, 2, none⟩ = some (.int .i64 m.bl) ∧ wr.cell? ⟨w1.heap.size, 3, none⟩ = some (.int .i64 m.bh) ∧ wr.cell? ⟨w1.heap.size, 4, none⟩ = some (.int .i64 m.ho) ∧ wr.cell? ⟨w1.heap.size, 5, none⟩ = some (.int .i64 m.nl) ∧ wr.cell? ⟨w1.heap.size, 6, none⟩ = some (.int .i64 m.nh) ∧ wr.cell? ⟨w1.heap.size, 7, none⟩ = some (.slice A l.length c) ∧ wr.cell? ⟨w.heap.size, 5, none⟩ = some (.int .i64 m.nl) := by
            refine ⟨?_, ?_, ?_, ?_, ?_, ?_, ?_, ?_, (hcC _ _ (by simp)).trans (by simp [go_sem])⟩ <;> exact (hcB _ _ (by simp)).trans (by simp [go_sem])
          clear hst
          by_cases hp : mostL m (l.take n) m.nl ≥ work
          · have hF : doneF m l work = (n : Int) := by rw [he.out, HST.out, if_pos hp]
            have HF := Aside0.mk hF
            clear hF
            go_wp2_with fail
            go_region_held3 (fun W => W.cell? ⟨w1.heap.size, 0, none⟩ = some (.int .i64 m.H) ∧ W.cell? ⟨w1.heap.size, 1, none⟩ = some (.int .i64 m.T) ∧ W.cell? ⟨w1.heap.size, 2, none⟩ = some (.int .i64 m.bl) ∧ W.cell? ⟨w1.heap.size, 3, none⟩ = some (.int .i64 m.bh) ∧ W.cell? ⟨w1.heap.size, 4, none⟩ = some (.int .i64 m.ho) ∧ W.cell? ⟨w1.heap.size, 5, none⟩ = some (.int .i64 m.nl) ∧ W.cell? ⟨w1.heap.size, 6, none⟩ = some (.int .i64 m.nh) ∧ W.cell? ⟨w1.heap.size, 7, none⟩ = some (.slice A l.length c) ∧ W.cell? ⟨w.heap.size, 5, none⟩ = some (.int .i64 m.nl)) (first | go_keep | (go_split_ands; (repeat' (with_reducible apply And.intro)) <;> (first | assumption | ((refine (hcA _ _ (by (try simp); omega)).trans ?_); (first | assumption | (simp; assumption)))))) (first | (go_at_call 74; (with_reducible refine (newMiller_ m A c l n _ (knows m (l.take n)) hc (by omega)).mono ?_); rintro e w' ⟨r, rfl, hb, hr0, hmm⟩; have hbA := Aside0.mk hb; obtain ⟨hcA, hfA⟩ := hb.old; have hz := hb.le; (try simp at hz hr0); have HMM := Aside0.mk hmm; clear hb hmm) | (go_at_call 76; (with_reducible refine (most_at m A c l _ n wr _ hv (by omega) (C_up HR.out HUW.out) hc (by omega) upA (HMM.out.up upA)).mono ?_); rintro e w' ⟨rfl, hb⟩; have hbA := Aside0.mk hb; obtain ⟨hcA, hfA⟩ := hb.old; have hz := hb.le; (try simp at hz); (try have hz0 : w.heap.size < w'.heap.size := by omega); (try have hzb : w.heap.size + 1 < w'.heap.size := by omega); (try have hzc : w.heap.size + 2 < w'.heap.size := by omega); skip; clear hb))
            go_wp2_with fail
            go_ret2
            exact ⟨by simp [doneI, doneE, HE.out, HF.out], HUW.out.then hbA.out⟩
          · have hF : doneF m l work = fstN (fun n => decide (mostL m (l.take n) m.nl ≥ work)) (l.length + 1 - (n + 1)) (n + 1) := by rw [he.out, HST.out, if_neg hp]
            have HF := Aside0.mk hF
            clear hF
            go_wp2_with fail
            go_region_held3 (fun W => W.cell? ⟨w1.heap.size, 0, none⟩ = some (.int .i64 m.H) ∧ W.cell? ⟨w1.heap.size, 1, none⟩ = some (.int .i64 m.T) ∧ W.cell? ⟨w1.heap.size, 2, none⟩ = some (.int .i64 m.bl) ∧ W.cell? ⟨w1.heap.size, 3, none⟩ = some (.int .i64 m.bh) ∧ W.cell? ⟨w1.heap.size, 4, none⟩ = some (.int .i64 m.ho) ∧ W.cell? ⟨w1.heap.size, 5, none⟩ = some (.int .i64 m.nl) ∧ W.cell? ⟨w1.heap.size, 6, none⟩ = some (.int .i64 m.nh) ∧ W.cell? ⟨w1.heap.size, 7, none⟩ = some (.slice A l.length c) ∧ W.cell? ⟨w.heap.size, 5, none⟩ = some (.int .i64 m.nl)) (first | go_keep | (go_split_ands; (repeat' (with_reducible apply And.intro)) <;> (first | assumption | ((refine (hcA _ _ (by (try simp); omega)).trans ?_); (first | assumption | (simp; assumption)))))) (first | (go_at_call 74; (with_reducible refine (newMiller_ m A c l n _ (knows m (l.take n)) hc (by omega)).mono ?_); rintro e w' ⟨r, rfl, hb, hr0, hmm⟩; have hbA := Aside0.mk hb; obtain ⟨hcA, hfA⟩ := hb.old; have hz := hb.le; (try simp at hz hr0); have HMM := Aside0.mk hmm; clear hb hmm) | (go_at_call 76; (with_reducible refine (most_at m A c l _ n wr _ hv (by omega) (C_up HR.out HUW.out) hc (by omega) upA (HMM.out.up upA)).mono ?_); rintro e w' ⟨rfl, hb⟩; have hbA := Aside0.mk hb; obtain ⟨hcA, hfA⟩ := hb.old; have hz := hb.le; (try simp at hz); (try have hz0 : w.heap.size < w'.heap.size := by omega); (try have hzb : w.heap.size + 1 < w'.heap.size := by omega); (try have hzc : w.heap.size + 2 < w'.heap.size := by omega); skip; clear hb))
            go_wp2_with fail
            go_roundw
            case rel => exact ⟨n + 1, by omega, by go_num, ⟨HF.out⟩, ⟨hu.out.then hbA.out⟩⟩
            case measure => simp [intOf]; omega
        · have hF : doneF m l work = -1 := by rw [he.out, show l.length + 1 - n = 0 by omega, fstN]
          have HF := Aside0.mk hF
          clear hF
          go_wp2_with fail
          go_ret2
          exact ⟨by simp [doneI, doneE, HE.out, HF.out], HUW.out⟩
    · have hE : doneG m l work = 3 := by simp only [doneG, if_pos H0.out, if_neg hok]
      have HE := Aside0.mk hE
      clear hE
      go_enter Try.func32, Try.ntmps32
      go_wp2_with fail
      (with_reducible refine (open_ m A c l _ (C_up HR.out upA) hc).mono ?_)
      rintro e w1 ⟨rfl, hb⟩
      have hbA := Aside0.mk hb
      obtain ⟨hcA, hfA⟩ := hb.old
      have hz := hb.le
      (try simp at hz)
      (try have hz0 : w.heap.size < w1.heap.size := by omega)
      (try have hzb : w.heap.size + 1 < w1.heap.size := by omega)
      (try have hzc : w.heap.size + 2 < w1.heap.size := by omega)
      clear hb
      go_wp2_with (go_at_call 71; (with_reducible refine (withinL1 _ _ _ _ _ (by simp)).mono ?_); rintro e w' ⟨rfl, hb⟩; have hbA := Aside0.mk hb; obtain ⟨hcA, hfA⟩ := hb.old; have hz := hb.le; (try simp at hz); (try have hz0 : w.heap.size < w'.heap.size := by omega); (try have hzb : w.heap.size + 1 < w'.heap.size := by omega); (try have hzc : w.heap.size + 2 < w'.heap.size := by omega); have hz1 : w1.heap.size < w'.heap.size := (by omega); clear hb)
      all_goals
        first
        | (exfalso; simp_all; done)
        | (go_ret2
           exact ⟨by simp [doneI, doneE, HE.out], upA⟩)
  · have H0 := Aside0.mk h0
    have h00 : (checkE m l != 0) = true := by simp [h0]
    have hE : doneG m l work = checkE m l := by simp only [doneG, if_neg H0.out]
    have HE := Aside0.mk hE
    clear h0 hE
    go_enter Try.func32, Try.ntmps32
    go_wp2_with fail
    (with_reducible refine (open_ m A c l _ (C_up HR.out upA) hc).mono ?_)
    rintro e w1 ⟨rfl, hb⟩
    have hbA := Aside0.mk hb
    obtain ⟨hcA, hfA⟩ := hb.old
    have hz := hb.le
    (try simp at hz)
    (try have hz0 : w.heap.size < w1.heap.size := by omega)
    (try have hzb : w.heap.size + 1 < w1.heap.size := by omega)
    (try have hzc : w.heap.size + 2 < w1.heap.size := by omega)
    clear hb
    go_wp2_with fail
    go_ret2
    exact ⟨by simp [doneI, doneE, HE.out, H0.out], upA⟩
end Go.Proofs.Ytcnlbbmokphjnaa
namespace Go.Proofs.Ytcnlbbmokphjnaa
open Go.RowKit Go.Shelf Go.Proofs.YtcnlbbmokphjnaaW.PrintWords
set_option linter.unusedVariables false
set_option linter.unusedSimpArgs false
def bsr (p : Nat → Bool) : Nat → Nat → Nat → Nat
  | 0, i, _ => i
  | f + 1, i, j => if i < j then (if p ((i + j) / 2) then bsr p f i ((i + j) / 2) else bsr p f ((i + j) / 2 + 1) j) else i
theorem bsr_le (p : Nat → Bool) : ∀ (f i j : Nat), i ≤ j → i ≤ bsr p f i j ∧ bsr p f i j ≤ j
  | 0, i, j, h => ⟨Nat.le_refl _, h⟩
  | f + 1, i, j, h => by
    unfold bsr
    split
    · split
      · have := bsr_le p f i ((i + j) / 2) (by omega)
        omega
      · have := bsr_le p f ((i + j) / 2 + 1) j (by omega)
        omega
    · omega
theorem bsr_spec (p : Nat → Bool) (n : Nat) : ∀ (f i j : Nat), j - i ≤ f → i ≤ j → (i = 0 ∨ p (i - 1) = false) → (j = n ∨ p j = true) → (bsr p f i j = 0 ∨ p (bsr p f i j - 1) = false) ∧ (bsr p f i j = n ∨ p (bsr p f i j) = true)
  | 0, i, j, h, h1, h2, h3 => by
    obtain rfl : i = j := by omega
    exact ⟨h2, h3⟩
  | f + 1, i, j, h, h1, h2, h3 => by
    unfold bsr
    split
    · split
      · exact bsr_spec p n f i ((i + j) / 2) (by omega) (by omega) h2 (.inr (by assumption))
      · rename_i hp
        exact bsr_spec p n f ((i + j) / 2 + 1) j (by omega) (by omega) (.inr (by simpa using hp)) h3
    · obtain rfl : i = j := by omega
      exact ⟨h2, h3⟩
def srch (p : Nat → Bool) (n : Nat) : Nat := bsr p n 0 n
set_option maxRecDepth 100000 in
theorem search_ (fv : FuncId) (cap : Array Value) (p : Nat → Bool) (n : Nat) (hn : n ≤ 100000) (w : World)
    (hE : ∀ (args : Array Value) (w : World), (callFunc fv args).run Try.prog w = .ok (.enter fv args) w)
    (hf : ∀ (x : Nat) W, x < n → Up w W → Calls Try.prog fv (#[.int .i64 (x : Int)] ++ cap) W fun e W' => e = .returned (.bool (p x)) ∧ Up W W') :
    Calls Try.prog 79 #[.int .i64 (n : Int), .func (.func fv) #[] cap] w fun e w' => e = .returned (.int .i64 (srch p n : Nat)) ∧ Up w w' := by
  have HF := Aside0.mk hf
  clear hf
  go_enter Try.func79, Try.ntmps79
  go_wp2
  go_loopw [5, 6] (fun v5 v6 wr => ∃ i j f : Nat, i ≤ j ∧ j ≤ n ∧ v5 = .int .i64 (i : Int) ∧ v6 = .int .i64 (j : Int) ∧ j - i ≤ f ∧ Aside0 (bsr p f i j = srch p n) ∧ Aside0 (Up w wr)) (fun a b _ => (intOf b - intOf a).toNat)
  case atStart => exact ⟨0, n, n, by omega, by omega, rfl, rfl, by omega, ⟨rfl⟩, ⟨Up.refl _⟩⟩
  case round =>
    obtain ⟨i, j, f, hij, hjn, rfl, rfl, hf, he, hu⟩ := hrel
    by_cases hlt : i < j
    · obtain ⟨f, rfl⟩ : ∃ g, f = g + 1 := ⟨f - 1, by omega⟩
      have he2 := he.out
      rw [bsr, if_pos hlt] at he2
      have HE2 := Aside0.mk he2
      have hw1 : IntKind.i64.wrap ((i : Int) + (j : Int)) = ((i + j : Nat) : Int) := by rw [IntWalk.i64_in _ (by omega)]; omega
      have hm : (i + j) / 2 < n := by omega
      clear he he2
      have hcall := HF.out ((i + j) / 2) wr hm hu.out
      rw [show (((i + j) / 2 : Nat) : Int) = ((i : Int) + (j : Int)) / 2 by omega] at hcall
      clear hm
      cases hp : p ((i + j) / 2)
      all_goals
        rw [hp] at hcall
        have he3 := HE2.out
        rw [hp] at he3
        have HE3 := Aside0.mk he3
        clear hp he3 HE2
        go_wp2_with fail
        refine hcall.mono ?_
        clear hcall
        rintro e w' ⟨rfl, hb'⟩
        have hb2 := Aside0.mk (hu.out.then hb')
        clear hb' hu
        go_wp2
        go_roundw
      case rel => exact ⟨(i + j) / 2 + 1, j, f, by omega, by omega, by go_num, rfl, by omega, ⟨by simpa using HE3.out⟩, hb2⟩
      case measure => simp [intOf]; omega
      case rel => exact ⟨i, (i + j) / 2, f, by omega, by omega, rfl, by go_num, by omega, ⟨by simpa using HE3.out⟩, hb2⟩
      case measure => simp [intOf]; omega
    · obtain rfl : i = j := by omega
      have hre : bsr p f i i = i := by cases f <;> simp [bsr]
      have HRE := Aside0.mk (he.out.symm.trans hre)
      clear hre he
      go_wp2_with fail
      go_ret
      exact ⟨ret_int (by rw [HRE.out]), hu.out⟩
def cellsS : List Sp → List Value
  | [] => []
  | s :: l => .int .i64 s.lo :: .int .i64 s.hi :: cellsS l
theorem cellsS_length : ∀ l : List Sp, (cellsS l).length = l.length * 2
  | [] => rfl
  | s :: l => by simp [cellsS, cellsS_length l]; omega
theorem cellsS_lo : ∀ (l : List Sp) (i : Nat), i < l.length → (cellsS l)[2 * i]? = some (.int .i64 (rdS l i).lo)
  | s :: l, 0, _ => by simp [cellsS, rdS]
  | s :: l, i + 1, h => by
    have := cellsS_lo l i (by simpa using h)
    rw [show 2 * (i + 1) = 2 * i + 1 + 1 by omega]
    simp only [cellsS, List.getElem?_cons_succ, this]
    simp [rdS]
theorem cellsS_hi : ∀ (l : List Sp) (i : Nat), i < l.length → (cellsS l)[2 * i + 1]? = some (.int .i64 (rdS l i).hi)
  | s :: l, 0, _ => by simp [cellsS, rdS]
  | s :: l, i + 1, h => by
    have := cellsS_hi l i (by simpa using h)
    rw [show 2 * (i + 1) + 1 = 2 * i + 1 + 1 + 1 by omega]
    simp only [cellsS, List.getElem?_cons_succ, this]
    simp [rdS]
def Sps (w : World) (g T : Nat) (xs : List Sp) : Prop := ∃ cur, w.heap[g]? = some (.cells cur T (0, 0)) ∧ ∀ i, i < xs.length → cur[2 * i]? = some (.int .i64 (rdS xs i).lo) ∧ cur[2 * i + 1]? = some (.int .i64 (rdS xs i).hi)
theorem Sps.cell {w g T xs} (h : Sps w g T xs) (i : Nat) (hi : i < xs.length) : w.cell? ⟨g, 2 * i, none⟩ = some (.int .i64 (rdS xs i).lo) ∧ w.cell? ⟨g, 2 * i + 1, none⟩ = some (.int .i64 (rdS xs i).hi) := by
  obtain ⟨cur, h1, h2⟩ := h
  simp [World.cell?, h1, h2 i hi]
theorem Sps.frozen {w g T xs} (h : Sps w g T xs) (o : Nat) : w.frozen? ⟨g, o, none⟩ = false := by
  obtain ⟨cur, h1, h2⟩ := h
  simp [World.frozen?, h1]
theorem Sps.lt {w g T xs} (h : Sps w g T xs) : g < w.heap.size := by
  obtain ⟨cur, h1, _⟩ := h
  exact (Array.getElem?_eq_some_iff.1 h1).1
theorem Sps.up {w w' g T xs} (h : Sps w g T xs) (hu : Up w w') : Sps w' g T xs := by
  have hl := h.lt
  obtain ⟨cur, h1, h2⟩ := h
  exact ⟨cur, (hu.block g hl).trans h1, h2⟩
theorem Sps.far {w g T xs} (h : Sps w g T xs) {B : Nat} (hne : g ≠ B) (o : Nat) (u : Value) : Sps (w.setCell ⟨B, o, none⟩ u) g T xs := by
  obtain ⟨cur, h1, h2⟩ := h
  exact ⟨cur, (Below.heap_setCell w ⟨B, o, none⟩ u g hne).trans h1, h2⟩
theorem Sps.set {w g T xs} (h : Sps w g T xs) (i : Nat) (hi : i < xs.length) (a b : Int) : Sps ((w.setCell ⟨g, 2 * i, none⟩ (.int .i64 a)).setCell ⟨g, 2 * i + 1, none⟩ (.int .i64 b)) g T (xs.set i ⟨a, b⟩) := by
  obtain ⟨cur, h1, h2⟩ := h
  have hb1 := (Array.getElem?_eq_some_iff.1 (h2 i hi).1).1
  have hb2 := (Array.getElem?_eq_some_iff.1 (h2 i hi).2).1
  refine ⟨(cur.setIfInBounds (2 * i) (.int .i64 a)).setIfInBounds (2 * i + 1) (.int .i64 b), ?_, fun j hj => ?_⟩
  · unfold World.setCell
    dsimp only
    rw [Array.getElem?_modify, if_pos rfl, Array.getElem?_modify, if_pos rfl, h1]
    rfl
  · rw [List.length_set] at hj
    by_cases e : i = j
    · subst e
      simp [rdS, hi, hb1, hb2, Array.getElem?_setIfInBounds]
    · have h3 := h2 j hj
      have e1 : ¬ 2 * i + 1 = 2 * j := by omega
      have e2 : ¬ 2 * i = 2 * j := by omega
      have e3 : ¬ 2 * i + 1 = 2 * j + 1 := by omega
      have e4 : ¬ 2 * i = 2 * j + 1 := by omega
      have e5 : rdS (xs.set i ⟨a, b⟩) j = rdS xs j := by simp [rdS, e]
      rw [e5]
      simp only [Array.getElem?_setIfInBounds, if_neg e1, if_neg e2, if_neg e3, if_neg e4]
      exact h3
theorem C_ofSps {w g T} {xs : List Sp} (h : Sps w g T xs) (hm : xs.length ≤ 9223372036854775807) (n : Nat) (hn : n = xs.length) : Kd.C kSp w (some ⟨g, 0, none⟩) n xs := by
  subst hn
  refine ⟨rfl, hm, fun hp => ⟨⟨g, 0, none⟩, rfl, fun j x hj => ?_⟩⟩
  have hj2 := (List.getElem?_eq_some_iff.1 hj).1
  have hc := h.cell j hj2
  have hx : rdS xs j = x := by simp [rdS, List.getD_eq_getElem?_getD, hj]
  rw [hx] at hc
  refine ⟨[.int .i64 x.lo, .int .i64 x.hi], rfl, kSp_mk w x, fun i u hu => ?_⟩
  rw [add_plain]
  match i, hu with
  | 0, hu =>
    simp at hu
    subst hu
    rw [← hc.1, show (j * kSp.sz + 0) = 2 * j by show j * 2 + 0 = 2 * j; omega]
  | 1, hu =>
    simp at hu
    subst hu
    rw [← hc.2, show (j * kSp.sz + 1) = 2 * j + 1 by show j * 2 + 1 = 2 * j + 1; omega]
  | i + 2, hu => simp at hu
theorem rdS_nat (xs : List Sp) (k : Nat) (h : k < xs.length) : rdS xs (k : Int) = xs[k] := by simp [rdS, h]
theorem cells_ofC {w : World} {A : Option Addr} {xs : List Sp} (h : Kd.C kSp w A xs.length xs) (h0 : 0 < xs.length) : ∃ ad, A = some ad ∧ ∀ j u, (cellsS xs)[j]? = some u → w.cell? (ad.add j) = some u := by
  obtain ⟨ad, rfl, hc⟩ := h.2.2 h0
  refine ⟨ad, rfl, fun j u hu => ?_⟩
  have hj := (List.getElem?_eq_some_iff.1 hu).1
  rw [cellsS_length] at hj
  obtain ⟨cs, _, hk, hcs⟩ := hc (j / 2) (rdS xs (j / 2 : Nat)) (by rw [rdS_nat xs (j / 2) (by omega), List.getElem?_eq_getElem])
  obtain rfl := kSp_open hk
  have hsz : kSp.sz = 2 := rfl
  rw [hsz] at hcs
  rcases Nat.mod_two_eq_zero_or_one j with e | e
  · have h1 := cellsS_lo xs (j / 2) (by omega)
    rw [show 2 * (j / 2) = j by omega, hu] at h1
    cases h1
    have := hcs 0 _ rfl
    rwa [show j / 2 * 2 + 0 = j by omega] at this
  · have h1 := cellsS_hi xs (j / 2) (by omega)
    rw [show 2 * (j / 2) + 1 = j by omega, hu] at h1
    cases h1
    have := hcs 1 _ rfl
    rwa [show j / 2 * 2 + 1 = j by omega] at this
theorem Sps.ofOwn {w : World} {base T : Nat} {v : Value} {xs : List Sp} (h : w.ownsRow base T 2 v xs.length (cellsS xs)) (h0 : 0 < xs.length) : ∃ g cap, v = .slice (some ⟨g, 0, none⟩) xs.length cap ∧ base ≤ g ∧ xs.length ≤ cap ∧ Sps w g T xs := by
  rcases h.2 with ⟨_, hn⟩ | ⟨g, cap, cur, rfl, hb, hg, hcap, _, hsz, htk⟩
  · omega
  · have hget : ∀ k, k < xs.length * 2 → cur[k]? = (cellsS xs)[k]? := by
      intro k hk
      rw [← htk, List.getElem?_take, if_pos hk, Array.getElem?_toList]
    refine ⟨g, cap, rfl, hb, hcap, cur, hg, fun i hi => ⟨?_, ?_⟩⟩
    · rw [hget _ (by omega), cellsS_lo xs i hi]
    · rw [hget _ (by omega), cellsS_hi xs i hi]
theorem info_span : (Try.prog.info? 23).map (fun i => (i.zero, i.size, i.bytes)) = some (some (.agg #[.int .i64 0, .int .i64 0]), 2, 16) := by kernel_rfl
set_option maxRecDepth 100000 in
set_option maxHeartbeats 1000000 in
theorem clone_ (A : Option Addr) (c : Nat) (l : List Sp) (w : World) (hr : Kd.C kSp w A l.length l) (h0 : 0 < l.length) (hl : l.length ≤ 1000) :
    Calls Try.prog 88 #[.slice A l.length c] w fun e w' => ∃ g cap, e = .returned (.slice (some ⟨g, 0, none⟩) l.length cap) ∧ w.heap.size ≤ g ∧ l.length ≤ cap ∧ Sps w' g 23 l ∧ Up w w' := by
  obtain ⟨ad, rfl, hc⟩ := cells_ofC hr h0
  obtain ⟨i0, hi, hz0, hz1, hz2⟩ := info_parts info_span
  have q22 : ∀ (w : World) (a : Option Addr) (n c n' c' : Nat), (binOp .eql 26 (.slice a n c) (.slice none n' c')).run Try.prog w = .ok (.bool a.isNone) w := fun w a n c n' c' => Lib.run_eql_slice_nil w _ _ a n c n' c' Try.underlying26
  have HC := Aside0.mk hc
  clear hc hr
  go_enter Try.func88, Try.ntmps88
  go_wp2_with (at_builtin; refine wpList_append_lies _ rfl _ _ 26 rfl w.heap.size 23 i0 _ 2 16 Try.underlying26 hi hz0 hz1 hz2 rfl (by decide) _ 0 [] rfl (World.ownsRow_made w #[] 0 (Nat.le_refl _) (Nat.zero_le _) rfl) ad l.length c (cellsS l) rfl (cellsS_length l) ?qc2 ?qc3 h0 ?qc4 ?qc5 ?qc6 _ rfl ?_)
  case qc2 =>
    intro j u hj
    exact (Up.alloc (Up.refl w) _).cell (HC.out j u hj)
  case qc3 =>
    intro u hu
    obtain ⟨j, hj⟩ := List.getElem?_of_mem hu
    have hj2 := (List.getElem?_eq_some_iff.1 hj).1
    rw [cellsS_length] at hj2
    rcases Nat.mod_two_eq_zero_or_one j with e | e
    · have h1 := cellsS_lo l (j / 2) (by omega)
      rw [show 2 * (j / 2) = j by omega, hj] at h1
      cases h1
      rfl
    · have h1 := cellsS_hi l (j / 2) (by omega)
      rw [show 2 * (j / 2) + 1 = j by omega, hj] at h1
      cases h1
      rfl
  case qc4 => unfold maxLen; omega
  case qc5 => omega
  case qc6 => simp
  intro g cap w1 hown hgrow hat hlt
  obtain ⟨g', cap', hv, hb, hcap, hS⟩ := Sps.ofOwn hown h0
  simp only [Value.slice.injEq, Option.some.injEq, Addr.mk.injEq, and_true, true_and] at hv
  obtain ⟨rfl, rfl⟩ := hv
  have HS := Aside0.mk hS
  have HU : Aside0 (Up w w1) := ⟨((Below.refl _ w).alloc (Nat.le_refl _) _).grown hgrow (by simp) (by intro k hk; simp [Value.ownBlock] at hk; omega)⟩
  clear hown hgrow hat hlt hS
  go_wp2
  go_ret
  exact ⟨g, cap, by simp, hb, hcap, HS.out, HU.out⟩
end Go.Proofs.Ytcnlbbmokphjnaa
namespace Go.Proofs.Ytcnlbbmokphjnaa
open Go.RowKit Go.Shelf Go.Proofs.YtcnlbbmokphjnaaW.PrintWords
set_option linter.unusedVariables false
set_option linter.unusedSimpArgs false
attribute [local go_sem] bi_max2 bi_min2 bi_max_two bi_min_two
abbrev valA (m : Mill) (v : Value) : Array Value := #[.int .i64 m.H, .int .i64 m.T, .int .i64 m.bl, .int .i64 m.bh, .int .i64 m.ho, .int .i64 m.nl, .int .i64 m.nh, v]
def heldSp (b : Int) (s : Sp) : Sp := ⟨max 0 (s.lo - b), max 0 (s.hi - b)⟩
def heldL (l : List Sp) (b : Int) : List Sp := l.map (heldSp b)
def mixL (l : List Sp) (b : Int) (k : Nat) : List Sp := (l.take k).map (heldSp b) ++ l.drop k
theorem mixL_zero (l : List Sp) (b : Int) : mixL l b 0 = l := by simp [mixL]
theorem mixL_all (l : List Sp) (b : Int) : mixL l b l.length = heldL l b := by simp [mixL, heldL]
theorem mixL_length (l : List Sp) (b : Int) (k : Nat) : (mixL l b k).length = l.length := by simp [mixL]; omega
theorem mixL_rd (l : List Sp) (b : Int) (k : Nat) (h : k < l.length) : rdS (mixL l b k) k = rdS l k := by
  simp [rdS, mixL, List.getD_eq_getElem?_getD, List.getElem?_append_right, h, Nat.min_eq_left (Nat.le_of_lt h)]
theorem mixL_set (l : List Sp) (b : Int) (k : Nat) (h : k < l.length) : (mixL l b k).set k (heldSp b (rdS l k)) = mixL l b (k + 1) := by
  have e : l.drop k = rdS l k :: l.drop (k + 1) := by rw [List.drop_eq_getElem_cons h, rdS_nat l k h]
  have e2 : l.take (k + 1) = l.take k ++ [rdS l k] := by rw [List.take_succ_eq_append_getElem h, rdS_nat l k h]
  rw [mixL, mixL, e, e2]
  rw [List.set_append_right _ _ (by simp; omega)]
  simp [Nat.min_eq_left (Nat.le_of_lt h)]
set_option maxRecDepth 100000 in
set_option maxHeartbeats 2000000 in
theorem held_ (m : Mill) (A : Option Addr) (c : Nat) (l : List Sp) (b : Int) (w : World) (hr : Kd.C kSp w A l.length l) (h0 : 0 < l.length) (hl : l.length ≤ 1000) (hb : 0 ≤ b ∧ b ≤ 10000) (hfl : ∀ s ∈ l, 0 ≤ s.lo ∧ s.lo ≤ 10000 ∧ 0 ≤ s.hi ∧ s.hi ≤ 10000) :
    Calls Try.prog 81 #[.agg #[.int .i64 m.H, .int .i64 m.T, .int .i64 m.bl, .int .i64 m.bh, .int .i64 m.ho, .int .i64 m.nl, .int .i64 m.nh, .slice A l.length c], .int .i64 b] w fun e w' => ∃ g cap, e = .returned (.agg #[.int .i64 m.H, .int .i64 m.T, .int .i64 m.bl, .int .i64 m.bh, .int .i64 m.ho, .int .i64 m.nl, .int .i64 m.nh, .slice (some ⟨g, 0, none⟩) l.length cap]) ∧ w.heap.size ≤ g ∧ l.length ≤ cap ∧ Sps w' g 23 (heldL l b) ∧ Up w w' := by
  have HR := Aside0.mk hr
  have HFL := Aside0.mk hfl
  have hml := CF_len hr
  clear hr hfl
  go_enter Try.func81, Try.ntmps81
  go_wp2_with (go_at_call 88; (with_reducible refine (clone_ A c l _ (C_up HR.out upA) h0 hl).mono ?_); rintro e w1 ⟨g, cap, rfl, hg, hcap, hS, hU⟩; have HS := Aside0.mk hS; have HU := Aside0.mk hU; have hz := hU.le; (try simp at hz hg); have hz0 : w.heap.size < w1.heap.size := (by omega); have hz1 : w.heap.size + 1 < w1.heap.size := (by omega); have hB0 : Bx w1 w.heap.size (valA m (.slice A l.length c)) 98 := (Bx.new w _ _).up upA; have hB1 : Bx w1 (w.heap.size + 1) (valA ⟨0, 0, 0, 0, 0, 0, 0⟩ (.slice none 0 0)) 98 := (by have h := (Bx.new (w.alloc (.cells (valA m (.slice A l.length c)) 98)) (valA ⟨0, 0, 0, 0, 0, 0, 0⟩ (.slice none 0 0)) 98).up hU; simpa using h); have HB0 := Aside0.mk hB0; have HB1 := Aside0.mk hB1; have hbc := hB0.cell; have hbf := hB0.frozen; (simp only [valA] at hbc); have HUW : Aside0 (Up w w1) := ⟨upA⟩; clear hS hU hB0 hB1)
  have hS1 : Sps (w1.setCell ⟨w.heap.size, 7, none⟩ (.slice (some ⟨g, 0, none⟩) l.length cap)) g 23 (mixL l b 0) := by
    rw [mixL_zero]
    exact HS.out.far (by omega) _ _
  have hB2 : Bx (w1.setCell ⟨w.heap.size, 7, none⟩ (.slice (some ⟨g, 0, none⟩) l.length cap)) w.heap.size (valA m (.slice (some ⟨g, 0, none⟩) l.length cap)) 98 := HB0.out.setI 7 _
  have hB3 : Bx (w1.setCell ⟨w.heap.size, 7, none⟩ (.slice (some ⟨g, 0, none⟩) l.length cap)) (w.heap.size + 1) (valA ⟨0, 0, 0, 0, 0, 0, 0⟩ (.slice none 0 0)) 98 := HB1.out.far (by omega) _ _
  have hU1 : Up w (w1.setCell ⟨w.heap.size, 7, none⟩ (.slice (some ⟨g, 0, none⟩) l.length cap)) := HUW.out.set _ _ (Nat.le_refl _)
  have HJ := Aside0.mk (And.intro hS1 (And.intro hB2 (And.intro hB3 hU1)))
  clear hS1 hB2 hB3 hU1 HS HB0 HB1 HUW hbc hbf HU
  go_loopw [14] (fun i wr => ∃ k : Nat, k ≤ l.length ∧ i = .int .i64 (k : Int) ∧ Aside0 (Sps wr g 23 (mixL l b k) ∧ Bx wr w.heap.size (valA m (.slice (some ⟨g, 0, none⟩) l.length cap)) 98 ∧ Bx wr (w.heap.size + 1) (valA ⟨0, 0, 0, 0, 0, 0, 0⟩ (.slice none 0 0)) 98 ∧ Up w wr)) (fun i _ => l.length - (intOf i).toNat)
  case atStart => exact ⟨0, Nat.zero_le _, rfl, HJ⟩
  case round =>
    obtain ⟨k, hk, rfl, hJ⟩ := hrel
    have hbc := hJ.out.2.1.cell
    have hbf := hJ.out.2.1.frozen
    simp only [valA] at hbc
    clear HJ
    by_cases hlt : k < l.length
    · have hi0 : (0 : Int) ≤ (k : Int) := by omega
      have hi1 : (k : Int) < (l.length : Int) := by omega
      have hx := hJ.out.1.cell k (by rw [mixL_length]; exact hlt)
      rw [mixL_rd l b k hlt, Nat.mul_comm 2 k] at hx
      obtain ⟨hx0, hx1⟩ := hx
      have hf := hJ.out.1.frozen
      have hfl := HFL.out (rdS l k) (by rw [rdS_nat l k hlt]; exact List.getElem_mem _)
      obtain ⟨hf1, hf2, hf3, hf4⟩ := hfl
      have hb1 := hb.1
      have hb2 := hb.2
      go_wp2_with fail
      have hSn := Sps.up ((hJ.out.1.set k (by rw [mixL_length]; exact hlt) (max 0 ((rdS l k).lo - b)) (max 0 ((rdS l k).hi - b)))) ((Up.refl _).drew)
      have hms := mixL_set l b k hlt
      simp only [heldSp] at hms
      rw [hms, Nat.mul_comm 2 k] at hSn
      have HSN := Aside0.mk hSn
      have HJB : Aside0 (Bx wr w.heap.size (valA m (.slice (some ⟨g, 0, none⟩) l.length cap)) 98 ∧ Bx wr (w.heap.size + 1) (valA ⟨0, 0, 0, 0, 0, 0, 0⟩ (.slice none 0 0)) 98 ∧ Up w wr) := ⟨hJ.out.2⟩
      clear hSn hms hJ
      go_region
      go_wp2_with fail
      go_roundw
      case rel => exact ⟨k + 1, by omega, by go_num, ⟨HSN.out, ((HJB.out.1.far (by omega) _ _).far (by omega) _ _).up ((Up.refl _).drew), ((HJB.out.2.1.far (by omega) _ _).far (by omega) _ _).up ((Up.refl _).drew), ((HJB.out.2.2.set _ _ (by show _ ≤ g; omega)).set _ _ (by show _ ≤ g; omega)).drew⟩⟩
      case measure => simp [intOf]; omega
    · obtain rfl : k = l.length := by omega
      have hbd := hJ.out.2.2.1.cell
      have hbg := hJ.out.2.2.1.frozen
      simp only [valA] at hbd
      have HB3 := Aside0.mk hJ.out.2.2.1
      have HSJ := Aside0.mk hJ.out.1
      have HUJ := Aside0.mk hJ.out.2.2.2
      clear hJ
      go_wp2_with fail
      have hbe := ((((((((HB3.out.setI 0 (.int .i64 m.H)).setI 1 (.int .i64 m.T)).setI 2 (.int .i64 m.bl)).setI 3 (.int .i64 m.bh)).setI 4 (.int .i64 m.ho)).setI 5 (.int .i64 m.nl)).setI 6 (.int .i64 m.nh)).setI 7 (.slice (some ⟨g, 0, none⟩) l.length cap)).cell
      refine bodyPost_ret (v := .agg #[.int .i64 m.H, .int .i64 m.T, .int .i64 m.bl, .int .i64 m.bh, .int .i64 m.ho, .int .i64 m.nl, .int .i64 m.nh, .slice (some ⟨g, 0, none⟩) l.length cap]) ?_ rfl ⟨g, cap, rfl, by omega, hcap, ?_, ?_⟩
      · simp [results, Try.results81, go_sem, hbe]
      · rw [← mixL_all]
        repeat' (first | (with_reducible exact HSJ.out) | refine Sps.far ?_ (by omega) _ _)
      · exact upA
def wetL (l : List Sp) (h : Nat) (n : Int) : List Sp := l.set h ⟨(rdS l h).lo + n, (rdS l h).hi + n⟩
set_option maxRecDepth 100000 in
set_option maxHeartbeats 2000000 in
theorem wetter_ (m : Mill) (A : Option Addr) (c : Nat) (l : List Sp) (h : Nat) (n : Int) (w : World) (hr : Kd.C kSp w A l.length l) (hl : l.length ≤ 1000) (hh : h < l.length) (hb : 0 ≤ n ∧ n ≤ 10000) (hfl : ∀ s ∈ l, 0 ≤ s.lo ∧ s.lo ≤ 10000 ∧ 0 ≤ s.hi ∧ s.hi ≤ 10000) :
    Calls Try.prog 83 #[.agg #[.int .i64 m.H, .int .i64 m.T, .int .i64 m.bl, .int .i64 m.bh, .int .i64 m.ho, .int .i64 m.nl, .int .i64 m.nh, .slice A l.length c], .int .i64 (h : Int), .int .i64 n] w fun e w' => ∃ g cap, e = .returned (.agg #[.int .i64 m.H, .int .i64 m.T, .int .i64 m.bl, .int .i64 m.bh, .int .i64 m.ho, .int .i64 m.nl, .int .i64 m.nh, .slice (some ⟨g, 0, none⟩) l.length cap]) ∧ w.heap.size ≤ g ∧ l.length ≤ cap ∧ Sps w' g 23 (wetL l h n) ∧ Up w w' := by
  have HR := Aside0.mk hr
  have hml := CF_len hr
  have h0 : 0 < l.length := by omega
  have hi0 : (0 : Int) ≤ (h : Int) := by omega
  have hi1 : (h : Int) < (l.length : Int) := by omega
  obtain ⟨hf1, hf2, hf3, hf4⟩ := hfl (rdS l h) (by rw [rdS_nat l h hh]; exact List.getElem_mem _)
  clear hr hfl
  obtain ⟨hb1, hb2⟩ := hb
  go_enter Try.func83, Try.ntmps83
  go_wp2_with (go_at_call 88; (with_reducible refine (clone_ A c l _ (C_up HR.out upA) h0 hl).mono ?_); rintro e w1 ⟨g, cap, rfl, hg, hcap, hS, hU⟩; have HS := Aside0.mk hS; have HU := Aside0.mk hU; have hz := hU.le; (try simp at hz hg); have hz0 : w.heap.size < w1.heap.size := (by omega); have hz1 : w.heap.size + 1 < w1.heap.size := (by omega); have hB0 : Bx w1 w.heap.size (valA m (.slice A l.length c)) 98 := (Bx.new w _ _).up upA; have hB1 : Bx w1 (w.heap.size + 1) (valA ⟨0, 0, 0, 0, 0, 0, 0⟩ (.slice none 0 0)) 98 := (by have h := (Bx.new (w.alloc (.cells (valA m (.slice A l.length c)) 98)) (valA ⟨0, 0, 0, 0, 0, 0, 0⟩ (.slice none 0 0)) 98).up hU; simpa using h); have HB0 := Aside0.mk hB0; have HB1 := Aside0.mk hB1; have hx := hS.cell h hh; (rw [Nat.mul_comm 2 h] at hx); have hx0 := hx.1; have hx1 := hx.2; have hfg := hS.frozen; have hbc := hB0.cell; have hbf := hB0.frozen; have hbd := hB1.cell; have hbg := hB1.frozen; (simp only [valA] at hbc hbd); have HUW : Aside0 (Up w w1) := ⟨upA⟩; clear hS hU hB0 hB1 hx)
  have hSn := (HS.out.far (B := w.heap.size) (by omega) 7 (.slice (some ⟨g, 0, none⟩) l.length cap)).set h hh ((rdS l h).lo + n) ((rdS l h).hi + n)
  rw [Nat.mul_comm 2 h] at hSn
  have hbe := (((((((((((HB1.out.far (B' := w.heap.size) (by omega) 7 (.slice (some ⟨g, 0, none⟩) l.length cap)).far (B' := g) (by omega) (h * 2) (.int .i64 ((rdS l h).lo + n))).far (B' := g) (by omega) (h * 2 + 1) (.int .i64 ((rdS l h).hi + n))).setI 0 (.int .i64 m.H)).setI 1 (.int .i64 m.T)).setI 2 (.int .i64 m.bl)).setI 3 (.int .i64 m.bh)).setI 4 (.int .i64 m.ho)).setI 5 (.int .i64 m.nl)).setI 6 (.int .i64 m.nh)).setI 7 (.slice (some ⟨g, 0, none⟩) l.length cap)).cell
  refine bodyPost_ret (v := .agg #[.int .i64 m.H, .int .i64 m.T, .int .i64 m.bl, .int .i64 m.bh, .int .i64 m.ho, .int .i64 m.nl, .int .i64 m.nh, .slice (some ⟨g, 0, none⟩) l.length cap]) ?_ rfl ⟨g, cap, rfl, by omega, hcap, ?_, ?_⟩
  · simp [results, Try.results83, go_sem, hbe]
  · rw [wetL]
    repeat' (first | (with_reducible exact hSn) | refine Sps.far ?_ (by omega) _ _)
  · exact upA
end Go.Proofs.Ytcnlbbmokphjnaa
namespace Go.Proofs.Ytcnlbbmokphjnaa
open Go.RowKit Go.Shelf Go.Proofs.YtcnlbbmokphjnaaW.PrintWords
set_option linter.unusedVariables false
set_option linter.unusedSimpArgs false
theorem heldL_length (l : List Sp) (b : Int) : (heldL l b).length = l.length := by simp [heldL]
theorem wetL_length (l : List Sp) (h : Nat) (b : Int) : (wetL l h b).length = l.length := by simp [wetL]
theorem fine_held {m : Mill} {l : List Sp} {plan : List Int} {b : Int} (h : Fine m Sp.lo l plan) (hb : 0 ≤ b) : Fine m Sp.lo (heldL l b) plan := by
  refine ⟨h.ho, h.T, h.now, fun s hs => ?_, h.pl, by rw [heldL_length]; exact h.len⟩
  obtain ⟨t, ht, rfl⟩ := List.mem_map.1 hs
  have := h.flow t ht
  simp only [heldSp]
  omega
theorem fine_wet {m : Mill} {l : List Sp} {plan : List Int} {i : Nat} {b : Int} (h : Fine m Sp.lo l plan) (hf : ∀ s ∈ l, s.lo ≤ 500) (hi : i < l.length) (hb : 0 ≤ b ∧ b ≤ 1000) : Fine m Sp.lo (wetL l i b) plan := by
  refine ⟨h.ho, h.T, h.now, fun s hs => ?_, h.pl, by rw [wetL_length]; exact h.len⟩
  rcases List.mem_or_eq_of_mem_set hs with h1 | rfl
  · exact h.flow s h1
  · have h1 := h.flow (rdS l i) (by rw [rdS_nat l i hi]; exact List.getElem_mem _)
    have h2 := hf (rdS l i) (by rw [rdS_nat l i hi]; exact List.getElem_mem _)
    simp only
    omega
theorem isRight_n (m : Mill) (A : Option Addr) (c n : Nat) (l : List Sp) (A2 : Option Addr) (c2 : Nat) (plan : List Int) (hfi : Fine m Sp.lo l plan) (hn : l.length = n)
    (w : World) (hr : Kd.C kSp w A n l) (hc : n ≤ c) (hr2 : Kd.C (Kd.int .i64) w A2 plan.length plan) (hc2 : plan.length ≤ c2) :
    Calls Try.prog 65 #[.agg #[.int .i64 m.H, .int .i64 m.T, .int .i64 m.bl, .int .i64 m.bh, .int .i64 m.ho, .int .i64 m.nl, .int .i64 m.nh, .slice A n c], .slice A2 plan.length c2] w fun e w' => e = .returned (.bool (rightB m l plan)) ∧ Up w w' := by
  subst hn
  exact isRight_ m A c l A2 c2 plan hfi w hr hc hr2 hc2
set_option maxRecDepth 100000 in
set_option maxHeartbeats 2000000 in
theorem upstream1 (m : Mill) (A : Option Addr) (c : Nat) (l : List Sp) (A2 : Option Addr) (c2 : Nat) (plan : List Int) (hv : Valid m l) (hfi : Fine m Sp.lo l plan) (b1 b2 n : Nat) (hn : n ≤ 1000) (w : World)
    (hr : Kd.C kSp w A l.length l) (hc : l.length ≤ c) (hr2 : Kd.C (Kd.int .i64) w A2 plan.length plan) (hc2 : plan.length ≤ c2)
    (h1 : w.cell? ⟨b1, 0, none⟩ = some (.int .i64 m.H) ∧ w.cell? ⟨b1, 1, none⟩ = some (.int .i64 m.T) ∧ w.cell? ⟨b1, 2, none⟩ = some (.int .i64 m.bl) ∧ w.cell? ⟨b1, 3, none⟩ = some (.int .i64 m.bh) ∧ w.cell? ⟨b1, 4, none⟩ = some (.int .i64 m.ho) ∧ w.cell? ⟨b1, 5, none⟩ = some (.int .i64 m.nl) ∧ w.cell? ⟨b1, 6, none⟩ = some (.int .i64 m.nh) ∧ w.cell? ⟨b1, 7, none⟩ = some (.slice A l.length c)) (h2 : w.cell? ⟨b2, 0, none⟩ = some (.slice A2 plan.length c2)) (hb1 : b1 < w.heap.size) (hb2 : b2 < w.heap.size) :
    Calls Try.prog 80 #[.int .i64 (n : Int), .pointer (some ⟨b1, 0, none⟩), .pointer (some ⟨b2, 0, none⟩)] w fun e w' => e = .returned (.bool (!rightB m (heldL l (n + 1)) plan)) ∧ Up w w' := by
  have HR := Aside0.mk hr
  have HR2 := Aside0.mk hr2
  have hlen := hv.len
  have hw1 : IntKind.i64.wrap ((n : Int) + 1) = (n : Int) + 1 := IntWalk.i64_in _ (by omega)
  have hfl : ∀ s ∈ l, 0 ≤ s.lo ∧ s.lo ≤ 10000 ∧ 0 ≤ s.hi ∧ s.hi ≤ 10000 := fun s hs => by have := hv.flow s hs; omega
  have HFL := Aside0.mk hfl
  have HFI := Aside0.mk (fine_held (b := (n : Int) + 1) hfi (by omega))
  clear hr hr2 hfl hfi
  go_enter Try.func80, Try.ntmps80
  go_wp2_with fail
  go_region_held3 (fun W => W.cell? ⟨b1, 0, none⟩ = some (.int .i64 m.H) ∧ W.cell? ⟨b1, 1, none⟩ = some (.int .i64 m.T) ∧ W.cell? ⟨b1, 2, none⟩ = some (.int .i64 m.bl) ∧ W.cell? ⟨b1, 3, none⟩ = some (.int .i64 m.bh) ∧ W.cell? ⟨b1, 4, none⟩ = some (.int .i64 m.ho) ∧ W.cell? ⟨b1, 5, none⟩ = some (.int .i64 m.nl) ∧ W.cell? ⟨b1, 6, none⟩ = some (.int .i64 m.nh) ∧ W.cell? ⟨b1, 7, none⟩ = some (.slice A l.length c) ∧ W.cell? ⟨b2, 0, none⟩ = some (.slice A2 plan.length c2)) (first | go_keep | (go_split_ands; (repeat' (with_reducible apply And.intro)) <;> (first | assumption | ((refine (hcA _ _ (by (try simp); omega)).trans ?_); (first | assumption | (simp; assumption)))))) (first | (go_at_call 81; (with_reducible refine (held_ m A c l ((n : Int) + 1) _ (C_up HR.out upA) (by omega) (by omega) (by omega) HFL.out).mono ?_); rintro e w1 ⟨g, cap, rfl, hg, hcap, hS, hb⟩; have HS := Aside0.mk hS; have HU := Aside0.mk hb; obtain ⟨hcA, hfA⟩ := hb.old; have hz := hb.le; (try simp at hz hg); clear hS hb) | (go_at_call 65; (with_reducible refine (isRight_n m _ _ l.length (heldL l ((n : Int) + 1)) A2 c2 plan HFI.out (heldL_length _ _) _ (C_ofSps (HS.out.up upA) (by rw [heldL_length]; omega) _ (heldL_length _ _).symm) hcap (C_up HR2.out upA) hc2).mono ?_); rintro e w' ⟨rfl, hb⟩; have hbA := Aside0.mk hb; obtain ⟨hcA, hfA⟩ := hb.old; have hz := hb.le; (try simp at hz); clear hb))
  go_wp2_with fail
  go_ret
  exact ⟨rfl, upA⟩
set_option maxRecDepth 100000 in
set_option maxHeartbeats 2000000 in
theorem rain1 (m : Mill) (A : Option Addr) (c : Nat) (l : List Sp) (A2 : Option Addr) (c2 : Nat) (plan : List Int) (hv : Valid m l) (hfi : Fine m Sp.lo l plan) (b1 b2 b3 i n : Nat) (hn : n ≤ 1000) (hi : i < l.length) (w : World)
    (hr : Kd.C kSp w A l.length l) (hc : l.length ≤ c) (hr2 : Kd.C (Kd.int .i64) w A2 plan.length plan) (hc2 : plan.length ≤ c2)
    (h1 : w.cell? ⟨b1, 0, none⟩ = some (.int .i64 m.H) ∧ w.cell? ⟨b1, 1, none⟩ = some (.int .i64 m.T) ∧ w.cell? ⟨b1, 2, none⟩ = some (.int .i64 m.bl) ∧ w.cell? ⟨b1, 3, none⟩ = some (.int .i64 m.bh) ∧ w.cell? ⟨b1, 4, none⟩ = some (.int .i64 m.ho) ∧ w.cell? ⟨b1, 5, none⟩ = some (.int .i64 m.nl) ∧ w.cell? ⟨b1, 6, none⟩ = some (.int .i64 m.nh) ∧ w.cell? ⟨b1, 7, none⟩ = some (.slice A l.length c)) (h2 : w.cell? ⟨b2, 0, none⟩ = some (.slice A2 plan.length c2)) (hb1 : b1 < w.heap.size) (h3 : w.cell? ⟨b3, 0, none⟩ = some (.int .i64 (i : Int))) (hb2 : b2 < w.heap.size) (hb3 : b3 < w.heap.size) :
    Calls Try.prog 82 #[.int .i64 (n : Int), .pointer (some ⟨b1, 0, none⟩), .pointer (some ⟨b3, 0, none⟩), .pointer (some ⟨b2, 0, none⟩)] w fun e w' => e = .returned (.bool (rightB m (wetL l i n) plan)) ∧ Up w w' := by
  have HR := Aside0.mk hr
  have HR2 := Aside0.mk hr2
  have hlen := hv.len
  have hfl : ∀ s ∈ l, 0 ≤ s.lo ∧ s.lo ≤ 10000 ∧ 0 ≤ s.hi ∧ s.hi ≤ 10000 := fun s hs => by have := hv.flow s hs; omega
  have HFL := Aside0.mk hfl
  have HFI := Aside0.mk (fine_wet (i := i) (b := (n : Int)) hfi (fun s hs => by have := hv.flow s hs; omega) hi (by omega))
  clear hr hr2 hfl hfi
  go_enter Try.func82, Try.ntmps82
  go_wp2_with fail
  go_region_held3 (fun W => W.cell? ⟨b1, 0, none⟩ = some (.int .i64 m.H) ∧ W.cell? ⟨b1, 1, none⟩ = some (.int .i64 m.T) ∧ W.cell? ⟨b1, 2, none⟩ = some (.int .i64 m.bl) ∧ W.cell? ⟨b1, 3, none⟩ = some (.int .i64 m.bh) ∧ W.cell? ⟨b1, 4, none⟩ = some (.int .i64 m.ho) ∧ W.cell? ⟨b1, 5, none⟩ = some (.int .i64 m.nl) ∧ W.cell? ⟨b1, 6, none⟩ = some (.int .i64 m.nh) ∧ W.cell? ⟨b1, 7, none⟩ = some (.slice A l.length c) ∧ W.cell? ⟨b2, 0, none⟩ = some (.slice A2 plan.length c2) ∧ W.cell? ⟨b3, 0, none⟩ = some (.int .i64 (i : Int))) (first | go_keep | (go_split_ands; (repeat' (with_reducible apply And.intro)) <;> (first | assumption | ((refine (hcA _ _ (by (try simp); omega)).trans ?_); (first | assumption | (simp; assumption)))))) (first | (go_at_call 83; (with_reducible refine (wetter_ m A c l i (n : Int) _ (C_up HR.out upA) (by omega) hi (by omega) HFL.out).mono ?_); rintro e w1 ⟨g, cap, rfl, hg, hcap, hS, hb⟩; have HS := Aside0.mk hS; have HU := Aside0.mk hb; obtain ⟨hcA, hfA⟩ := hb.old; have hz := hb.le; (try simp at hz hg); clear hS hb) | (go_at_call 65; (with_reducible refine (isRight_n m _ _ l.length (wetL l i (n : Int)) A2 c2 plan HFI.out (wetL_length _ _ _) _ (C_ofSps (HS.out.up upA) (by rw [wetL_length]; omega) _ (wetL_length _ _ _).symm) hcap (C_up HR2.out upA) hc2).mono ?_); rintro e w' ⟨rfl, hb⟩; have hbA := Aside0.mk hb; obtain ⟨hcA, hfA⟩ := hb.old; have hz := hb.le; (try simp at hz); clear hb))
  go_wp2_with fail
  go_ret
  exact ⟨rfl, upA⟩
def upP (m : Mill) (l : List Sp) (plan : List Int) (n : Nat) : Bool := !rightB m (heldL l (n + 1)) plan
def raP (m : Mill) (l : List Sp) (plan : List Int) (i n : Nat) : Bool := rightB m (wetL l i n) plan
theorem upSearch (m : Mill) (A : Option Addr) (c : Nat) (l : List Sp) (A2 : Option Addr) (c2 : Nat) (plan : List Int) (hv : Valid m l) (hfi : Fine m Sp.lo l plan) (b1 b2 : Nat) (w : World)
    (hr : Kd.C kSp w A l.length l) (hc : l.length ≤ c) (hr2 : Kd.C (Kd.int .i64) w A2 plan.length plan) (hc2 : plan.length ≤ c2)
    (h1 : w.cell? ⟨b1, 0, none⟩ = some (.int .i64 m.H) ∧ w.cell? ⟨b1, 1, none⟩ = some (.int .i64 m.T) ∧ w.cell? ⟨b1, 2, none⟩ = some (.int .i64 m.bl) ∧ w.cell? ⟨b1, 3, none⟩ = some (.int .i64 m.bh) ∧ w.cell? ⟨b1, 4, none⟩ = some (.int .i64 m.ho) ∧ w.cell? ⟨b1, 5, none⟩ = some (.int .i64 m.nl) ∧ w.cell? ⟨b1, 6, none⟩ = some (.int .i64 m.nh) ∧ w.cell? ⟨b1, 7, none⟩ = some (.slice A l.length c)) (h2 : w.cell? ⟨b2, 0, none⟩ = some (.slice A2 plan.length c2)) (hb1 : b1 < w.heap.size) (hb2 : b2 < w.heap.size) :
    Calls Try.prog 79 #[.int .i64 500, .func (.func 80) #[] #[.pointer (some ⟨b1, 0, none⟩), .pointer (some ⟨b2, 0, none⟩)]] w fun e w' => e = .returned (.int .i64 (srch (upP m l plan) 500 : Nat)) ∧ Up w w' :=
  search_ 80 #[.pointer (some ⟨b1, 0, none⟩), .pointer (some ⟨b2, 0, none⟩)] (upP m l plan) 500 (by omega) w (by intro a w; kernel_rfl) (fun x W hx hu =>
    upstream1 m A c l A2 c2 plan hv hfi b1 b2 x (by omega) W (C_up hr hu) hc (C_up hr2 hu) hc2 ⟨hu.cell h1.1, hu.cell h1.2.1, hu.cell h1.2.2.1, hu.cell h1.2.2.2.1, hu.cell h1.2.2.2.2.1, hu.cell h1.2.2.2.2.2.1, hu.cell h1.2.2.2.2.2.2.1, hu.cell h1.2.2.2.2.2.2.2⟩ (hu.cell h2) (Nat.lt_of_lt_of_le hb1 hu.le) (Nat.lt_of_lt_of_le hb2 hu.le))
theorem raSearch (m : Mill) (A : Option Addr) (c : Nat) (l : List Sp) (A2 : Option Addr) (c2 : Nat) (plan : List Int) (hv : Valid m l) (hfi : Fine m Sp.lo l plan) (b1 b2 b3 i : Nat) (hi : i < l.length) (w : World)
    (hr : Kd.C kSp w A l.length l) (hc : l.length ≤ c) (hr2 : Kd.C (Kd.int .i64) w A2 plan.length plan) (hc2 : plan.length ≤ c2)
    (h1 : w.cell? ⟨b1, 0, none⟩ = some (.int .i64 m.H) ∧ w.cell? ⟨b1, 1, none⟩ = some (.int .i64 m.T) ∧ w.cell? ⟨b1, 2, none⟩ = some (.int .i64 m.bl) ∧ w.cell? ⟨b1, 3, none⟩ = some (.int .i64 m.bh) ∧ w.cell? ⟨b1, 4, none⟩ = some (.int .i64 m.ho) ∧ w.cell? ⟨b1, 5, none⟩ = some (.int .i64 m.nl) ∧ w.cell? ⟨b1, 6, none⟩ = some (.int .i64 m.nh) ∧ w.cell? ⟨b1, 7, none⟩ = some (.slice A l.length c)) (h2 : w.cell? ⟨b2, 0, none⟩ = some (.slice A2 plan.length c2)) (hb1 : b1 < w.heap.size) (h3 : w.cell? ⟨b3, 0, none⟩ = some (.int .i64 (i : Int))) (hb2 : b2 < w.heap.size) (hb3 : b3 < w.heap.size) :
    Calls Try.prog 79 #[.int .i64 501, .func (.func 82) #[] #[.pointer (some ⟨b1, 0, none⟩), .pointer (some ⟨b3, 0, none⟩), .pointer (some ⟨b2, 0, none⟩)]] w fun e w' => e = .returned (.int .i64 (srch (raP m l plan i) 501 : Nat)) ∧ Up w w' :=
  search_ 82 #[.pointer (some ⟨b1, 0, none⟩), .pointer (some ⟨b3, 0, none⟩), .pointer (some ⟨b2, 0, none⟩)] (raP m l plan i) 501 (by omega) w (by intro a w; kernel_rfl) (fun x W hx hu =>
    rain1 m A c l A2 c2 plan hv hfi b1 b2 b3 i x (by omega) hi W (C_up hr hu) hc (C_up hr2 hu) hc2 ⟨hu.cell h1.1, hu.cell h1.2.1, hu.cell h1.2.2.1, hu.cell h1.2.2.2.1, hu.cell h1.2.2.2.2.1, hu.cell h1.2.2.2.2.2.1, hu.cell h1.2.2.2.2.2.2.1, hu.cell h1.2.2.2.2.2.2.2⟩ (hu.cell h2) (Nat.lt_of_lt_of_le hb1 hu.le) (hu.cell h3) (Nat.lt_of_lt_of_le hb2 hu.le) (Nat.lt_of_lt_of_le hb3 hu.le))
def upsE (m : Mill) (l : List Sp) (plan : List Int) : Int := if openE m l plan l.length = 0 then (if rightB m l plan then 0 else 9) else openE m l plan l.length
def upsI (m : Mill) (l : List Sp) (plan : List Int) : Int := if upsE m l plan = 0 then (srch (upP m l plan) 500 : Nat) else 0
set_option maxRecDepth 100000 in
set_option maxHeartbeats 1000000 in
theorem upstream_ (m : Mill) (A : Option Addr) (c : Nat) (l : List Sp) (A2 : Option Addr) (c2 : Nat) (plan : List Int)
    (w : World) (hr : Kd.C kSp w A l.length l) (hc : l.length ≤ c) (hr2 : Kd.C (Kd.int .i64) w A2 plan.length plan) (hc2 : plan.length ≤ c2) :
    Calls Try.prog 40 #[.agg #[.int .i64 m.H, .int .i64 m.T, .int .i64 m.bl, .int .i64 m.bh, .int .i64 m.ho, .int .i64 m.nl, .int .i64 m.nh], .slice A l.length c, .slice A2 plan.length c2] w fun e w' => e = .returned (.tuple #[.int .i64 (upsI m l plan), .int .i64 (upsE m l plan)]) ∧ Up w w' := by
  have HR := Aside0.mk hr
  have HR2 := Aside0.mk hr2
  clear hr hr2
  by_cases h0 : openE m l plan l.length = 0
  · have hv := open_of m l plan _ h0
    have hlo := fine_lo hv.1 hv.2
    have hva := hv.1
    have H0 := Aside0.mk h0
    have h00 : (openE m l plan l.length != 0) = false := by simp [h0]
    clear h0 hv
    cases h1 : rightB m l plan
    · have hE : upsE m l plan = 9 := by simp [upsE, H0.out, h1]
      have HE := Aside0.mk hE
      clear hE
      go_enter Try.func40, Try.ntmps40
      go_wp2_with fail
      (with_reducible refine (openPlan m A c l A2 c2 plan _ _ (C_up HR.out upA) hc (C_up HR2.out upA) hc2).mono ?_)
      rintro e w1 ⟨rfl, hb⟩
      have hbA := Aside0.mk hb
      obtain ⟨hcA, hfA⟩ := hb.old
      have hz := hb.le
      (try simp at hz)
      (try have hz0 : w.heap.size < w1.heap.size := by omega)
      (try have hzb : w.heap.size + 1 < w1.heap.size := by omega)
      (try have hzc : w.heap.size + 2 < w1.heap.size := by omega)
      clear hb
      go_wp2_with (go_at_call 65; (with_reducible refine (isRight_ m A c l A2 c2 plan hlo _ (C_up HR.out upA) hc (C_up HR2.out upA) hc2).mono ?_); rintro e w' ⟨rfl, hb⟩; have hbA := Aside0.mk hb; obtain ⟨hcA, hfA⟩ := hb.old; have hz := hb.le; (try simp at hz); (try have hz0 : w.heap.size < w'.heap.size := by omega); (try have hzb : w.heap.size + 1 < w'.heap.size := by omega); (try have hzc : w.heap.size + 2 < w'.heap.size := by omega); clear hb)
      go_ret2
      exact ⟨by simp [upsI, HE.out], upA⟩
    · have hE : upsE m l plan = 0 := by simp [upsE, H0.out, h1]
      have HE := Aside0.mk hE
      clear hE
      go_enter Try.func40, Try.ntmps40
      go_wp2_with fail
      (with_reducible refine (openPlan m A c l A2 c2 plan _ _ (C_up HR.out upA) hc (C_up HR2.out upA) hc2).mono ?_)
      rintro e w1 ⟨rfl, hb⟩
      have hbA := Aside0.mk hb
      obtain ⟨hcA, hfA⟩ := hb.old
      have hz := hb.le
      (try simp at hz)
      (try have hz0 : w.heap.size < w1.heap.size := by omega)
      (try have hzb : w.heap.size + 1 < w1.heap.size := by omega)
      (try have hzc : w.heap.size + 2 < w1.heap.size := by omega)
      clear hb
      go_wp2_with (first | (go_at_call 65; (with_reducible refine (isRight_ m A c l A2 c2 plan hlo _ (C_up HR.out upA) hc (C_up HR2.out upA) hc2).mono ?_); rintro e w' ⟨rfl, hb⟩; have hbA := Aside0.mk hb; obtain ⟨hcA, hfA⟩ := hb.old; have hz := hb.le; (try simp at hz); (try have hz0 : w.heap.size < w'.heap.size := by omega); (try have hzb : w.heap.size + 1 < w'.heap.size := by omega); (try have hzc : w.heap.size + 2 < w'.heap.size := by omega); have hz1 : w1.heap.size < w'.heap.size := (by omega); clear hb) | (go_at_call 79; (with_reducible refine (upSearch m A c l A2 c2 plan hva hlo w1.heap.size (w.heap.size + 1) _ (C_up HR.out upA) hc (C_up HR2.out upA) hc2 (by simp [*, go_sem]) (by simp [*, go_sem]) (by omega) (by omega)).mono ?_); rintro e w' ⟨rfl, hb⟩; have hbA := Aside0.mk hb; obtain ⟨hcA, hfA⟩ := hb.old; have hz := hb.le; (try simp at hz); (try have hz0 : w.heap.size < w'.heap.size := by omega); (try have hzb : w.heap.size + 1 < w'.heap.size := by omega); (try have hzc : w.heap.size + 2 < w'.heap.size := by omega); clear hb))
      go_ret2
      exact ⟨by simp [upsI, HE.out], upA⟩
  · have H0 := Aside0.mk h0
    have h00 : (openE m l plan l.length != 0) = true := by simp [h0]
    have hE : upsE m l plan = openE m l plan l.length := by simp [upsE, h0]
    have HE := Aside0.mk hE
    clear h0 hE
    go_enter Try.func40, Try.ntmps40
    go_wp2_with fail
    (with_reducible refine (openPlan m A c l A2 c2 plan _ _ (C_up HR.out upA) hc (C_up HR2.out upA) hc2).mono ?_)
    rintro e w1 ⟨rfl, hb⟩
    have hbA := Aside0.mk hb
    obtain ⟨hcA, hfA⟩ := hb.old
    have hz := hb.le
    (try simp at hz)
    (try have hz0 : w.heap.size < w1.heap.size := by omega)
    (try have hzb : w.heap.size + 1 < w1.heap.size := by omega)
    (try have hzc : w.heap.size + 2 < w1.heap.size := by omega)
    clear hb
    go_wp2_with fail
    go_ret2
    exact ⟨by simp [upsI, HE.out, H0.out], upA⟩
end Go.Proofs.Ytcnlbbmokphjnaa
namespace Go.Proofs.Ytcnlbbmokphjnaa
open Go.RowKit Go.Shelf Go.Proofs.YtcnlbbmokphjnaaW.PrintWords
set_option linter.unusedVariables false
set_option linter.unusedSimpArgs false
def rainStep (m : Mill) (l : List Sp) (plan : List Int) (a : Int × Int) (i : Nat) : Int × Int := if ((srch (raP m l plan i) 501 : Nat) : Int) < a.2 then ((i : Int), ((srch (raP m l plan i) 501 : Nat) : Int)) else a
def rainR (m : Mill) (l : List Sp) (plan : List Int) (k : Nat) : Int × Int := (List.range k).foldl (rainStep m l plan) (0, 501)
theorem rainR_succ (m : Mill) (l : List Sp) (plan : List Int) (k : Nat) : rainR m l plan (k + 1) = rainStep m l plan (rainR m l plan k) k := by
  simp only [rainR, List.range_succ, List.foldl_append, List.foldl_cons, List.foldl_nil]
def rainG (m : Mill) (l : List Sp) (plan : List Int) : Int := if openE m l plan l.length = 0 then (if rightB m l plan then 6 else 0) else openE m l plan l.length
def rainE (m : Mill) (l : List Sp) (plan : List Int) : Int := if rainG m l plan = 0 then (if (rainR m l plan l.length).2 > 500 then 7 else 0) else rainG m l plan
def rainH (m : Mill) (l : List Sp) (plan : List Int) : Int := if rainE m l plan = 0 then (rainR m l plan l.length).1 else 0
def rainM (m : Mill) (l : List Sp) (plan : List Int) : Int := if rainE m l plan = 0 then (rainR m l plan l.length).2 else 0
set_option maxRecDepth 100000 in
set_option maxHeartbeats 2000000 in
theorem rain_ (m : Mill) (A : Option Addr) (c : Nat) (l : List Sp) (A2 : Option Addr) (c2 : Nat) (plan : List Int)
    (w : World) (hr : Kd.C kSp w A l.length l) (hc : l.length ≤ c) (hr2 : Kd.C (Kd.int .i64) w A2 plan.length plan) (hc2 : plan.length ≤ c2) :
    Calls Try.prog 41 #[.agg #[.int .i64 m.H, .int .i64 m.T, .int .i64 m.bl, .int .i64 m.bh, .int .i64 m.ho, .int .i64 m.nl, .int .i64 m.nh], .slice A l.length c, .slice A2 plan.length c2] w fun e w' => e = .returned (.tuple #[.int .i64 (rainH m l plan), .int .i64 (rainM m l plan), .int .i64 (rainE m l plan)]) ∧ Up w w' := by
  have HR := Aside0.mk hr
  have HR2 := Aside0.mk hr2
  clear hr hr2
  by_cases h0 : openE m l plan l.length = 0
  · have hv := open_of m l plan _ h0
    have hlo := fine_lo hv.1 hv.2
    have hva := hv.1
    have hlen := hva.len
    have H0 := Aside0.mk h0
    have h00 : (openE m l plan l.length != 0) = false := by simp [h0]
    clear h0 hv
    cases h1 : rightB m l plan
    · have hG : rainG m l plan = 0 := by simp [rainG, H0.out, h1]
      have HG := Aside0.mk hG
      clear hG
      go_enter Try.func41, Try.ntmps41
      go_wp2_with fail
      (with_reducible refine (openPlan m A c l A2 c2 plan _ _ (C_up HR.out upA) hc (C_up HR2.out upA) hc2).mono ?_)
      rintro e w1 ⟨rfl, hb⟩
      have hbA := Aside0.mk hb
      obtain ⟨hcA, hfA⟩ := hb.old
      have hz := hb.le
      (try simp at hz)
      (try have hz0 : w.heap.size < w1.heap.size := by omega)
      (try have hzb : w.heap.size + 1 < w1.heap.size := by omega)
      (try have hzc : w.heap.size + 2 < w1.heap.size := by omega)
      clear hb
      go_wp2_with (go_at_call 65; (with_reducible refine (isRight_ m A c l A2 c2 plan hlo _ (C_up HR.out upA) hc (C_up HR2.out upA) hc2).mono ?_); rintro e w' ⟨rfl, hb⟩; have hbA := Aside0.mk hb; obtain ⟨hcA, hfA⟩ := hb.old; have hz := hb.le; (try simp at hz); (try have hz0 : w.heap.size < w'.heap.size := by omega); (try have hzb : w.heap.size + 1 < w'.heap.size := by omega); (try have hzc : w.heap.size + 2 < w'.heap.size := by omega); have hz1 : w1.heap.size < w'.heap.size := (by omega); clear hb)
      have HW1 : Aside0 (Up w (w1.alloc (.cells #[.int .i64 m.H, .int .i64 m.T, .int .i64 m.bl, .int .i64 m.bh, .int .i64 m.ho, .int .i64 m.nl, .int .i64 m.nh, .slice A l.length c] 98))) := ⟨upA⟩
      have HW2 : Aside0 (w1.cell? ⟨w.heap.size + 1, 0, none⟩ = some (.slice A2 plan.length c2)) := ⟨by simp [*, go_sem]⟩
      go_loopw [6, 7, 31] (fun v6 v7 i wr => ∃ k : Nat, k ≤ l.length ∧ i = .int .i64 (k : Int) ∧ v6 = .int .i64 (rainR m l plan k).1 ∧ v7 = .int .i64 (rainR m l plan k).2 ∧ Aside0 (Up (w1.alloc (.cells #[.int .i64 m.H, .int .i64 m.T, .int .i64 m.bl, .int .i64 m.bh, .int .i64 m.ho, .int .i64 m.nl, .int .i64 m.nh, .slice A l.length c] 98)) wr)) (fun _ _ i _ => l.length - (intOf i).toNat)
      case atStart => exact ⟨0, Nat.zero_le _, rfl, rfl, rfl, ⟨upA⟩⟩
      case round =>
        obtain ⟨k, hk, rfl, rfl, rfl, hu⟩ := hrel
        have HUW : Aside0 (Up w wr) := ⟨HW1.out.then hu.out⟩
        have hzB := hu.out.le
        simp only [World.size_alloc] at hzB
        have hn1 : ¬ w1.heap.size = wr.heap.size := by omega
        have hn2 : ¬ w.heap.size + 1 = wr.heap.size := by omega
        have hl1 : w1.heap.size < wr.heap.size := by omega
        have hl2 : w.heap.size + 1 < wr.heap.size := by omega
        clear hcA hfA
        have hv0 : wr.cell? ⟨w1.heap.size, 0, none⟩ = some (.int .i64 m.H) ∧ wr.cell? ⟨w1.heap.size, 1, none⟩ = some (.int .i64 m.T) ∧ wr.cell? ⟨w1.heap.size, 2, none⟩ = some (.int .i64 m.bl) ∧ wr.cell? ⟨w1.heap.size, 3, none⟩ = some (.int .i64 m.bh) ∧ wr.cell? ⟨w1.heap.size, 4, none⟩ = some (.int .i64 m.ho) ∧ wr.cell? ⟨w1.heap.size, 5, none⟩ = some (.int .i64 m.nl) ∧ wr.cell? ⟨w1.heap.size, 6, none⟩ = some (.int .i64 m.nh) ∧ wr.cell? ⟨w1.heap.size, 7, none⟩ = some (.slice A l.length c) := by
          obtain ⟨hcB, hfB⟩ := hu.out.old
          refine ⟨?_, ?_, ?_, ?_, ?_, ?_, ?_, ?_⟩ <;> exact (hcB _ _ (by simp)).trans (by simp [go_sem])
        have hv1 : wr.cell? ⟨w.heap.size + 1, 0, none⟩ = some (.slice A2 plan.length c2) := hu.out.cell ((Up.alloc (Up.refl w1) _).cell HW2.out)
        by_cases hlt : k < l.length
        · by_cases hp : ((srch (raP m l plan k) 501 : Nat) : Int) < (rainR m l plan k).2
          · have hst : rainR m l plan (k + 1) = ((k : Int), ((srch (raP m l plan k) 501 : Nat) : Int)) := by rw [rainR_succ, rainStep, if_pos hp]
            have HST := Aside0.mk hst
            clear hst
            go_wp2_with (go_at_call 79; (with_reducible refine (raSearch m A c l A2 c2 plan hva hlo w1.heap.size (w.heap.size + 1) wr.heap.size k hlt _ (C_up HR.out (HUW.out.then upA)) hc (C_up HR2.out (HUW.out.then upA)) hc2 (by simp [*, go_sem]) (by simp [*, go_sem]) (by simp; omega) (by simp [*, go_sem]) (by simp; omega) (by simp)).mono ?_); rintro e w' ⟨rfl, hb⟩; have hbA := Aside0.mk hb; obtain ⟨hcA, hfA⟩ := hb.old; have hz := hb.le; (try simp at hz); (try have hz0 : w.heap.size < w'.heap.size := by omega); (try have hzb : w.heap.size + 1 < w'.heap.size := by omega); (try have hzc : w.heap.size + 2 < w'.heap.size := by omega); skip; clear hb)
            go_roundw
            case rel => exact ⟨k + 1, by omega, by go_num, by rw [HST.out], by rw [HST.out], ⟨hu.out.then upA⟩⟩
            case measure => simp [intOf]; omega
          · have hst : rainR m l plan (k + 1) = rainR m l plan k := by rw [rainR_succ, rainStep, if_neg hp]
            have HST := Aside0.mk hst
            clear hst
            go_wp2_with (go_at_call 79; (with_reducible refine (raSearch m A c l A2 c2 plan hva hlo w1.heap.size (w.heap.size + 1) wr.heap.size k hlt _ (C_up HR.out (HUW.out.then upA)) hc (C_up HR2.out (HUW.out.then upA)) hc2 (by simp [*, go_sem]) (by simp [*, go_sem]) (by simp; omega) (by simp [*, go_sem]) (by simp; omega) (by simp)).mono ?_); rintro e w' ⟨rfl, hb⟩; have hbA := Aside0.mk hb; obtain ⟨hcA, hfA⟩ := hb.old; have hz := hb.le; (try simp at hz); (try have hz0 : w.heap.size < w'.heap.size := by omega); (try have hzb : w.heap.size + 1 < w'.heap.size := by omega); (try have hzc : w.heap.size + 2 < w'.heap.size := by omega); skip; clear hb)
            go_roundw
            case rel => exact ⟨k + 1, by omega, by go_num, by rw [HST.out], by rw [HST.out], ⟨hu.out.then upA⟩⟩
            case measure => simp [intOf]; omega
        · obtain rfl : k = l.length := by omega
          by_cases hgt : (rainR m l plan l.length).2 > 500
          · have hE : rainE m l plan = 7 := by simp only [rainE, if_pos HG.out, if_pos hgt]
            have HE := Aside0.mk hE
            clear hE
            go_wp2_with fail
            go_ret3
            exact ⟨by simp [rainH, rainM, HE.out], HUW.out⟩
          · have hE : rainE m l plan = 0 := by simp only [rainE, if_pos HG.out, if_neg hgt]
            have HE := Aside0.mk hE
            clear hE
            go_wp2_with fail
            go_ret3
            exact ⟨by simp [rainH, rainM, HE.out], HUW.out⟩
    · have hG : rainG m l plan = 6 := by simp [rainG, H0.out, h1]
      have HG := Aside0.mk hG
      clear hG
      go_enter Try.func41, Try.ntmps41
      go_wp2_with fail
      (with_reducible refine (openPlan m A c l A2 c2 plan _ _ (C_up HR.out upA) hc (C_up HR2.out upA) hc2).mono ?_)
      rintro e w1 ⟨rfl, hb⟩
      have hbA := Aside0.mk hb
      obtain ⟨hcA, hfA⟩ := hb.old
      have hz := hb.le
      (try simp at hz)
      (try have hz0 : w.heap.size < w1.heap.size := by omega)
      (try have hzb : w.heap.size + 1 < w1.heap.size := by omega)
      (try have hzc : w.heap.size + 2 < w1.heap.size := by omega)
      clear hb
      go_wp2_with (go_at_call 65; (with_reducible refine (isRight_ m A c l A2 c2 plan hlo _ (C_up HR.out upA) hc (C_up HR2.out upA) hc2).mono ?_); rintro e w' ⟨rfl, hb⟩; have hbA := Aside0.mk hb; obtain ⟨hcA, hfA⟩ := hb.old; have hz := hb.le; (try simp at hz); (try have hz0 : w.heap.size < w'.heap.size := by omega); (try have hzb : w.heap.size + 1 < w'.heap.size := by omega); (try have hzc : w.heap.size + 2 < w'.heap.size := by omega); clear hb)
      go_ret3
      exact ⟨by simp [rainE, rainH, rainM, HG.out], upA⟩
  · have H0 := Aside0.mk h0
    have h00 : (openE m l plan l.length != 0) = true := by simp [h0]
    have hG : rainG m l plan = openE m l plan l.length := by simp [rainG, h0]
    have HG := Aside0.mk hG
    clear h0 hG
    go_enter Try.func41, Try.ntmps41
    go_wp2_with fail
    (with_reducible refine (openPlan m A c l A2 c2 plan _ _ (C_up HR.out upA) hc (C_up HR2.out upA) hc2).mono ?_)
    rintro e w1 ⟨rfl, hb⟩
    have hbA := Aside0.mk hb
    obtain ⟨hcA, hfA⟩ := hb.old
    have hz := hb.le
    (try simp at hz)
    (try have hz0 : w.heap.size < w1.heap.size := by omega)
    (try have hzb : w.heap.size + 1 < w1.heap.size := by omega)
    (try have hzc : w.heap.size + 2 < w1.heap.size := by omega)
    clear hb
    go_wp2_with fail
    go_ret3
    exact ⟨by simp [rainE, rainH, rainM, HG.out, H0.out], upA⟩
end Go.Proofs.Ytcnlbbmokphjnaa
namespace Go.Proofs.Ytcnlbbmokphjnaa
open Go.RowKit Go.Shelf Go.Proofs.YtcnlbbmokphjnaaW.PrintWords
set_option linter.unusedVariables false
set_option linter.unusedSimpArgs false
attribute [local go_sem] bi_max2 bi_min2 bi_max_two bi_min_two
structure FineB (m : Mill) (l : List Sp) (plan : List Int) : Prop where
  ho : 0 ≤ m.ho ∧ m.ho ≤ 500
  T : 0 ≤ m.T ∧ m.T ≤ 100
  now : 0 ≤ m.nl ∧ m.nl ≤ 2000 ∧ 0 ≤ m.nh ∧ m.nh ≤ 2000
  flow : ∀ s ∈ l, 0 ≤ s.lo ∧ s.lo ≤ 2000 ∧ 0 ≤ s.hi ∧ s.hi ≤ 2000
  pl : ∀ k ∈ plan, 0 ≤ k ∧ k ≤ 10
  len : plan.length ≤ l.length
def stopF (m : Mill) (l : List Sp) (plan : List Int) : Nat → Nat → Int → Int → Bool
  | 0, _, _, _ => false
  | n + 1, k, wl, wh =>
    if n = 0 then decide (min m.ho (wl + (rdS l k).lo) < rd plan k * m.T)
    else if min m.ho (wh + (rdS l k).hi) < rd plan k * m.T then false
    else stopF m l plan n (k + 1) (max 0 (min m.ho (wl + (rdS l k).lo) - rd plan k * m.T)) (min m.ho (wh + (rdS l k).hi) - rd plan k * m.T)
def stopB (m : Mill) (l : List Sp) (plan : List Int) : Bool := stopF m l plan plan.length 0 m.nl m.nh
set_option maxRecDepth 100000 in
set_option maxHeartbeats 4000000 in
theorem stopped_ (m : Mill) (A : Option Addr) (c : Nat) (l : List Sp) (A2 : Option Addr) (c2 : Nat) (plan : List Int) (hfi : FineB m l plan) (hlen : plan.length ≤ 1000)
    (w : World) (hr : Kd.C kSp w A l.length l) (hc : l.length ≤ c) (hr2 : Kd.C (Kd.int .i64) w A2 plan.length plan) (hc2 : plan.length ≤ c2) :
    Calls Try.prog 86 #[.agg #[.int .i64 m.H, .int .i64 m.T, .int .i64 m.bl, .int .i64 m.bh, .int .i64 m.ho, .int .i64 m.nl, .int .i64 m.nh, .slice A l.length c], .slice A2 plan.length c2] w fun e w' => e = .returned (.bool (stopB m l plan)) ∧ Up w w' := by
  have HR := Aside0.mk hr
  have HR2 := Aside0.mk hr2
  have HFI := Aside0.mk hfi
  obtain ⟨hho1, hho2⟩ := hfi.ho
  obtain ⟨hT1, hT2⟩ := hfi.T
  obtain ⟨hn1, hn2, hn3, hn4⟩ := hfi.now
  have hll := hfi.len
  have hwl1 : IntKind.i64.wrap ((plan.length : Int) - 1) = (plan.length : Int) - 1 := IntWalk.i64_in _ (by omega)
  clear hr hr2 hfi
  go_enter Try.func86, Try.ntmps86
  go_wp2_with fail
  have HJ : Aside0 (Bx ((w.alloc (.cells #[.int .i64 m.H, .int .i64 m.T, .int .i64 m.bl, .int .i64 m.bh, .int .i64 m.ho, .int .i64 m.nl, .int .i64 m.nh, .slice A l.length c] 98)).alloc (.cells #[.int .i64 m.nl, .int .i64 m.nh] 23)) w.heap.size (valA m (.slice A l.length c)) 98 ∧ Bx ((w.alloc (.cells #[.int .i64 m.H, .int .i64 m.T, .int .i64 m.bl, .int .i64 m.bh, .int .i64 m.ho, .int .i64 m.nl, .int .i64 m.nh, .slice A l.length c] 98)).alloc (.cells #[.int .i64 m.nl, .int .i64 m.nh] 23)) (w.heap.size + 1) #[.int .i64 m.nl, .int .i64 m.nh] 23 ∧ Up w ((w.alloc (.cells #[.int .i64 m.H, .int .i64 m.T, .int .i64 m.bl, .int .i64 m.bh, .int .i64 m.ho, .int .i64 m.nl, .int .i64 m.nh, .slice A l.length c] 98)).alloc (.cells #[.int .i64 m.nl, .int .i64 m.nh] 23))) :=
    ⟨(Bx.new w _ _).up upA, by have h := Bx.new (w.alloc (.cells #[.int .i64 m.H, .int .i64 m.T, .int .i64 m.bl, .int .i64 m.bh, .int .i64 m.ho, .int .i64 m.nl, .int .i64 m.nh, .slice A l.length c] 98)) #[.int .i64 m.nl, .int .i64 m.nh] 23; simpa using h, upA⟩
  go_loopw [19] (fun i wr => ∃ (k : Nat) (wl wh : Int), k ≤ plan.length ∧ i = .int .i64 (k : Int) ∧ 0 ≤ wl ∧ wl ≤ 2000 ∧ 0 ≤ wh ∧ wh ≤ 2000 ∧ Aside0 (stopF m l plan (plan.length - k) k wl wh = stopB m l plan) ∧ Aside0 (Bx wr w.heap.size (valA m (.slice A l.length c)) 98 ∧ Bx wr (w.heap.size + 1) #[.int .i64 wl, .int .i64 wh] 23 ∧ Up w wr)) (fun i _ => plan.length - (intOf i).toNat)
  case atStart => exact ⟨0, m.nl, m.nh, Nat.zero_le _, rfl, hn1, hn2, hn3, hn4, ⟨rfl⟩, HJ⟩
  case round =>
    obtain ⟨k, wl, wh, hk, rfl, hw1, hw2, hw3, hw4, he, hJ⟩ := hrel
    have hbc := hJ.out.1.cell
    have hbf := hJ.out.1.frozen
    have hbd := hJ.out.2.1.cell
    have hbg := hJ.out.2.1.frozen
    have hl1 := hJ.out.2.1.lt
    have HUJ := Aside0.mk hJ.out.2.2
    simp only [valA] at hbc
    clear HJ
    by_cases hlt : k < plan.length
    · have hi0 : (0 : Int) ≤ (k : Int) := by omega
      have hi1 : (k : Int) < (l.length : Int) := by omega
      have hi2 : (k : Int) < (plan.length : Int) := by omega
      obtain ⟨ad2, e2, hx2⟩ := Kd.at_int (C_up HR2.out HUJ.out) k (by omega) (by omega)
      obtain ⟨ad, e, hx0, hx1⟩ := at_Sp (C_up HR.out HUJ.out) k (by omega) (by omega)
      cases e
      cases e2
      simp only [Int.toNat_natCast] at hx0 hx1 hx2
      have hp := HFI.out.pl (rd plan k) (by simp [rd, hlt])
      have hf := HFI.out.flow (rdS l k) (by rw [rdS_nat l k (by omega)]; exact List.getElem_mem _)
      obtain ⟨hp1, hp2⟩ := hp
      obtain ⟨hf1, hf2, hf3, hf4⟩ := hf
      have hm1 : 0 ≤ rd plan k * m.T := Int.mul_nonneg hp1 hT1
      have hm2 : rd plan k * m.T ≤ 10 * 100 := Int.mul_le_mul hp2 hT2 hT1 (by omega)
      have he2 := he.out
      rw [show plan.length - k = (plan.length - (k + 1)) + 1 by omega, stopF] at he2
      have HE2 := Aside0.mk he2
      have hu := Try.underlying23
      clear he2 he
      have hne1 : ¬ w.heap.size = wr.heap.size := by omega
      have hne2 : ¬ w.heap.size + 1 = wr.heap.size := by omega
      have hne3 := World.block_lt_of_cell? _ _ hx0
      have hne4 : ¬ (ad.add (k * 2)).block = wr.heap.size := by omega
      have hq7 : wr.cell? ⟨w.heap.size, 7, none⟩ = some (.slice (some ad) l.length c) := hbc 7
      have hq4 : wr.cell? ⟨w.heap.size, 4, none⟩ = some (.int .i64 m.ho) := hbc 4
      have hq0 : wr.cell? ⟨w.heap.size + 1, 0, none⟩ = some (.int .i64 wl) := hbd 0
      have hq1 : wr.cell? ⟨w.heap.size + 1, 1, none⟩ = some (.int .i64 wh) := hbd 1
      have hw5 : IntKind.i64.wrap (wl + (rdS l k).lo) = wl + (rdS l k).lo := IntWalk.i64_in _ (by omega)
      have hw6 : IntKind.i64.wrap (wh + (rdS l k).hi) = wh + (rdS l k).hi := IntWalk.i64_in _ (by omega)
      go_wp2_with fail
      go_region_held3 (fun W => W.cell? ⟨w.heap.size, 7, none⟩ = some (.slice (some ad) l.length c) ∧ W.cell? ⟨w.heap.size, 4, none⟩ = some (.int .i64 m.ho) ∧ W.cell? ⟨w.heap.size + 1, 0, none⟩ = some (.int .i64 wl) ∧ W.cell? ⟨w.heap.size + 1, 1, none⟩ = some (.int .i64 wh) ∧ W.cell? (ad.add (k * 2)) = some (.int .i64 (rdS l k).lo) ∧ W.cell? ⟨(ad.add (k * 2)).block, (ad.add (k * 2)).off + 1, none⟩ = some (.int .i64 (rdS l k).hi)) (first | go_keep) (first | fail)
      all_goals
        clear hw5 hw6 hwl1
        have hll2 : ¬ w.heap.size + 1 = wr.heap.size := hne2
        by_cases hn : plan.length - (k + 1) = 0
        · have hb1 : ((k : Int) == (plan.length : Int) - 1) = true := by simp; omega
          have hst := HE2.out
          rw [if_pos hn] at hst
          have HST := Aside0.mk hst
          clear hst HE2 hJ
          go_wp2_with fail
          go_ret
          exact ⟨ret_bool HST.out, HUJ.out.then upA⟩
        · have hb1 : ((k : Int) == (plan.length : Int) - 1) = false := by simp; omega
          have hst := HE2.out
          rw [if_neg hn] at hst
          by_cases hfh : min m.ho (wh + (rdS l k).hi) < rd plan k * m.T
          · rw [if_pos hfh] at hst
            have HST := Aside0.mk hst
            clear hst HE2 hJ
            go_wp2_with fail
            go_ret
            exact ⟨ret_bool HST.out, HUJ.out.then upA⟩
          · rw [if_neg hfh] at hst
            have HST := Aside0.mk hst
            have hq8 : min m.ho (wh + (rdS l k).hi) ≤ 500 := by omega
            have hq9 : min m.ho (wl + (rdS l k).lo) ≤ 500 := by omega
            have hq10 : 0 ≤ min m.ho (wh + (rdS l k).hi) := by omega
            have hq11 : 0 ≤ min m.ho (wl + (rdS l k).lo) := by omega
            clear hst HE2
            go_wp2_with fail
            go_roundw
            case rel => exact ⟨k + 1, _, _, by omega, by go_num, by omega, by omega, by omega, by omega, HST, ⟨((hJ.out.1.far (by omega) _ _).far (by omega) _ _).up (((Up.refl _).alloc _).drew), (hJ.out.2.1.set2 _ _).up (((Up.refl _).alloc _).drew), upA⟩⟩
            case measure => simp [intOf]; omega
    · have hst : stopB m l plan = false := by rw [← he.out, show plan.length - k = 0 by omega, stopF]
      have HST := Aside0.mk hst
      clear hst
      go_wp2_with fail
      go_ret
      exact ⟨ret_bool (by rw [HST.out]), HUJ.out⟩
end Go.Proofs.Ytcnlbbmokphjnaa
namespace Go.Proofs.Ytcnlbbmokphjnaa
open Go.RowKit Go.Shelf Go.Proofs.YtcnlbbmokphjnaaW.PrintWords
set_option linter.unusedVariables false
set_option linter.unusedSimpArgs false
theorem fineB_set {m : Mill} {l : List Sp} {plan : List Int} (h : FineB m l plan) (i : Nat) (n : Int) (hn : 0 ≤ n ∧ n ≤ 2000) : FineB m (l.set i ⟨n, n⟩) plan :=
  ⟨h.ho, h.T, h.now, fun s hs => by
    rcases List.mem_or_eq_of_mem_set hs with h1 | rfl
    · exact h.flow s h1
    · exact ⟨hn.1, hn.2, hn.1, hn.2⟩, h.pl, by rw [List.length_set]; exact h.len⟩
theorem stopped_n (m : Mill) (A : Option Addr) (c n : Nat) (l : List Sp) (A2 : Option Addr) (c2 : Nat) (plan : List Int) (hfi : FineB m l plan) (hlen : plan.length ≤ 1000) (hn : l.length = n)
    (w : World) (hr : Kd.C kSp w A n l) (hc : n ≤ c) (hr2 : Kd.C (Kd.int .i64) w A2 plan.length plan) (hc2 : plan.length ≤ c2) :
    Calls Try.prog 86 #[.agg #[.int .i64 m.H, .int .i64 m.T, .int .i64 m.bl, .int .i64 m.bh, .int .i64 m.ho, .int .i64 m.nl, .int .i64 m.nh, .slice A n c], .slice A2 plan.length c2] w fun e w' => e = .returned (.bool (stopB m l plan)) ∧ Up w w' := by
  subst hn
  exact stopped_ m A c l A2 c2 plan hfi hlen w hr hc hr2 hc2
set_option maxRecDepth 100000 in
set_option maxHeartbeats 2000000 in
theorem can1 (m : Mill) (A : Option Addr) (c : Nat) (l : List Sp) (A2 : Option Addr) (c2 : Nat) (plan : List Int) (hfi : FineB m l plan) (hl0 : 0 < l.length) (hl : l.length ≤ 1000) (b1 b2 b3 i : Nat) (n : Int) (hn : 0 ≤ n ∧ n ≤ 2000) (hi : i < l.length) (w : World)
    (hr : Kd.C kSp w A l.length l) (hc : l.length ≤ c) (hr2 : Kd.C (Kd.int .i64) w A2 plan.length plan) (hc2 : plan.length ≤ c2)
    (h1 : w.cell? ⟨b1, 0, none⟩ = some (.int .i64 m.H) ∧ w.cell? ⟨b1, 1, none⟩ = some (.int .i64 m.T) ∧ w.cell? ⟨b1, 2, none⟩ = some (.int .i64 m.bl) ∧ w.cell? ⟨b1, 3, none⟩ = some (.int .i64 m.bh) ∧ w.cell? ⟨b1, 4, none⟩ = some (.int .i64 m.ho) ∧ w.cell? ⟨b1, 5, none⟩ = some (.int .i64 m.nl) ∧ w.cell? ⟨b1, 6, none⟩ = some (.int .i64 m.nh) ∧ w.cell? ⟨b1, 7, none⟩ = some (.slice A l.length c)) (h2 : w.cell? ⟨b2, 0, none⟩ = some (.int .i64 (i : Int))) (h3 : w.cell? ⟨b3, 0, none⟩ = some (.slice A2 plan.length c2)) (hb1 : b1 < w.heap.size) (hb2 : b2 < w.heap.size) (hb3 : b3 < w.heap.size) :
    Calls Try.prog 87 #[.int .i64 n, .pointer (some ⟨b1, 0, none⟩), .pointer (some ⟨b2, 0, none⟩), .pointer (some ⟨b3, 0, none⟩)] w fun e w' => e = .returned (.bool (stopB m (l.set i ⟨n, n⟩) plan)) ∧ Up w w' := by
  have HR := Aside0.mk hr
  have HR2 := Aside0.mk hr2
  have HFI := Aside0.mk (fineB_set hfi i n hn)
  have hll := hfi.len
  have hi0 : (0 : Int) ≤ (i : Int) := by omega
  have hi1 : (i : Int) < (l.length : Int) := by omega
  have hne1 : ¬ b1 = w.heap.size := by omega
  have hne2 : ¬ b2 = w.heap.size := by omega
  have hne3 : ¬ b3 = w.heap.size := by omega
  have hu := Try.underlying23
  clear hr hr2 hfi
  go_enter Try.func87, Try.ntmps87
  go_wp2_with (first | (go_at_call 88; (with_reducible refine (clone_ A c l _ (C_up HR.out upA) hl0 hl).mono ?_); rintro e w1 ⟨g, cap, rfl, hg, hcap, hS, hU⟩; have hz := hU.le; (try simp at hz hg); have hz0 : w.heap.size < w1.heap.size := (by omega); have hB0 : Bx w1 w.heap.size (valA m (.slice A l.length c)) 98 := (Bx.new w _ _).up hU; have hUW : Up w w1 := (Up.alloc (Up.refl w) _).then hU; have hv2 := hUW.cell h2; have hv3 := hUW.cell h3; have hx := hS.cell i hi; (rw [Nat.mul_comm 2 i] at hx); have hx0 := hx.1; have hx1 := hx.2; have hfg := hS.frozen; have hbc := hB0.cell; have hbf := hB0.frozen; (simp only [valA] at hbc); have hg1 : ¬ w.heap.size = g := (by omega); have hg2 : ¬ b2 = g := (by omega); have hg3 : ¬ b3 = g := (by omega); have HS := Aside0.mk hS; have HUW := Aside0.mk hUW; clear hS hU hB0 hUW hx) | fail)
  have hSn := (HS.out.far (B := w.heap.size) (by omega) 7 (.slice (some ⟨g, 0, none⟩) l.length cap)).set i hi n n
  rw [Nat.mul_comm 2 i] at hSn
  have hUn : Up w (((w1.setCell ⟨w.heap.size, 7, none⟩ (.slice (some ⟨g, 0, none⟩) l.length cap)).setCell ⟨g, i * 2, none⟩ (.int .i64 n)).setCell ⟨g, i * 2 + 1, none⟩ (.int .i64 n)) := ((HUW.out.set _ _ (Nat.le_refl _)).set _ _ (by show _ ≤ g; omega)).set _ _ (by show _ ≤ g; omega)
  refine (stopped_n m _ cap l.length (l.set i ⟨n, n⟩) A2 c2 plan HFI.out (by omega) (by simp) _ (C_ofSps hSn (by simp; omega) _ (by simp)) hcap (C_up HR2.out hUn) hc2).mono ?_
  have HUN := Aside0.mk hUn
  clear hSn hUn hx0 hx1 hfg hbc hbf
  rintro e w2 ⟨rfl, hb⟩
  have hb2 := Aside0.mk (HUN.out.then hb)
  clear hb
  go_wp2_with fail
  go_ret
  exact ⟨rfl, hb2.out⟩
def canP (m : Mill) (l : List Sp) (plan : List Int) (i : Nat) (n : Int) : Bool := stopB m (l.set i ⟨n, n⟩) plan
def upTo (p : Int → Bool) : Nat → Int → Int
  | 0, n => n
  | f + 1, n => if p n then n else upTo p f (n + 1)
def downTo (p : Int → Bool) : Nat → Int → Int
  | 0, n => n
  | f + 1, n => if p n then n else downTo p f (n - 1)
def endsS (m : Mill) (l : List Sp) (plan : List Int) (i : Nat) : Sp := ⟨upTo (canP m l plan i) ((rdS l i).hi - (rdS l i).lo + 1).toNat (rdS l i).lo, downTo (canP m l plan i) ((rdS l i).hi - (rdS l i).lo + 1).toNat (rdS l i).hi⟩
def stoppedL (m : Mill) (l : List Sp) (plan : List Int) : List Sp := (List.range plan.length).map (endsS m l plan)
def stoppedE (m : Mill) (l : List Sp) (plan : List Int) : Int := if openE m l plan 1 = 0 then (if stopB m l plan then 0 else 9) else openE m l plan 1
def stoppedS (m : Mill) (l : List Sp) (plan : List Int) : List Sp := if stoppedE m l plan = 0 then stoppedL m l plan else []
end Go.Proofs.Ytcnlbbmokphjnaa
namespace Go.Proofs.Ytcnlbbmokphjnaa
open Go.RowKit Go.Shelf Go.Proofs.YtcnlbbmokphjnaaW.PrintWords
set_option linter.unusedVariables false
set_option linter.unusedSimpArgs false
def stopT (m : Mill) (plan : List Int) (f : Nat → Int) : Nat → Nat → Int → Prop
  | 0, _, _ => False
  | n + 1, k, w => if n = 0 then min m.ho (w + f k) < rd plan k * m.T else rd plan k * m.T ≤ min m.ho (w + f k) ∧ stopT m plan f n (k + 1) (min m.ho (w + f k) - rd plan k * m.T)
theorem stopT_congr (m : Mill) (plan : List Int) (f g : Nat → Int) : ∀ (n k : Nat) (w : Int), (∀ j, k ≤ j → f j = g j) → (stopT m plan f n k w ↔ stopT m plan g n k w)
  | 0, _, _, _ => Iff.rfl
  | n + 1, k, w, h => by
    have ih := stopT_congr m plan f g n (k + 1) (min m.ho (w + g k) - rd plan k * m.T) (fun j hj => h j (by omega))
    simp only [stopT, h k (Nat.le_refl _), ih]
theorem stopF_iff (m : Mill) (l : List Sp) (plan : List Int) (hl : ∀ j, 0 ≤ (rdS l (j : Nat)).lo ∧ (rdS l (j : Nat)).lo ≤ (rdS l (j : Nat)).hi) : ∀ (n k : Nat) (wl wh : Int), 0 ≤ wl → wl ≤ wh →
    (stopF m l plan n k wl wh = true ↔ ∃ (w : Int) (f : Nat → Int), wl ≤ w ∧ w ≤ wh ∧ (∀ j : Nat, (rdS l j).lo ≤ f j ∧ f j ≤ (rdS l j).hi) ∧ stopT m plan f n k w)
  | 0, k, wl, wh, _, _ => by simp [stopF, stopT]
  | n + 1, k, wl, wh, h0, h1 => by
    have hk := hl k
    by_cases hn : n = 0
    · subst hn
      simp only [stopF, stopT, if_pos trivial, decide_eq_true_eq]
      constructor
      · intro h
        exact ⟨wl, fun j => (rdS l j).lo, by omega, h1, fun j => ⟨Int.le_refl _, (hl j).2⟩, h⟩
      · rintro ⟨w, f, h2, h3, h4, h5⟩
        have := h4 k
        omega
    · simp only [stopF, stopT, if_neg hn]
      generalize rd plan k * m.T = t at *
      by_cases hfh : min m.ho (wh + (rdS l k).hi) < t
      · simp only [if_pos hfh]
        constructor
        · intro h; cases h
        · rintro ⟨w, f, h2, h3, h4, h5, _⟩
          have := h4 k
          omega
      · rw [if_neg hfh, stopF_iff m l plan hl n (k + 1) _ _ (by omega) (by omega)]
        constructor
        · rintro ⟨w', f, h2, h3, h4, h5⟩
          have hy : ∃ w x : Int, wl ≤ w ∧ w ≤ wh ∧ (rdS l k).lo ≤ x ∧ x ≤ (rdS l k).hi ∧ min m.ho (w + x) = w' + t := by
            by_cases hc : wl + (rdS l k).lo ≤ w' + t
            · exact ⟨min wh (w' + t - (rdS l k).lo), w' + t - min wh (w' + t - (rdS l k).lo), by omega, by omega, by omega, by omega, by omega⟩
            · exact ⟨wl, (rdS l k).lo, by omega, h1, by omega, by omega, by omega⟩
          obtain ⟨w, x, h6, h7, h8, h9, h10⟩ := hy
          refine ⟨w, fun j => if j = k then x else f j, h6, h7, fun j => ?_, ?_⟩
          · by_cases e : j = k
            · subst e; simp; omega
            · simp only [if_neg e]; exact h4 j
          · simp only [if_pos trivial, h10]
            refine ⟨by omega, ?_⟩
            rw [show w' + t - t = w' by omega]
            refine (stopT_congr m plan _ f n (k + 1) w' (fun j hj => ?_)).2 h5
            rw [if_neg (by omega)]
        · rintro ⟨w, f, h2, h3, h4, h5, h6⟩
          have := h4 k
          exact ⟨_, f, by omega, by omega, h4, h6⟩
theorem rdS_set (l : List Sp) (i j : Nat) (s : Sp) (hi : i < l.length) : rdS (l.set i s) (j : Nat) = if j = i then s else rdS l (j : Nat) := by
  by_cases e : j = i
  · subst e; simp [rdS, hi]
  · simp [rdS, e, Ne.symm e]
theorem can_ex (m : Mill) (l : List Sp) (plan : List Int) (hnow : 0 ≤ m.nl ∧ m.nl ≤ m.nh) (hl : ∀ s ∈ l, 0 ≤ s.lo ∧ s.lo ≤ s.hi) (h : stopB m l plan = true) (i : Nat) (hi : i < l.length) :
    ∃ n, (rdS l i).lo ≤ n ∧ n ≤ (rdS l i).hi ∧ canP m l plan i n = true := by
  have hl' : ∀ j, 0 ≤ (rdS l (j : Nat)).lo ∧ (rdS l (j : Nat)).lo ≤ (rdS l (j : Nat)).hi := by
    intro j
    by_cases hj : j < l.length
    · rw [rdS_nat l j hj]; exact hl _ (List.getElem_mem _)
    · simp [rdS, List.getD_eq_getElem?_getD, List.getElem?_eq_none (Nat.le_of_not_lt hj), z_Sp]
  obtain ⟨w, f, h1, h2, h3, h4⟩ := (stopF_iff m l plan hl' plan.length 0 m.nl m.nh hnow.1 hnow.2).1 h
  have h5 := h3 i
  have h6 := hl' i
  refine ⟨f i, h5.1, h5.2, ?_⟩
  have hl2 : ∀ j, 0 ≤ (rdS (l.set i ⟨f i, f i⟩) (j : Nat)).lo ∧ (rdS (l.set i ⟨f i, f i⟩) (j : Nat)).lo ≤ (rdS (l.set i ⟨f i, f i⟩) (j : Nat)).hi := by
    intro j
    rw [rdS_set _ _ _ _ hi]
    split
    · simp only; omega
    · exact hl' j
  refine (stopF_iff m _ plan hl2 plan.length 0 m.nl m.nh hnow.1 hnow.2).2 ⟨w, f, h1, h2, fun j => ?_, h4⟩
  rw [rdS_set _ _ _ _ hi]
  split
  · rename_i e; subst e; simp
  · exact h3 j
theorem upTo_spec (p : Int → Bool) : ∀ (f : Nat) (n h : Int), n ≤ h → p h = true → h < n + f → p (upTo p f n) = true ∧ n ≤ upTo p f n ∧ upTo p f n ≤ h ∧ ∀ j, n ≤ j → j < upTo p f n → p j = false
  | 0, n, h, h1, h2, h3 => by omega
  | f + 1, n, h, h1, h2, h3 => by
    unfold upTo
    by_cases hp : p n = true
    · rw [if_pos hp]
      exact ⟨hp, Int.le_refl _, h1, fun j _ _ => by omega⟩
    · rw [if_neg hp]
      have hne : n ≠ h := fun e => hp (e ▸ h2)
      obtain ⟨h4, h5, h6, h7⟩ := upTo_spec p f (n + 1) h (by omega) h2 (by omega)
      refine ⟨h4, by omega, h6, fun j hj1 hj2 => ?_⟩
      by_cases e : j = n
      · subst e; simpa using hp
      · exact h7 j (by omega) hj2
theorem downTo_spec (p : Int → Bool) : ∀ (f : Nat) (n h : Int), h ≤ n → p h = true → n < h + f → p (downTo p f n) = true ∧ downTo p f n ≤ n ∧ h ≤ downTo p f n ∧ ∀ j, j ≤ n → downTo p f n < j → p j = false
  | 0, n, h, h1, h2, h3 => by omega
  | f + 1, n, h, h1, h2, h3 => by
    unfold downTo
    by_cases hp : p n = true
    · rw [if_pos hp]
      exact ⟨hp, Int.le_refl _, h1, fun j _ _ => by omega⟩
    · rw [if_neg hp]
      have hne : n ≠ h := fun e => hp (e ▸ h2)
      obtain ⟨h4, h5, h6, h7⟩ := downTo_spec p f (n - 1) h (by omega) h2 (by omega)
      refine ⟨h4, by omega, h6, fun j hj1 hj2 => ?_⟩
      by_cases e : j = n
      · subst e; simpa using hp
      · exact h7 j (by omega) hj2
end Go.Proofs.Ytcnlbbmokphjnaa
namespace Go.Proofs.Ytcnlbbmokphjnaa
open Go.RowKit Go.Shelf Go.Proofs.YtcnlbbmokphjnaaW.PrintWords
set_option linter.unusedVariables false
set_option linter.unusedSimpArgs false
theorem own_mono {w : World} {base base' e size n : Nat} {v : Value} {xs : List Value} (h : w.ownsRow base e size v n xs) (hb : base' ≤ base) : w.ownsRow base' e size v n xs := by
  refine ⟨h.1, h.2.imp id ?_⟩
  rintro ⟨g, cap, cur, h1, h2, h3⟩
  exact ⟨g, cap, cur, h1, Nat.le_trans hb h2, h3⟩
theorem cellsS_append (a b : List Sp) : cellsS (a ++ b) = cellsS a ++ cellsS b := by
  induction a with
  | nil => rfl
  | cons x a ih => simp [cellsS, ih]
theorem fineB_of {m : Mill} {l : List Sp} {plan : List Int} {least : Int} (h : Valid m l) (hp : planB m l.length plan least = true) : FineB m l plan := by
  obtain ⟨h1, h2⟩ := (planB_iff _ _ _ _).1 hp
  have h3 := h.H
  have h4 := h.now
  have h5 := h.ho
  exact ⟨h.ho, h.T, by omega, fun s hs => by have := h.flow s hs; omega, fun k hk => by have := h2 k hk; omega, by omega⟩
set_option maxRecDepth 100000 in
set_option maxHeartbeats 4000000 in
theorem stoppedF_ (m : Mill) (A : Option Addr) (c : Nat) (l : List Sp) (A2 : Option Addr) (c2 : Nat) (plan : List Int)
    (w : World) (hr : Kd.C kSp w A l.length l) (hc : l.length ≤ c) (hr2 : Kd.C (Kd.int .i64) w A2 plan.length plan) (hc2 : plan.length ≤ c2) :
    Calls Try.prog 45 #[.agg #[.int .i64 m.H, .int .i64 m.T, .int .i64 m.bl, .int .i64 m.bh, .int .i64 m.ho, .int .i64 m.nl, .int .i64 m.nh], .slice A l.length c, .slice A2 plan.length c2] w fun e w' => ∃ v, e = .returned (.tuple #[v, .int .i64 (stoppedE m l plan)]) ∧ w'.ownsRow w.heap.size 23 2 v (stoppedS m l plan).length (cellsS (stoppedS m l plan)) ∧ Up w w' := by
  have HR := Aside0.mk hr
  have HR2 := Aside0.mk hr2
  clear hr hr2
  by_cases h0 : openE m l plan 1 = 0
  · have hv := open_of m l plan _ h0
    have hfb := fineB_of hv.1 hv.2
    have hva := hv.1
    have hlen := hva.len
    have hpl := hfb.len
    have H0 := Aside0.mk h0
    have h00 : (openE m l plan 1 != 0) = false := by simp [h0]
    clear h0 hv
    cases h1 : stopB m l plan
    · have hE : stoppedE m l plan = 9 := by simp [stoppedE, H0.out, h1]
      have HE := Aside0.mk hE
      clear hE
      go_enter Try.func45, Try.ntmps45
      go_wp2_with fail
      (with_reducible refine (openPlan m A c l A2 c2 plan _ _ (C_up HR.out upA) hc (C_up HR2.out upA) hc2).mono ?_)
      rintro e w1 ⟨rfl, hb⟩
      have hbA := Aside0.mk hb
      obtain ⟨hcA, hfA⟩ := hb.old
      have hz := hb.le
      (try simp at hz)
      (try have hz0 : w.heap.size < w1.heap.size := by omega)
      (try have hzb : w.heap.size + 1 < w1.heap.size := by omega)
      (try have hzc : w.heap.size + 2 < w1.heap.size := by omega)
      clear hb
      go_wp2_with (go_at_call 86; (with_reducible refine (stopped_ m A c l A2 c2 plan hfb (by omega) _ (C_up HR.out upA) hc (C_up HR2.out upA) hc2).mono ?_); rintro e w' ⟨rfl, hb⟩; have hbA := Aside0.mk hb; obtain ⟨hcA, hfA⟩ := hb.old; have hz := hb.le; (try simp at hz); (try have hz0 : w.heap.size < w'.heap.size := by omega); (try have hzb : w.heap.size + 1 < w'.heap.size := by omega); (try have hzc : w.heap.size + 2 < w'.heap.size := by omega); skip; clear hb)
      go_ret2
      refine ⟨_, congrArg (fun z => Ending.returned (.tuple #[_, .int .i64 z])) HE.out.symm, ?_, upA⟩
      simp only [stoppedS, HE.out]
      exact own_nil _ _ _ _
    · have hE : stoppedE m l plan = 0 := by simp [stoppedE, H0.out, h1]
      have HE := Aside0.mk hE
      have HST := Aside0.mk h1
      clear hE
      obtain ⟨i0, hi0, hk0, hk1, hk2⟩ := info_parts info_span
      have hu := Try.underlying23
      go_enter Try.func45, Try.ntmps45
      go_wp2_with fail
      (with_reducible refine (openPlan m A c l A2 c2 plan _ _ (C_up HR.out upA) hc (C_up HR2.out upA) hc2).mono ?_)
      rintro e w1 ⟨rfl, hb⟩
      have hbA := Aside0.mk hb
      obtain ⟨hcA, hfA⟩ := hb.old
      have hz := hb.le
      (try simp at hz)
      (try have hz0 : w.heap.size < w1.heap.size := by omega)
      (try have hzb : w.heap.size + 1 < w1.heap.size := by omega)
      (try have hzc : w.heap.size + 2 < w1.heap.size := by omega)
      clear hb
      go_wp2_with (go_at_call 86; (with_reducible refine (stopped_ m A c l A2 c2 plan hfb (by omega) _ (C_up HR.out upA) hc (C_up HR2.out upA) hc2).mono ?_); rintro e w' ⟨rfl, hb⟩; have hbA := Aside0.mk hb; obtain ⟨hcA, hfA⟩ := hb.old; have hz := hb.le; (try simp at hz); (try have hz0 : w.heap.size < w'.heap.size := by omega); (try have hzb : w.heap.size + 1 < w'.heap.size := by omega); (try have hzc : w.heap.size + 2 < w'.heap.size := by omega); have hz1 : w1.heap.size < w'.heap.size := (by omega); clear hb)
      have HW1 : Aside0 (Up w (w1.alloc (.cells #[.int .i64 m.H, .int .i64 m.T, .int .i64 m.bl, .int .i64 m.bh, .int .i64 m.ho, .int .i64 m.nl, .int .i64 m.nh, .slice A l.length c] 98))) := ⟨upA⟩
      have HW2 : Aside0 (w1.cell? ⟨w.heap.size + 1, 0, none⟩ = some (.slice A2 plan.length c2)) := ⟨by simp [*, go_sem]⟩
      go_loopw [6, 30] (fun v6 i wr => ∃ k : Nat, k ≤ plan.length ∧ i = .int .i64 (k : Int) ∧ Aside0 (wr.ownsRow (w1.heap.size + 1) 23 2 v6 k (cellsS ((List.range k).map (endsS m l plan))) ∧ Up (w1.alloc (.cells #[.int .i64 m.H, .int .i64 m.T, .int .i64 m.bl, .int .i64 m.bh, .int .i64 m.ho, .int .i64 m.nl, .int .i64 m.nh, .slice A l.length c] 98)) wr)) (fun _ i _ => plan.length - (intOf i).toNat)
      case atStart => exact ⟨0, Nat.zero_le _, rfl, ⟨own_nil _ _ _ _, upA⟩⟩
      case round =>
        obtain ⟨k, hk, rfl, hJ⟩ := hrel
        rename World => Wk
        have HUW : Aside0 (Up w Wk) := ⟨HW1.out.then hJ.out.2⟩
        have hzB := hJ.out.2.le
        simp only [World.size_alloc] at hzB
        clear hcA hfA
        have hv0 : Wk.cell? ⟨w1.heap.size, 0, none⟩ = some (.int .i64 m.H) ∧ Wk.cell? ⟨w1.heap.size, 1, none⟩ = some (.int .i64 m.T) ∧ Wk.cell? ⟨w1.heap.size, 2, none⟩ = some (.int .i64 m.bl) ∧ Wk.cell? ⟨w1.heap.size, 3, none⟩ = some (.int .i64 m.bh) ∧ Wk.cell? ⟨w1.heap.size, 4, none⟩ = some (.int .i64 m.ho) ∧ Wk.cell? ⟨w1.heap.size, 5, none⟩ = some (.int .i64 m.nl) ∧ Wk.cell? ⟨w1.heap.size, 6, none⟩ = some (.int .i64 m.nh) ∧ Wk.cell? ⟨w1.heap.size, 7, none⟩ = some (.slice A l.length c) := by
          obtain ⟨hcB, hfB⟩ := hJ.out.2.old
          refine ⟨?_, ?_, ?_, ?_, ?_, ?_, ?_, ?_⟩ <;> exact (hcB _ _ (by simp)).trans (by simp [go_sem])
        have hv1 : Wk.cell? ⟨w.heap.size + 1, 0, none⟩ = some (.slice A2 plan.length c2) := hJ.out.2.cell ((Up.alloc (Up.refl w1) _).cell HW2.out)
        by_cases hlt : k < plan.length
        · have hi0' : (0 : Int) ≤ (k : Int) := by omega
          have hi1' : (k : Int) < (l.length : Int) := by omega
          obtain ⟨ad, e, hx0, hx1⟩ := at_Sp (C_up HR.out HUW.out) k (by omega) (by omega)
          cases e
          simp only [Int.toNat_natCast] at hx0 hx1
          have hfl := hva.flow (rdS l k) (by rw [rdS_nat l k (by omega)]; exact List.getElem_mem _)
          obtain ⟨hf1, hf2, hf3⟩ := hfl
          obtain ⟨q, hq1, hq2, hq3⟩ := can_ex m l plan ⟨hva.now.1, hva.now.2.1⟩ (fun s hs => by have := hva.flow s hs; omega) HST.out k (by omega)
          have hup := upTo_spec (canP m l plan k) ((rdS l k).hi - (rdS l k).lo + 1).toNat (rdS l k).lo q hq1 hq3 (by omega)
          have hdn := downTo_spec (canP m l plan k) ((rdS l k).hi - (rdS l k).lo + 1).toNat (rdS l k).hi q hq2 hq3 (by omega)
          have hes : endsS m l plan k = ⟨upTo (canP m l plan k) ((rdS l k).hi - (rdS l k).lo + 1).toNat (rdS l k).lo, downTo (canP m l plan k) ((rdS l k).hi - (rdS l k).lo + 1).toNat (rdS l k).hi⟩ := rfl
          generalize upTo (canP m l plan k) ((rdS l k).hi - (rdS l k).lo + 1).toNat (rdS l k).lo = X at hup hes
          generalize downTo (canP m l plan k) ((rdS l k).hi - (rdS l k).lo + 1).toNat (rdS l k).hi = Y at hdn hes
          have HES := Aside0.mk hes
          have HUP := Aside0.mk hup
          have HDN := Aside0.mk hdn
          obtain ⟨-, hu1, hu2, -⟩ := hup
          obtain ⟨-, hd1, hd2, -⟩ := hdn
          have hcan : ∀ (W : World) (x : Int), Up Wk W → W.cell? ⟨Wk.heap.size, 0, none⟩ = some (.int .i64 (k : Int)) → 0 ≤ x → x ≤ 2000 →
              Calls Try.prog 87 #[.int .i64 x, .pointer (some ⟨w1.heap.size, 0, none⟩), .pointer (some ⟨Wk.heap.size, 0, none⟩), .pointer (some ⟨w.heap.size + 1, 0, none⟩)] W fun e W' => e = .returned (.bool (canP m l plan k x)) ∧ Up W W' := fun W x hW hb hx1 hx2 =>
            can1 m _ c l A2 c2 plan hfb (by omega) (by omega) w1.heap.size Wk.heap.size (w.heap.size + 1) k x ⟨hx1, hx2⟩ (by omega) W (C_up HR.out (HUW.out.then hW)) hc (C_up HR2.out (HUW.out.then hW)) hc2
              ⟨hW.cell hv0.1, hW.cell hv0.2.1, hW.cell hv0.2.2.1, hW.cell hv0.2.2.2.1, hW.cell hv0.2.2.2.2.1, hW.cell hv0.2.2.2.2.2.1, hW.cell hv0.2.2.2.2.2.2.1, hW.cell hv0.2.2.2.2.2.2.2⟩ hb (hW.cell hv1) (by have := hW.le; omega) (World.block_lt_of_cell? _ _ hb) (by have := hW.le; omega)
          have HCAN := Aside0.mk hcan
          clear hcan hes
          have hne1 : ¬ (ad.add (k * 2)).block = Wk.heap.size := by have := World.block_lt_of_cell? _ _ hx0; omega
          have hya := ((Up.refl Wk).alloc (.cells #[.int .i64 (k : Int)] 3)).cell hx0
          have hyb := ((Up.refl Wk).alloc (.cells #[.int .i64 (k : Int)] 3)).cell hx1
          go_wp2_with fail
          have HB1 : Aside0 (Bx ((Wk.alloc (.cells #[.int .i64 (k : Int)] 3)).alloc (.cells #[.int .i64 (rdS l k).lo, .int .i64 (rdS l k).hi] 23)) Wk.heap.size #[.int .i64 (k : Int)] 3 ∧ Bx ((Wk.alloc (.cells #[.int .i64 (k : Int)] 3)).alloc (.cells #[.int .i64 (rdS l k).lo, .int .i64 (rdS l k).hi] 23)) (Wk.heap.size + 1) #[.int .i64 (rdS l k).lo, .int .i64 (rdS l k).hi] 23 ∧ Up Wk ((Wk.alloc (.cells #[.int .i64 (k : Int)] 3)).alloc (.cells #[.int .i64 (rdS l k).lo, .int .i64 (rdS l k).hi] 23))) :=
            ⟨(Bx.new Wk _ _).up ((Up.refl _).alloc _), by have h := Bx.new (Wk.alloc (.cells #[.int .i64 (k : Int)] 3)) #[.int .i64 (rdS l k).lo, .int .i64 (rdS l k).hi] 23; simpa using h, upA⟩
          clear hya hyb hv0 hx0 hx1 hq1 hq2 hq3
          go_loopg [] (X - (rdS l k).lo).toNat (fun kq wr2 => ∃ x : Int, (rdS l k).lo ≤ x ∧ x ≤ X ∧ kq = (X - x).toNat ∧ Aside0 (Bx wr2 Wk.heap.size #[.int .i64 (k : Int)] 3 ∧ Bx wr2 (Wk.heap.size + 1) #[.int .i64 x, .int .i64 (rdS l k).hi] 23 ∧ Up Wk wr2))
          case atStart => exact ⟨(rdS l k).lo, by omega, by omega, rfl, HB1⟩
          case round =>
            obtain ⟨x, hx1, hx2, rfl, hJ2⟩ := hrel
            have hbd := hJ2.out.2.1.cell
            have hbg := hJ2.out.2.1.frozen
            have hbl := hJ2.out.2.1.lt
            have hcl := HCAN.out wr x hJ2.out.2.2 (hJ2.out.1.cell 0) (by omega) (by omega)
            have HCL := Aside0.mk hcl
            clear hcl
            by_cases hxX : x = X
            · subst hxX
              have hpt := HUP.out.1
              go_wp2_with (go_at_call 87; (with_reducible refine (HCL.out).mono ?_); rintro e w' ⟨rfl, hb⟩; have hbA := Aside0.mk hb; obtain ⟨hcA, hfA⟩ := hb.old; have hz := hb.le; (try simp at hz); (try have hz0 : w.heap.size < w'.heap.size := by omega); (try have hzb : w.heap.size + 1 < w'.heap.size := by omega); (try have hzc : w.heap.size + 2 < w'.heap.size := by omega); have hUk : Aside0 (Up Wk w') := ⟨hJ2.out.2.2.then hb⟩; have hBk : Aside0 (Bx w' Wk.heap.size #[.int .i64 (k : Int)] 3 ∧ Bx w' (Wk.heap.size + 1) #[.int .i64 x, .int .i64 (rdS l k).hi] 23) := ⟨hJ2.out.1.up hb, hJ2.out.2.1.up hb⟩; clear hb)
              rename World => W2
              clear hJ2 hbd hbg hbl HCL hpt hcA hfA hbA hz
              go_loopg [] ((rdS l k).hi - Y).toNat (fun kq wr2 => ∃ y : Int, Y ≤ y ∧ y ≤ (rdS l k).hi ∧ kq = (y - Y).toNat ∧ Aside0 (Bx wr2 Wk.heap.size #[.int .i64 (k : Int)] 3 ∧ Bx wr2 (Wk.heap.size + 1) #[.int .i64 x, .int .i64 y] 23 ∧ Up Wk wr2))
              case atStart => exact ⟨(rdS l k).hi, by omega, by omega, rfl, ⟨hBk.out.1, hBk.out.2, hUk.out⟩⟩
              case round =>
                obtain ⟨y, hy1, hy2, rfl, hJ2⟩ := hrel
                have hbd := hJ2.out.2.1.cell
                have hbg := hJ2.out.2.1.frozen
                have hbl := hJ2.out.2.1.lt
                have hcl := HCAN.out wr y hJ2.out.2.2 (hJ2.out.1.cell 0) (by omega) (by omega)
                have HCL := Aside0.mk hcl
                clear hcl
                by_cases hyY : y = Y
                · subst hyY
                  have hpt := HDN.out.1
                  have HO := Aside0.mk hJ.out.1
                  have HUJ := Aside0.mk hJ.out.2
                  go_wp2_with (first | (go_at_call 87; (with_reducible refine (HCL.out).mono ?_); rintro e w' ⟨rfl, hb⟩; have hbA := Aside0.mk hb; obtain ⟨hcA, hfA⟩ := hb.old; have hz := hb.le; (try simp at hz); (try have hz0 : w.heap.size < w'.heap.size := by omega); (try have hzb : w.heap.size + 1 < w'.heap.size := by omega); (try have hzc : w.heap.size + 2 < w'.heap.size := by omega); have hUk3 : Aside0 (Up Wk w') := ⟨hJ2.out.2.2.then hb⟩; have hBk3 : Aside0 (Bx w' (Wk.heap.size + 1) #[.int .i64 x, .int .i64 y] 23) := ⟨hJ2.out.2.1.up hb⟩; have hbe := hBk3.out.cell; clear hb) | (at_builtin; refine wpList_append_lies _ rfl _ _ 26 rfl (w1.heap.size + 1) 23 i0 _ 2 16 Try.underlying26 hi0 hk0 hk1 hk2 rfl (by decide) u6 k (cellsS ((List.range k).map (endsS m l plan))) rfl (own_up (own_up HO.out hUk3.out) ((Up.refl _).alloc _)) ⟨w'.heap.size, 0, none⟩ 1 1 [.int .i64 x, .int .i64 y] rfl rfl ?qc2 ?qc3 (by decide) ?qc4 ?qc5 ?qc6 _ rfl ?_))
                  case qc2 =>
                    intro j u hj
                    rw [add_plain]
                    match j, hj with
                    | 0, hj => simp at hj; subst hj; simp
                    | 1, hj => simp at hj; subst hj; simp
                    | j + 2, hj => simp at hj
                  case qc3 =>
                    intro u hu
                    simp at hu
                    rcases hu with rfl | rfl <;> rfl
                  case qc4 => unfold maxLen; omega
                  case qc5 => omega
                  case qc6 => have := hUk3.out.le; simp; omega
                  intro g6 cap6 w6 hown6 hgrow6 hat6 hlt6
                  have hU6 : Up (w1.alloc (.cells #[.int .i64 m.H, .int .i64 m.T, .int .i64 m.bl, .int .i64 m.bh, .int .i64 m.ho, .int .i64 m.nl, .int .i64 m.nh, .slice (some ad) l.length c] 98)) w6 := Up.app ((HUJ.out.then hUk3.out).alloc _) (own_up (own_up HO.out hUk3.out) ((Up.refl _).alloc _)) hgrow6 (by simp)
                  have hO6 : w6.ownsRow (w1.heap.size + 1) 23 2 (.slice (some ⟨g6, 0, none⟩) (k + 1) cap6) (k + 1) (cellsS ((List.range (k + 1)).map (endsS m l plan))) := by
                    rw [List.range_succ, List.map_append, cellsS_append]
                    simp only [List.map_cons, List.map_nil, HES.out]
                    exact hown6
                  have HU6 := Aside0.mk hU6
                  have HO6 := Aside0.mk hO6
                  clear hU6 hO6 hown6 hgrow6 hat6 hlt6 hbe hBk3 hbd hbg hJ2 hJ
                  go_wp2_with fail
                  go_roundw
                  case rel => exact ⟨k + 1, by omega, by go_num, ⟨HO6.out, HU6.out⟩⟩
                  case measure => simp [intOf]; omega
                · have hpf : canP m l plan k y = false := HDN.out.2.2.2 y (by omega) (by omega)
                  go_wp2_with (go_at_call 87; (with_reducible refine (HCL.out).mono ?_); rintro e w' ⟨rfl, hb⟩; have hbA := Aside0.mk hb; obtain ⟨hcA, hfA⟩ := hb.old; have hz := hb.le; (try simp at hz); (try have hz0 : w.heap.size < w'.heap.size := by omega); (try have hzb : w.heap.size + 1 < w'.heap.size := by omega); (try have hzc : w.heap.size + 2 < w'.heap.size := by omega); have hUk3 : Aside0 (Up Wk w') := ⟨hJ2.out.2.2.then hb⟩; have hBk3 : Aside0 (Bx w' Wk.heap.size #[.int .i64 (k : Int)] 3 ∧ Bx w' (Wk.heap.size + 1) #[.int .i64 x, .int .i64 y] 23) := ⟨hJ2.out.1.up hb, hJ2.out.2.1.up hb⟩; have hbe := hBk3.out.2.cell; have hbh := hBk3.out.2.frozen; clear hb)
                  go_roundg (y - 1 - Y).toNat
                  case measure => omega
                  case rel => exact ⟨y - 1, by omega, by omega, rfl, ⟨hBk3.out.1.far (by omega) _ _, hBk3.out.2.setI 1 _, hUk3.out.set _ _ (by show _ ≤ Wk.heap.size + 1; omega)⟩⟩
            · have hpf : canP m l plan k x = false := HUP.out.2.2.2 x (by omega) (by omega)
              go_wp2_with (go_at_call 87; (with_reducible refine (HCL.out).mono ?_); rintro e w' ⟨rfl, hb⟩; have hbA := Aside0.mk hb; obtain ⟨hcA, hfA⟩ := hb.old; have hz := hb.le; (try simp at hz); (try have hz0 : w.heap.size < w'.heap.size := by omega); (try have hzb : w.heap.size + 1 < w'.heap.size := by omega); (try have hzc : w.heap.size + 2 < w'.heap.size := by omega); have hUk : Aside0 (Up Wk w') := ⟨hJ2.out.2.2.then hb⟩; have hBk : Aside0 (Bx w' Wk.heap.size #[.int .i64 (k : Int)] 3 ∧ Bx w' (Wk.heap.size + 1) #[.int .i64 x, .int .i64 (rdS l k).hi] 23) := ⟨hJ2.out.1.up hb, hJ2.out.2.1.up hb⟩; have hbe := hBk.out.2.cell; have hbh := hBk.out.2.frozen; clear hb)
              go_roundg (X - (x + 1)).toNat
              case measure => omega
              case rel => exact ⟨x + 1, by omega, by omega, rfl, ⟨hBk.out.1.far (by omega) _ _, hBk.out.2.setI 0 _, hUk.out.set _ _ (by show _ ≤ Wk.heap.size + 1; omega)⟩⟩
        · obtain rfl : k = plan.length := by omega
          have HO := Aside0.mk hJ.out.1
          clear hJ
          go_wp2_with fail
          go_ret2
          refine ⟨_, congrArg (fun z => Ending.returned (.tuple #[_, .int .i64 z])) HE.out.symm, ?_, HUW.out⟩
          have h := own_mono HO.out (show w.heap.size ≤ w1.heap.size + 1 by omega)
          simp only [stoppedS, HE.out, if_pos trivial, stoppedL, List.length_map, List.length_range]
          exact h
  · have H0 := Aside0.mk h0
    have h00 : (openE m l plan 1 != 0) = true := by simp [h0]
    have hE : stoppedE m l plan = openE m l plan 1 := by simp [stoppedE, h0]
    have HE := Aside0.mk hE
    clear h0 hE
    go_enter Try.func45, Try.ntmps45
    go_wp2_with fail
    (with_reducible refine (openPlan m A c l A2 c2 plan _ _ (C_up HR.out upA) hc (C_up HR2.out upA) hc2).mono ?_)
    rintro e w1 ⟨rfl, hb⟩
    have hbA := Aside0.mk hb
    obtain ⟨hcA, hfA⟩ := hb.old
    have hz := hb.le
    (try simp at hz)
    (try have hz0 : w.heap.size < w1.heap.size := by omega)
    (try have hzb : w.heap.size + 1 < w1.heap.size := by omega)
    (try have hzc : w.heap.size + 2 < w1.heap.size := by omega)
    clear hb
    go_wp2_with fail
    go_ret2
    refine ⟨_, congrArg (fun z => Ending.returned (.tuple #[_, .int .i64 z])) HE.out.symm, ?_, upA⟩
    simp only [stoppedS, HE.out, if_neg H0.out]
    exact own_nil _ _ _ _
end Go.Proofs.Ytcnlbbmokphjnaa
