/- The walks of this program's functions. No condition. -/
import Derived.Test.YtdlekcdedahbhaaX0
import Derived.Test.YtdlekcdedahbhaaX1
import Derived.Test.YtdlekcdedahbhaaProg
import Derived.Below
import Derived.Deep.Draws
import Derived.Deep.AppendLies
import Derived.Maps.AppendAt
import Derived.OwnWalk
import Derived.Laws.BytesArg
import Derived.Laws.MakeOwn
import Derived.Laws.OwnMore
import Derived.Deep.OwnRows
import Derived.Tactics
import Derived.Lib.ConvBytes
import Derived.Laws.Slices
import Derived.WalkKit
import Derived.KernelRfl
import Derived.RowKit3
import Derived.Deep.LoopGhost
import Derived.Deep.QuietTactic
import Derived.BigQuiet
import Derived.WideLaws
import Derived.Deep.DeepCutAuto
import Derived.Deep.CutBlock
import Derived.Deep.RegionHeld3
import Derived.Laws.Rows
import Derived.Lib.AppendStr
import Derived.ArgAppend
import Derived.Laws.IdiomCopy
import Derived.OrdersHeld
import Derived.Laws.BitsLemmas
import Derived.RowKit
set_option linter.unusedVariables false
set_option linter.unusedSimpArgs false
namespace Go.Proofs.Ytdlekcdedahbhaa
open Go.RowKit Go.Shelf Go.Proofs.YtdlekcdedahbhaaW.PrintWords
set_option linter.unusedVariables false
set_option linter.unusedSimpArgs false
attribute [local go_sem] bi_max2 bi_min2 bi_max_two bi_min_two
theorem idx_Wk_drop (p : Wk → Bool) (l : List Wk) (k : Nat) (h : k < l.length) : idxF p (l.drop k) k = if p (rdWk l k) then (k:Int) else idxF p (l.drop (k+1)) (k+1) := by
 rw [List.drop_eq_getElem_cons h, idxF]; simp [rdWk, List.getD_eq_getElem?_getD, h]
set_option maxRecDepth 100000 in
theorem index_Wk (fv : FuncId) (cap : Array Value) (p : Wk → Bool) (A : Option Addr) (c : Nat) (l : List Wk) (w : World)
  (hr : Kd.C kWk w A l.length l) (hc : l.length ≤ c)
  (hE : ∀ (args : Array Value) (w : World), (callFunc fv args).run Try.prog w = .ok (.enter fv args) w)
  (hf : ∀ x W, Up w W → Calls Try.prog fv (#[.agg #[.int .i64 x.q, .int .i64 x.o, .int .i64 x.l]] ++ cap) W fun e W' => e = .returned (.bool (p x)) ∧ Up W W') :
  Calls Try.prog 87 #[.slice A l.length c, .func (.func fv) #[] cap] w fun e w' => e = .returned (.int .i64 (idxF p l 0)) ∧ Up w w' := by
 have HF := Aside0.mk hf; have HR := Aside0.mk hr; have hm := CF_len hr; clear hf hr; go_enter Try.func87, Try.ntmps87
 go_wp2
 go_loopw [8] (fun i wr => ∃ k : Nat, k ≤ l.length ∧ i = .int .i64 k ∧ Aside0 (idxF p l 0 = idxF p (l.drop k) k) ∧ Aside0 (Up w wr)) (fun i _ => l.length - (intOf i).toNat)
 case atStart => exact ⟨0, Nat.zero_le _, rfl, ⟨rfl⟩, ⟨Up.refl _⟩⟩
 case round =>
  obtain ⟨k, hk, rfl, he, hb⟩ := hrel
  by_cases hlt : k < l.length
  ·obtain ⟨ad, e, hx0, hx1, hx2⟩ := at_Wk (C_up HR.out hb.out) k (by omega) (by omega)
   cases e
   have hu := Try.underlying25; simp only [Int.toNat_natCast] at hx0 hx1 hx2; have hcall := HF.out (rdWk l k) _ hb.out
   cases hp : p (rdWk l k)
   all_goals
    rw [hp] at hcall; have he2 := idx_Wk_drop p l k hlt; rw [hp] at he2; have he3 := Aside0.mk (he.out.trans he2); clear hp he he2; go_wp2_with fail; refine hcall.mono ?_; clear hcall; rintro e w' ⟨rfl, hb'⟩; have hb2 := Aside0.mk (hb.out.then hb'); clear hb' hb; go_wp2
   ·go_roundw
    case rel => exact ⟨k+1, by omega, by go_num, ⟨by simpa using he3.out⟩, hb2⟩
    case measure => simp [intOf]; omega
   ·go_ret
    exact ⟨by rw [he3.out]; rfl, hb2.out⟩
  ·go_wp2
   go_ret
   exact ⟨by rw [he.out, List.drop_eq_nil_of_le (by omega)]; rfl, hb.out⟩
theorem contains_Wk (fv : FuncId) (cap : Array Value) (p : Wk → Bool) (A : Option Addr) (c : Nat) (l : List Wk) (w : World)
  (hr : Kd.C kWk w A l.length l) (hc : l.length ≤ c)
  (hE : ∀ (args : Array Value) (w : World), (callFunc fv args).run Try.prog w = .ok (.enter fv args) w)
  (hf : ∀ x W, Up w W → Calls Try.prog fv (#[.agg #[.int .i64 x.q, .int .i64 x.o, .int .i64 x.l]] ++ cap) W fun e W' => e = .returned (.bool (p x)) ∧ Up W W') :
  Calls Try.prog 66 #[.slice A l.length c, .func (.func fv) #[] cap] w fun e w' => e = .returned (.bool (l.any p)) ∧ Up w w' := by
 have hcall := index_Wk fv cap p A c l w hr hc hE hf; clear hr hf; have HD : Aside0 (decide (0 ≤ idxF p l 0) = l.any p) := ⟨idxF_any p l⟩; clear hE; go_enter Try.func66, Try.ntmps66
 go_wp2_with fail
 refine hcall.mono ?_; clear hcall; rintro e w' ⟨rfl, hb'⟩; have hb2 := Aside0.mk hb'; clear hb'; go_wp2
 go_ret
 exact ⟨ret_bool HD.out, hb2.out⟩
theorem prices1 (x : Wk) (w : World) : Calls Try.prog 67 #[.agg #[.int .i64 x.q, .int .i64 x.o, .int .i64 x.l]] w fun e w' => e = .returned (.bool (!wkB x)) ∧ Up w w' := by
 go_enter Try.func67, Try.ntmps67
 go_wp2_with (go_at_call 59; (with_reducible refine (isJob _ _).mono ?_); rintro e w' ⟨rfl, hb⟩; have hbA := Aside0.mk hb; obtain ⟨hcA, hfA⟩ := hb.old; have hz := hb.le; (try simp at hz); (try have hz0 : w.heap.size < w'.heap.size := by omega); (try have hzb : w.heap.size + 1 < w'.heap.size := by omega); (try have hzc : w.heap.size + 2 < w'.heap.size := by omega); clear hb)
 go_ret
 exact ⟨rfl, upA⟩
theorem containsJob (A : Option Addr) (c : Nat) (l : List Wk) (w : World) (hr : Kd.C kWk w A l.length l) (hc : l.length ≤ c) :
  Calls Try.prog 66 #[.slice A l.length c, .func (.func 67) #[] #[]] w fun e w' => e = .returned (.bool (l.any fun x => !wkB x)) ∧ Up w w' :=
 contains_Wk 67 #[] (fun x => !wkB x) _ _ l _ hr hc (by intro a w; kernel_rfl) (by intro x W hb; exact prices1 _ _)
structure PS where
 m : Int
 s : List Sp
def joinS (s : List Sp) (a b c : Sp) : List Sp := match s with
 | [x, y, z] => [⟨min x.lo a.lo, max x.hi a.hi⟩, ⟨min y.lo b.lo, max y.hi b.hi⟩, ⟨min z.lo c.lo, max z.hi c.hi⟩]
 | _ => [a, b, c]
def psStep (t : Tar) (xs : List Wk) (fs : List Int) (hour pound : Int) (p : PS) : PS :=
 if (clothsL t hour pound xs fs 0 60).2 < (clothsL t hour pound xs fs 0 60).1 then p
 else ⟨p.m + ((clothsL t hour pound xs fs 0 60).2 - (clothsL t hour pound xs fs 0 60).1 + 1), joinS p.s ⟨(clothsL t hour pound xs fs 0 60).1, (clothsL t hour pound xs fs 0 60).2⟩ ⟨hour, hour⟩ ⟨pound, pound⟩⟩
def psIn (t : Tar) (xs : List Wk) (fs : List Int) (hour : Nat) (p : PS) (n : Nat) : PS := (List.range n).foldl (fun p (pound : Nat) => psStep t xs fs hour pound p) p
def psOut (t : Tar) (xs : List Wk) (fs : List Int) (n : Nat) : PS := (List.range n).foldl (fun p (hour : Nat) => psIn t xs fs hour p 61) ⟨0, []⟩
theorem psIn_succ (t xs fs hour p n) : psIn t xs fs hour p (n + 1) = psStep t xs fs hour n (psIn t xs fs hour p n) := by
 simp only [psIn, List.range_succ, List.foldl_append, List.foldl_cons, List.foldl_nil]
theorem psOut_succ (t xs fs n) : psOut t xs fs (n + 1) = psIn t xs fs n (psOut t xs fs n) 61 := by
 simp only [psOut, List.range_succ, List.foldl_append, List.foldl_cons, List.foldl_nil]
def pricesE0 (t : Tar) (xs : List Wk) (fs : List Int) : Int := if tarE t = 0 then (if xs.length > 6 then 5 else if xs.any (fun x => !wkB x) then 3 else if fs.length = xs.length then 0 else 4) else tarE t
def pricesE (t : Tar) (xs : List Wk) (fs : List Int) : Int := if pricesE0 t xs fs = 0 then (if (psOut t xs fs 61).m = 0 then 9 else 0) else pricesE0 t xs fs
def pricesM (t : Tar) (xs : List Wk) (fs : List Int) : Int := if pricesE0 t xs fs = 0 then (psOut t xs fs 61).m else 0
def pricesS (t : Tar) (xs : List Wk) (fs : List Int) : List Sp := if pricesE t xs fs = 0 then (psOut t xs fs 61).s else []
theorem pricesErr (t : Tar) (A : Option Addr) (c : Nat) (xs : List Wk) (A2 : Option Addr) (c2 : Nat) (fs : List Int) (w : World) (hr : Kd.C kWk w A xs.length xs) (hc : xs.length ≤ c)
  (hr2 : Kd.C (Kd.int .i64) w A2 fs.length fs) (hc2 : fs.length ≤ c2) (he : pricesE0 t xs fs ≠ 0) :
  Calls Try.prog 24 #[.agg #[.int .i64 t.c, .int .i64 t.h, .int .i64 t.p, .int .i64 t.l, .int .i64 t.f], .slice A xs.length c, .slice A2 fs.length c2] w fun e w' => e = .returned (.tuple #[.int .i64 0, .slice none 0 0, .int .i64 (pricesE0 t xs fs)]) ∧ Up w w' := by
 have HR := Aside0.mk hr; have hml := CF_len hr; have hml2 := CF_len hr2; clear hr hr2
 by_cases h1 : tarE t = 0
 ·have hb1 : (tarE t != 0) = false := by simp [h1]
  by_cases h2 : xs.length > 6
  ·have hE : pricesE0 t xs fs = 5 := by simp [pricesE0, h1, h2]
   rw [hE]; clear he hE h1; go_enter Try.func24, Try.ntmps24
   go_wp2_with (go_at_call 18; (with_reducible refine (check _ _).mono ?_); rintro e w' ⟨rfl, hb⟩; have hbA := Aside0.mk hb; obtain ⟨hcA, hfA⟩ := hb.old; have hz := hb.le; (try simp at hz); (try have hz0 : w.heap.size < w'.heap.size := by omega); (try have hzb : w.heap.size + 1 < w'.heap.size := by omega); (try have hzc : w.heap.size + 2 < w'.heap.size := by omega); clear hb)
   go_ret3
   exact ⟨rfl, upA⟩
  ·cases h3 : (xs.any fun x => !wkB x)
   ·by_cases h4 : fs.length = xs.length
    ·simp [pricesE0, h1, h2, h3, h4] at he
    ·have hE : pricesE0 t xs fs = 4 := by simp [pricesE0, h1, h2, h3, h4]
     have hb4 : ((fs.length : Int) != (xs.length : Int)) = true := by simp; omega
     rw [hE]; have H3 := Aside0.mk h3; clear he hE h1 h3; go_enter Try.func24, Try.ntmps24
     go_wp2_with (first | (go_at_call 18; (with_reducible refine (check _ _).mono ?_); rintro e w' ⟨rfl, hb⟩; have hbA := Aside0.mk hb; obtain ⟨hcA, hfA⟩ := hb.old; have hz := hb.le; (try simp at hz); (try have hz0 : w.heap.size < w'.heap.size := by omega); (try have hzb : w.heap.size + 1 < w'.heap.size := by omega); (try have hzc : w.heap.size + 2 < w'.heap.size := by omega); clear hb) | (go_at_call 66; (with_reducible refine ((H3.out ▸ containsJob _ _ _ _ (C_up HR.out upA) hc)).mono ?_); rintro e w' ⟨rfl, hb⟩; have hbA := Aside0.mk hb; obtain ⟨hcA, hfA⟩ := hb.old; have hz := hb.le; (try simp at hz); (try have hz0 : w.heap.size < w'.heap.size := by omega); (try have hzb : w.heap.size + 1 < w'.heap.size := by omega); (try have hzc : w.heap.size + 2 < w'.heap.size := by omega); clear hb))
     go_ret3
     exact ⟨rfl, upA⟩
   ·have hE : pricesE0 t xs fs = 3 := by simp [pricesE0, h1, h2, h3]
    rw [hE]; have H3 := Aside0.mk h3; clear he hE h1 h3; go_enter Try.func24, Try.ntmps24
    go_wp2_with (first | (go_at_call 18; (with_reducible refine (check _ _).mono ?_); rintro e w' ⟨rfl, hb⟩; have hbA := Aside0.mk hb; obtain ⟨hcA, hfA⟩ := hb.old; have hz := hb.le; (try simp at hz); (try have hz0 : w.heap.size < w'.heap.size := by omega); (try have hzb : w.heap.size + 1 < w'.heap.size := by omega); (try have hzc : w.heap.size + 2 < w'.heap.size := by omega); clear hb) | (go_at_call 66; (with_reducible refine ((H3.out ▸ containsJob _ _ _ _ (C_up HR.out upA) hc)).mono ?_); rintro e w' ⟨rfl, hb⟩; have hbA := Aside0.mk hb; obtain ⟨hcA, hfA⟩ := hb.old; have hz := hb.le; (try simp at hz); (try have hz0 : w.heap.size < w'.heap.size := by omega); (try have hzb : w.heap.size + 1 < w'.heap.size := by omega); (try have hzc : w.heap.size + 2 < w'.heap.size := by omega); clear hb))
    go_ret3
    exact ⟨rfl, upA⟩
 ·have hb1 : (tarE t != 0) = true := by simp [h1]
  have hE : pricesE0 t xs fs = tarE t := by simp [pricesE0, h1]
  rw [hE]; clear he hE h1; go_enter Try.func24, Try.ntmps24
  go_wp2_with (go_at_call 18; (with_reducible refine (check _ _).mono ?_); rintro e w' ⟨rfl, hb⟩; have hbA := Aside0.mk hb; obtain ⟨hcA, hfA⟩ := hb.old; have hz := hb.le; (try simp at hz); (try have hz0 : w.heap.size < w'.heap.size := by omega); (try have hzb : w.heap.size + 1 < w'.heap.size := by omega); (try have hzc : w.heap.size + 2 < w'.heap.size := by omega); clear hb)
  go_ret3
  exact ⟨rfl, upA⟩
end Go.Proofs.Ytdlekcdedahbhaa
namespace Go.Proofs.Ytdlekcdedahbhaa
open Go.RowKit Go.Shelf Go.Proofs.YtdlekcdedahbhaaW.PrintWords
set_option linter.unusedVariables false
set_option linter.unusedSimpArgs false
attribute [local go_sem] bi_max2 bi_min2 bi_max_two bi_min_two
def encWk (x : Wk) : List Value := [.int .i64 x.q, .int .i64 x.o, .int .i64 x.l]
theorem info_job : (Try.prog.info? 124).map (fun i => (i.zero, i.size, i.bytes)) = some (some (.agg #[.int .i64 0, .int .i64 0, .int .i64 0]), 3, 24) := by kernel_rfl
theorem clothsL_bd (t : Tar) (hour pound : Int) : ∀ (xs : List Wk) (fs : List Int) (lo hi : Int), 0 ≤ lo → hi ≤ 60 → 0 ≤ (clothsL t hour pound xs fs lo hi).1 ∧ (clothsL t hour pound xs fs lo hi).2 ≤ 60
 | [], fs, lo, hi, h0, h1 => by simp [clothsL, h0, h1]
 | x :: xs, [], lo, hi, h0, h1 => by simp [clothsL, h0, h1]
 | x :: xs, f :: fs, lo, hi, h0, h1 => by
  rw [clothsL]
  split
  ·simp
  ·refine clothsL_bd t hour pound xs fs _ _ ?_ ?_
   ·split <;> omega
   ·omega
theorem psStep_bd (t xs fs hour pound) (p : PS) : p.m ≤ (psStep t xs fs hour pound p).m ∧ (psStep t xs fs hour pound p).m ≤ p.m + 61 := by
 have h := clothsL_bd t hour pound xs fs 0 60 (by omega) (by omega)
 unfold psStep
 split
 ·omega
 ·simp only; omega
theorem psIn_bd (t xs fs) (hour : Nat) (p : PS) : ∀ n : Nat, p.m ≤ (psIn t xs fs hour p n).m ∧ (psIn t xs fs hour p n).m ≤ p.m + 61 * n
 | 0 => by simp [psIn]
 | n + 1 => by
  have h1 := psIn_bd t xs fs hour p n; have h2 := psStep_bd t xs fs hour n (psIn t xs fs hour p n); rw [psIn_succ]; omega
theorem psOut_bd (t xs fs) : ∀ n : Nat, 0 ≤ (psOut t xs fs n).m ∧ (psOut t xs fs n).m ≤ 3721 * n
 | 0 => by simp [psOut]
 | n + 1 => by
  have h1 := psOut_bd t xs fs n; have h2 := psIn_bd t xs fs n (psOut t xs fs n) 61; rw [psOut_succ]; omega
def sp6 (x y z : Sp) : Array Value := #[.int .i64 x.lo, .int .i64 x.hi, .int .i64 y.lo, .int .i64 y.hi, .int .i64 z.lo, .int .i64 z.hi]
def joinK (k : Int) (x y z a b c : Sp) : Array Value := sp6 (if 0 < k then ⟨min x.lo a.lo, max x.hi a.hi⟩ else x) (if 1 < k then ⟨min y.lo b.lo, max y.hi b.hi⟩ else y) (if 2 < k then ⟨min z.lo c.lo, max z.hi c.hi⟩ else z)
def PrV (W : World) (base : Nat) (v : Value) (s : List Sp) : Prop := (s = [] ∧ v = .slice none 0 0) ∨ ∃ g x y z, v = .slice (some ⟨g, 0, none⟩) 3 3 ∧ base ≤ g ∧ s = [x, y, z] ∧ Bx W g (sp6 x y z) 44
theorem PrV.up {W W' base v s} (h : PrV W base v s) (hu : Up W W') : PrV W' base v s := by
 rcases h with h | ⟨g, x, y, z, h1, h2, h3, h4⟩
 ·exact .inl h
 ·exact .inr ⟨g, x, y, z, h1, h2, h3, h4.up hu⟩
theorem PrV.own {W base base' v s} (h : PrV W base v s) (hb : base' ≤ base) : W.ownsRow base' 44 2 v s.length (cellsS s) := by
 rcases h with ⟨rfl, rfl⟩ | ⟨g, x, y, z, rfl, h2, rfl, h4⟩
 ·exact ⟨rfl, .inl ⟨rfl, rfl⟩⟩
 ·exact ⟨rfl, .inr ⟨g, 3, _, rfl, by omega, h4, Nat.le_refl _, by decide, rfl, rfl⟩⟩
def pEnd (t : Tar) (xs : List Wk) (fs : List Int) : Int := if (psOut t xs fs 61).m = 0 then 9 else 0
def pSp (t : Tar) (xs : List Wk) (fs : List Int) : List Sp := if (psOut t xs fs 61).m = 0 then [] else (psOut t xs fs 61).s
structure PreP (t : Tar) (xs : List Wk) (fs : List Int) : Prop where
 t : tarB t = true
 n : xs.length ≤ 6
 x : xs.all wkB = true
 f : fs.length = xs.length
theorem preP (t : Tar) (xs : List Wk) (fs : List Int) (h : pricesE0 t xs fs = 0) : PreP t xs fs := by
 unfold pricesE0 at h
 by_cases h1 : tarE t = 0
 ·rw [if_pos h1] at h
  by_cases h2 : xs.length > 6
  ·simp [h2] at h
  ·rw [if_neg h2] at h
   cases h3 : (xs.any fun x => !wkB x)
   ·rw [h3] at h
    by_cases h4 : fs.length = xs.length
    ·refine ⟨(tarE_zero t).1 h1, by omega, ?_, h4⟩
     rw [List.all_eq_true]; intro x hx; have := List.any_eq_false.1 h3 x hx
     simpa using this
    ·simp [h4] at h
   ·rw [h3] at h
    simp at h
 ·rw [if_neg h1] at h
  exact absurd h h1
set_option maxRecDepth 100000 in
set_option maxHeartbeats 4000000 in
theorem pricesOk (t : Tar) (A : Option Addr) (c : Nat) (xs : List Wk) (A2 : Option Addr) (c2 : Nat) (fs : List Int) (w : World) (hr : Kd.C kWk w A xs.length xs) (hc : xs.length ≤ c)
  (hr2 : Kd.C (Kd.int .i64) w A2 fs.length fs) (hc2 : fs.length ≤ c2) (he : pricesE0 t xs fs = 0) :
  Calls Try.prog 24 #[.agg #[.int .i64 t.c, .int .i64 t.h, .int .i64 t.p, .int .i64 t.l, .int .i64 t.f], .slice A xs.length c, .slice A2 fs.length c2] w fun e w' => ∃ v, e = .returned (.tuple #[.int .i64 (psOut t xs fs 61).m, v, .int .i64 (pEnd t xs fs)]) ∧ w'.ownsRow w.heap.size 44 2 v (pSp t xs fs).length (cellsS (pSp t xs fs)) ∧ Up w w' := by
 have HP := Aside0.mk (preP t xs fs he); have HR := Aside0.mk hr; have HR2 := Aside0.mk hr2; have hml := CF_len hr; have hml2 := CF_len hr2; have ht0 : tarE t = 0 := (tarE_zero t).2 HP.out.t
 have hb1 : (tarE t != 0) = false := by simp [ht0]
 have hn6 := HP.out.n
 have hb4 : ((fs.length : Int) != (xs.length : Int)) = false := by simp [HP.out.f]
 have H3 : Aside0 ((xs.any fun x => !wkB x) = false) := ⟨by
  rw [List.any_eq_false]; intro x hx; have := List.all_eq_true.1 HP.out.x x hx
  simp [this]⟩
 clear he hr hr2 ht0; go_enter Try.func24, Try.ntmps24
 go_wp2_with (first | (go_at_call 18; (with_reducible refine (check _ _).mono ?_); rintro e w' ⟨rfl, hb⟩; have hbA := Aside0.mk hb; obtain ⟨hcA, hfA⟩ := hb.old; have hz := hb.le; (try simp at hz); (try have hz0 : w.heap.size < w'.heap.size := by omega); (try have hzb : w.heap.size + 1 < w'.heap.size := by omega); (try have hzc : w.heap.size + 2 < w'.heap.size := by omega); clear hb) | (go_at_call 66; (with_reducible refine ((H3.out ▸ containsJob _ _ _ _ (C_up HR.out upA) hc)).mono ?_); rintro e w' ⟨rfl, hb⟩; have hbA := Aside0.mk hb; obtain ⟨hcA, hfA⟩ := hb.old; have hz := hb.le; (try simp at hz); (try have hz0 : w.heap.size < w'.heap.size := by omega); (try have hzb : w.heap.size + 1 < w'.heap.size := by omega); (try have hzc : w.heap.size + 2 < w'.heap.size := by omega); clear hb))
 have HU0 : Aside0 (Up w w') := ⟨upA⟩
 repeat clear hcA hfA
 obtain ⟨B, hB⟩ : ∃ B, w'.heap.size = B := ⟨_, rfl⟩
 have hBw : w.heap.size ≤ B := by have := HU0.out.le; omega
 rw [hB]
 go_loopw [44] (fun i wr => ∃ (k : Nat) (v : Value), k ≤ xs.length ∧ i = .int .i64 k ∧ Aside0 (Bx wr B #[.int .i64 t.c, .int .i64 t.h, .int .i64 t.p, .int .i64 t.l, .int .i64 t.f, v, .slice A2 fs.length c2] 131) ∧ Aside0 (wr.ownsRow w.heap.size 124 3 v k ((xs.take k).flatMap encWk)) ∧ Aside0 (Up w wr)) (fun i _ => xs.length - (intOf i).toNat)
 case atStart =>
  refine ⟨0, _, Nat.zero_le _, rfl, ⟨?_⟩, ⟨⟨by simp, .inl ⟨rfl, rfl⟩⟩⟩, ⟨HU0.out.alloc _⟩⟩; subst hB; exact Bx.new _ _ _
 case round =>
  obtain ⟨k, v, hk, rfl, hBx, hO, hU⟩ := hrel
  by_cases hlt : k < xs.length
  ·obtain ⟨ad, e, hx0, hx1, hx2⟩ := at_Wk (C_up HR.out hU.out) k (by omega) (by omega)
   subst e; simp only [Int.toNat_natCast] at hx0 hx1 hx2
   have hi0 : (0 : Int) ≤ (k : Int) := by omega
   have hi1 : (k : Int) < (xs.length : Int) := by omega
   have hBz := hBx.out.lt; have hu1 := Try.underlying124; have hu2 := Try.underlying25
   have hq : ∀ (C : Obj) o, (wr.alloc C).cell? ⟨B, o, none⟩ = (#[.int .i64 t.c, .int .i64 t.h, .int .i64 t.p, .int .i64 t.l, .int .i64 t.f, v, .slice A2 fs.length c2] : Array Value)[o]? := fun C o => (hBx.out.up ((Up.refl wr).alloc C)).cell o
   have HO2 := Aside0.mk (own_up hO.out ((Up.refl wr).alloc (.cells #[.int .i64 (rdWk xs k).q, .int .i64 (rdWk xs k).o, .int .i64 (rdWk xs k).l] 25))); have HU2 : Aside0 (Up w (wr.alloc (.cells #[.int .i64 (rdWk xs k).q, .int .i64 (rdWk xs k).o, .int .i64 (rdWk xs k).l] 25))) := ⟨hU.out.alloc _⟩; have HB2 := Aside0.mk (hBx.out.up ((Up.refl wr).alloc (.cells #[.int .i64 (rdWk xs k).q, .int .i64 (rdWk xs k).o, .int .i64 (rdWk xs k).l] 25)))
   go_wp2_with (at_builtin; refine print_append_cells (w0 := w) w.heap.size rfl _ _ 129 124 _ 3 24 rfl Try.underlying129 info_job rfl (by decide) (by decide) v k _ [.int .i64 (rdWk xs k).q, .int .i64 (rdWk xs k).o, .int .i64 (rdWk xs k).l] rfl (by go_simp) rfl ?q1 HO2.out HU2.out HU2.out.le ?q2 ?_)
   case q1 => intro u hu; simp at hu; rcases hu with rfl | rfl | rfl <;> rfl
   case q2 => omega
   intro v1 w1 hown hb1 hgrow hat; obtain ⟨A1, cA, rfl, _, _⟩ := ownF_slice hown; have HB3 := HB2.out.grown HO2.out (by decide) hgrow; have hq1 := HB3.cell; have hf1 := HB3.frozen; have HB3A := Aside0.mk HB3; have HOW := Aside0.mk hown; have HUP : Aside0 (Up w w1) := ⟨hb1⟩; clear hown hb1 hgrow hat HB3 hq hO hU hBx; go_wp2_with fail
   go_roundw
   case rel =>
    refine ⟨k + 1, .slice A1 (k + 1) cA, by omega, by go_num, ⟨?_⟩, ⟨?_⟩, ⟨?_⟩⟩
    ·have := HB3A.out.set 5 (.slice A1 (k + 1) cA)
     simpa using this
    ·have h := own_far HOW.out HB3A.out (by decide) 5 (.slice A1 (k + 1) cA)
     have e : (xs.take (k + 1)).flatMap encWk = (xs.take k).flatMap encWk ++ [.int .i64 (rdWk xs k).q, .int .i64 (rdWk xs k).o, .int .i64 (rdWk xs k).l] := by
      rw [List.take_succ_eq_append_getElem hlt, List.flatMap_append]
      simp [encWk, rdWk, hlt]
     rw [e]; exact h
    ·exact HUP.out.set _ _ hBw
   case measure => simp [intOf]; omega
  ·obtain rfl : k = xs.length := by omega
   have hown := hO.out; rw [List.take_length] at hown; obtain ⟨AJ, cJ, rfl, hcJ, hCJ⟩ := own_Kd kWk encWk kWk_mk (fun _ => rfl) hown hml; have HCJ := Aside0.mk hCJ; clear hown hCJ hO; have hZ := hBx.out.lt; obtain ⟨wj, hwj⟩ : ∃ wj, wj = wr := ⟨_, rfl⟩; rw [← hwj] at HCJ hBx hU hZ; clear HR; go_wp2_with fail
   go_loopw [6, 7, 56] (fun v6 v7 i wr => ∃ (h : Nat) (v : Value), h ≤ 61 ∧ v7 = v ∧ i = .int .i64 h ∧ v6 = .int .i64 (psOut t xs fs h).m ∧ Aside0 (PrV wr wj.heap.size v (psOut t xs fs h).s) ∧ Aside0 (Up wj wr)) (fun _ _ i _ => 61 - (intOf i).toNat)
   case atStart => exact ⟨0, _, by omega, rfl, rfl, rfl, ⟨.inl ⟨rfl, rfl⟩⟩, ⟨by rw [hwj]; exact Up.refl _⟩⟩
   case round =>
    obtain ⟨h, v, hh, rfl, rfl, rfl, hPr, hUj⟩ := hrel; clear hwj
    by_cases hh1 : h < 61
    ·have HSO := Aside0.mk (psOut_succ t xs fs h)
     have hobd := psOut_bd t xs fs h
     have hd0 : decide ((h : Int) < 61) = true := by simp; omega
     go_wp2_with fail
     go_loopw [6, 7, 59] (fun v6 v7 i wr => ∃ (p : Nat) (v : Value), p ≤ 61 ∧ v7 = v ∧ i = .int .i64 p ∧ v6 = .int .i64 (psIn t xs fs h (psOut t xs fs h) p).m ∧ Aside0 (PrV wr wj.heap.size v (psIn t xs fs h (psOut t xs fs h) p).s) ∧ Aside0 (Up wj wr)) (fun _ _ i _ => 61 - (intOf i).toNat)
     case atStart => exact ⟨0, _, by omega, rfl, rfl, rfl, hPr, hUj⟩
     case round =>
      obtain ⟨p, v, hp, rfl, rfl, rfl, hPr, hUj⟩ := hrel
      by_cases hp1 : p < 61
      ·have hq : ∀ o, wr.cell? ⟨B, o, none⟩ = (#[.int .i64 t.c, .int .i64 t.h, .int .i64 t.p, .int .i64 t.l, .int .i64 t.f, .slice AJ xs.length cJ, .slice A2 fs.length c2] : Array Value)[o]? := (hBx.out.up hUj.out).cell
       have hcall := cloths_ t AJ cJ xs A2 c2 fs h p wr (C_up HCJ.out hUj.out) hcJ (C_up HR2.out (hU.out.then hUj.out)) hc2 HP.out.f HP.out.t HP.out.x ⟨by omega, by omega⟩ ⟨by omega, by omega⟩
       have hd1 : decide ((p : Int) < 61) = true := by simp; omega
       have hibd := psIn_bd t xs fs h (psOut t xs fs h) p; have hcb := clothsL_bd t h p xs fs 0 60 (by omega) (by omega); have HSI := Aside0.mk (psIn_succ t xs fs h (psOut t xs fs h) p); have HST : Aside0 (psStep t xs fs h p (psIn t xs fs h (psOut t xs fs h) p) = if (clothsL t h p xs fs 0 60).2 < (clothsL t h p xs fs 0 60).1 then (psIn t xs fs h (psOut t xs fs h) p) else ⟨(psIn t xs fs h (psOut t xs fs h) p).m + ((clothsL t h p xs fs 0 60).2 - (clothsL t h p xs fs 0 60).1 + 1), joinS (psIn t xs fs h (psOut t xs fs h) p).s ⟨(clothsL t h p xs fs 0 60).1, (clothsL t h p xs fs 0 60).2⟩ ⟨h, h⟩ ⟨p, p⟩⟩) := ⟨rfl⟩
       generalize psIn t xs fs h (psOut t xs fs h) p = q at *
       generalize (clothsL t h p xs fs 0 60).1 = lo at *
       generalize (clothsL t h p xs fs 0 60).2 = hi at *
       by_cases hgt : hi < lo
       ·rw [if_pos hgt] at HST
        go_wp2_with fail
        refine hcall.mono ?_; clear hcall; rintro e w' ⟨rfl, hb⟩; have HB := Aside0.mk hb; clear hb; go_wp2_with fail
        go_roundw
        case rel => exact ⟨p + 1, _, by omega, rfl, by go_num, by rw [HSI.out, HST.out], ⟨by rw [HSI.out, HST.out]; exact hPr.out.up HB.out⟩, ⟨hUj.out.then HB.out⟩⟩
        case measure => simp [intOf]; omega
       ·rw [if_neg hgt] at HST
        have hgt2 : lo ≤ hi := by omega
        go_wp2_with fail
        refine hcall.mono ?_; clear hcall; rintro e w' ⟨rfl, hb⟩; have HB := Aside0.mk hb; have hz := hb.le; have hzj := hUj.out.le
        have q36 : ∀ (w : World) (a : Option Addr) (n c n' c' : Nat), (binOp .eql 36 (.slice a n c) (.slice none n' c')).run Try.prog w = .ok (.bool a.isNone) w := fun w a n c n' c' => Lib.run_eql_slice_nil w _ _ a n c n' c' Try.underlying36
        clear hb hq
        rcases hPr.out with ⟨hs0, hv0⟩ | ⟨g, x, y, z, hv0, hg, hs0, hBg⟩
        ·subst hv0
         have HS0 := Aside0.mk hs0; clear hs0; have HN := Aside0.mk (Bx.new w' (sp6 ⟨lo, hi⟩ ⟨h, h⟩ ⟨p, p⟩) 44); obtain ⟨N, hN⟩ : ∃ N, w'.heap.size = N := ⟨_, rfl⟩; rw [hN] at HN
         have hNj : wj.heap.size ≤ N := by omega
         go_wp2_with fail
         go_loopw [93] (fun i wr => ∃ k : Int, 0 ≤ k ∧ k ≤ 3 ∧ i = .int .i64 k ∧ Aside0 (Bx wr N (sp6 ⟨lo, hi⟩ ⟨h, h⟩ ⟨p, p⟩) 44) ∧ Aside0 (Up wj wr)) (fun i _ => (3 - intOf i).toNat)
         case atStart => exact ⟨0, by omega, by omega, rfl, HN, ⟨(hUj.out.then HB.out).alloc _⟩⟩
         case round =>
          obtain ⟨k, hk0, hk3, rfl, hBN, hUN⟩ := hrel
          by_cases hk : k < 3
          ·have hz2 := hBN.out.lt
           have hqN : ∀ o, wr.cell? ⟨N, o, none⟩ = (#[.int .i64 lo, .int .i64 hi, .int .i64 h, .int .i64 h, .int .i64 p, .int .i64 p] : Array Value)[o]? := hBN.out.cell
           have hqC : ∀ (C : Obj) o, (wr.alloc C).cell? ⟨N, o, none⟩ = (#[.int .i64 lo, .int .i64 hi, .int .i64 h, .int .i64 h, .int .i64 p, .int .i64 p] : Array Value)[o]? := fun C o => (hBN.out.up ((Up.refl wr).alloc C)).cell o
           have hfC : ∀ (C : Obj) o, (wr.alloc C).frozen? ⟨N, o, none⟩ = false := fun C o => (hBN.out.up ((Up.refl wr).alloc C)).frozen o
           have hu3 := Try.underlying44
           obtain rfl | rfl | rfl : k = 0 ∨ k = 1 ∨ k = 2 := by omega
           ·skip
            go_wp2_with fail
            have hqa := hqC (.cells #[.int .i64 (lo), .int .i64 (hi)] 44); have hfa := hfC (.cells #[.int .i64 (lo), .int .i64 (hi)] 44)
            have hqs : ∀ o, (wr.alloc (.cells #[.int .i64 (lo), .int .i64 (hi)] 44)).cell? ⟨wr.heap.size, o, none⟩ = (#[.int .i64 (lo), .int .i64 (hi)] : Array Value)[o]? := fun o => by simp [go_sem]
            have hUa : Aside0 (Up wr (wr.alloc (.cells #[.int .i64 (lo), .int .i64 (hi)] 44))) := ⟨(Up.refl wr).alloc _⟩
            generalize wr.alloc (.cells #[.int .i64 (lo), .int .i64 (hi)] 44) = Wa at *
            generalize wr.heap.size = Sz at *
            clear hqC hfC; go_still_tail 20, sqF
            go_wp2_with fail
            go_roundw
            case rel => exact ⟨1, by omega, by omega, rfl, ⟨by have h9 := ((hBN.out.up hUa.out).set 0 (.int .i64 (lo))).set 1 (.int .i64 (hi)); exact (show Bx _ _ (sp6 ⟨lo, hi⟩ ⟨h, h⟩ ⟨p, p⟩) _ from h9).up ((Up.refl _).drew)⟩, ⟨(((hUN.out.then hUa.out).set _ _ hNj).set _ _ hNj).drew⟩⟩
            case measure => simp [intOf]
           ·skip
            go_wp2_with fail
            have hqa := hqC (.cells #[.int .i64 (h), .int .i64 (h)] 44); have hfa := hfC (.cells #[.int .i64 (h), .int .i64 (h)] 44)
            have hqs : ∀ o, (wr.alloc (.cells #[.int .i64 (h), .int .i64 (h)] 44)).cell? ⟨wr.heap.size, o, none⟩ = (#[.int .i64 (h), .int .i64 (h)] : Array Value)[o]? := fun o => by simp [go_sem]
            have hUa : Aside0 (Up wr (wr.alloc (.cells #[.int .i64 (h), .int .i64 (h)] 44))) := ⟨(Up.refl wr).alloc _⟩
            generalize wr.alloc (.cells #[.int .i64 (h), .int .i64 (h)] 44) = Wa at *
            generalize wr.heap.size = Sz at *
            clear hqC hfC; go_still_tail 20, sqF
            go_wp2_with fail
            go_roundw
            case rel => exact ⟨2, by omega, by omega, rfl, ⟨by have h9 := ((hBN.out.up hUa.out).set 2 (.int .i64 (h))).set 3 (.int .i64 (h)); exact (show Bx _ _ (sp6 ⟨lo, hi⟩ ⟨h, h⟩ ⟨p, p⟩) _ from h9).up ((Up.refl _).drew)⟩, ⟨(((hUN.out.then hUa.out).set _ _ hNj).set _ _ hNj).drew⟩⟩
            case measure => simp [intOf]
           ·skip
            go_wp2_with fail
            have hqa := hqC (.cells #[.int .i64 (p), .int .i64 (p)] 44); have hfa := hfC (.cells #[.int .i64 (p), .int .i64 (p)] 44)
            have hqs : ∀ o, (wr.alloc (.cells #[.int .i64 (p), .int .i64 (p)] 44)).cell? ⟨wr.heap.size, o, none⟩ = (#[.int .i64 (p), .int .i64 (p)] : Array Value)[o]? := fun o => by simp [go_sem]
            have hUa : Aside0 (Up wr (wr.alloc (.cells #[.int .i64 (p), .int .i64 (p)] 44))) := ⟨(Up.refl wr).alloc _⟩
            generalize wr.alloc (.cells #[.int .i64 (p), .int .i64 (p)] 44) = Wa at *
            generalize wr.heap.size = Sz at *
            clear hqC hfC; go_still_tail 20, sqF
            go_wp2_with fail
            go_roundw
            case rel => exact ⟨3, by omega, by omega, rfl, ⟨by have h9 := ((hBN.out.up hUa.out).set 4 (.int .i64 (p))).set 5 (.int .i64 (p)); exact (show Bx _ _ (sp6 ⟨lo, hi⟩ ⟨h, h⟩ ⟨p, p⟩) _ from h9).up ((Up.refl _).drew)⟩, ⟨(((hUN.out.then hUa.out).set _ _ hNj).set _ _ hNj).drew⟩⟩
            case measure => simp [intOf]
          ·obtain rfl : k = 3 := by omega
           go_wp2_with fail
           go_roundw
           case rel =>
            refine ⟨p + 1, _, by omega, rfl, by go_num, by rw [HSI.out, HST.out], ⟨?_⟩, hUN⟩; rw [HSI.out, HST.out]; exact .inr ⟨N, ⟨lo, hi⟩, ⟨h, h⟩, ⟨p, p⟩, rfl, hNj, by rw [HS0.out]; rfl, hBN.out⟩
           case measure => simp [intOf]; omega
        ·subst hv0
         have HS0 := Aside0.mk hs0; clear hs0; have HN := Aside0.mk (Bx.new w' (sp6 ⟨lo, hi⟩ ⟨h, h⟩ ⟨p, p⟩) 44); have HG : Aside0 (Bx (w'.alloc (.cells (sp6 ⟨lo, hi⟩ ⟨h, h⟩ ⟨p, p⟩) 44)) g (sp6 x y z) 44) := ⟨(hBg.up HB.out).up ((Up.refl _).alloc _)⟩; have hgl := hBg.lt; obtain ⟨N, hN⟩ : ∃ N, w'.heap.size = N := ⟨_, rfl⟩; rw [hN] at HN
         have hNj : wj.heap.size ≤ N := by omega
         have hNg : N ≠ g := by omega
         clear hBg; go_wp2_with fail
         go_loopw [93] (fun i wr => ∃ k : Int, 0 ≤ k ∧ k ≤ 3 ∧ i = .int .i64 k ∧ Aside0 (Bx wr g (joinK k x y z ⟨lo, hi⟩ ⟨h, h⟩ ⟨p, p⟩) 44) ∧ Aside0 (Bx wr N (sp6 ⟨lo, hi⟩ ⟨h, h⟩ ⟨p, p⟩) 44) ∧ Aside0 (Up wj wr)) (fun i _ => (3 - intOf i).toNat)
         case atStart => exact ⟨0, by omega, by omega, rfl, HG, HN, ⟨(hUj.out.then HB.out).alloc _⟩⟩
         case round =>
          obtain ⟨k, hk0, hk3, rfl, hBG, hBN, hUN⟩ := hrel
          by_cases hk : k < 3
          ·have hz2 := hBN.out.lt
           have hz3 := hBG.out.lt; have hqN : ∀ o, wr.cell? ⟨N, o, none⟩ = (#[.int .i64 lo, .int .i64 hi, .int .i64 h, .int .i64 h, .int .i64 p, .int .i64 p] : Array Value)[o]? := hBN.out.cell; have hu3 := Try.underlying44
           obtain rfl | rfl | rfl : k = 0 ∨ k = 1 ∨ k = 2 := by omega
           ·have hBk : Bx wr g (sp6 x y z) 44 := by have h9 := hBG.out; simpa [joinK] using h9
            have hqC : ∀ (C : Obj) o, (wr.alloc C).cell? ⟨g, o, none⟩ = (#[.int .i64 x.lo, .int .i64 x.hi, .int .i64 y.lo, .int .i64 y.hi, .int .i64 z.lo, .int .i64 z.hi] : Array Value)[o]? := fun C o => (hBk.up ((Up.refl wr).alloc C)).cell o
            have hfC : ∀ (C : Obj) o, (wr.alloc C).frozen? ⟨g, o, none⟩ = false := fun C o => (hBk.up ((Up.refl wr).alloc C)).frozen o
            have HBK := Aside0.mk hBk; clear hBk; go_wp2_with fail; have hqa := hqC (.cells #[.int .i64 (lo), .int .i64 (hi)] 44); have hfa := hfC (.cells #[.int .i64 (lo), .int .i64 (hi)] 44)
            have hqs : ∀ o, (wr.alloc (.cells #[.int .i64 (lo), .int .i64 (hi)] 44)).cell? ⟨wr.heap.size, o, none⟩ = (#[.int .i64 (lo), .int .i64 (hi)] : Array Value)[o]? := fun o => by simp [go_sem]
            have hUa : Aside0 (Up wr (wr.alloc (.cells #[.int .i64 (lo), .int .i64 (hi)] 44))) := ⟨(Up.refl wr).alloc _⟩
            generalize wr.alloc (.cells #[.int .i64 (lo), .int .i64 (hi)] 44) = Wa at *
            generalize wr.heap.size = Sz at *
            clear hqC hfC; go_still_tail 20, sqF
            go_wp2_with fail
            go_roundw
            case rel =>
             have h9 := ((HBK.out.up hUa.out).set 0 (.int .i64 (min x.lo lo))).set 1 (.int .i64 (max x.hi hi))
             have h8 : joinK 1 x y z ⟨lo, hi⟩ ⟨h, h⟩ ⟨p, p⟩ = sp6 ⟨min x.lo lo, max x.hi hi⟩ y z := by simp [joinK]
             refine ⟨1, by omega, by omega, rfl, ⟨by rw [h8]; exact (show Bx _ _ (sp6 ⟨min x.lo lo, max x.hi hi⟩ y z) _ from h9).up ((Up.refl _).drew)⟩, ⟨(((hBN.out.up hUa.out).far hNg _ _).far hNg _ _).up ((Up.refl _).drew)⟩, ⟨(((hUN.out.then hUa.out).set _ _ hg).set _ _ hg).drew⟩⟩
            case measure => simp [intOf]
           ·have hBk : Bx wr g (sp6 ⟨min x.lo lo, max x.hi hi⟩ y z) 44 := by have h9 := hBG.out; simpa [joinK] using h9
            have hqC : ∀ (C : Obj) o, (wr.alloc C).cell? ⟨g, o, none⟩ = (#[.int .i64 (min x.lo lo), .int .i64 (max x.hi hi), .int .i64 y.lo, .int .i64 y.hi, .int .i64 z.lo, .int .i64 z.hi] : Array Value)[o]? := fun C o => (hBk.up ((Up.refl wr).alloc C)).cell o
            have hfC : ∀ (C : Obj) o, (wr.alloc C).frozen? ⟨g, o, none⟩ = false := fun C o => (hBk.up ((Up.refl wr).alloc C)).frozen o
            have HBK := Aside0.mk hBk; clear hBk; go_wp2_with fail; have hqa := hqC (.cells #[.int .i64 (h), .int .i64 (h)] 44); have hfa := hfC (.cells #[.int .i64 (h), .int .i64 (h)] 44)
            have hqs : ∀ o, (wr.alloc (.cells #[.int .i64 (h), .int .i64 (h)] 44)).cell? ⟨wr.heap.size, o, none⟩ = (#[.int .i64 (h), .int .i64 (h)] : Array Value)[o]? := fun o => by simp [go_sem]
            have hUa : Aside0 (Up wr (wr.alloc (.cells #[.int .i64 (h), .int .i64 (h)] 44))) := ⟨(Up.refl wr).alloc _⟩
            generalize wr.alloc (.cells #[.int .i64 (h), .int .i64 (h)] 44) = Wa at *
            generalize wr.heap.size = Sz at *
            clear hqC hfC; go_still_tail 20, sqF
            go_wp2_with fail
            go_roundw
            case rel =>
             have h9 := ((HBK.out.up hUa.out).set 2 (.int .i64 (min y.lo h))).set 3 (.int .i64 (max y.hi h))
             have h8 : joinK 2 x y z ⟨lo, hi⟩ ⟨h, h⟩ ⟨p, p⟩ = sp6 ⟨min x.lo lo, max x.hi hi⟩ ⟨min y.lo h, max y.hi h⟩ z := by simp [joinK]
             refine ⟨2, by omega, by omega, rfl, ⟨by rw [h8]; exact (show Bx _ _ (sp6 ⟨min x.lo lo, max x.hi hi⟩ ⟨min y.lo h, max y.hi h⟩ z) _ from h9).up ((Up.refl _).drew)⟩, ⟨(((hBN.out.up hUa.out).far hNg _ _).far hNg _ _).up ((Up.refl _).drew)⟩, ⟨(((hUN.out.then hUa.out).set _ _ hg).set _ _ hg).drew⟩⟩
            case measure => simp [intOf]
           ·have hBk : Bx wr g (sp6 ⟨min x.lo lo, max x.hi hi⟩ ⟨min y.lo h, max y.hi h⟩ z) 44 := by have h9 := hBG.out; simpa [joinK] using h9
            have hqC : ∀ (C : Obj) o, (wr.alloc C).cell? ⟨g, o, none⟩ = (#[.int .i64 (min x.lo lo), .int .i64 (max x.hi hi), .int .i64 (min y.lo h), .int .i64 (max y.hi h), .int .i64 z.lo, .int .i64 z.hi] : Array Value)[o]? := fun C o => (hBk.up ((Up.refl wr).alloc C)).cell o
            have hfC : ∀ (C : Obj) o, (wr.alloc C).frozen? ⟨g, o, none⟩ = false := fun C o => (hBk.up ((Up.refl wr).alloc C)).frozen o
            have HBK := Aside0.mk hBk; clear hBk; go_wp2_with fail; have hqa := hqC (.cells #[.int .i64 (p), .int .i64 (p)] 44); have hfa := hfC (.cells #[.int .i64 (p), .int .i64 (p)] 44)
            have hqs : ∀ o, (wr.alloc (.cells #[.int .i64 (p), .int .i64 (p)] 44)).cell? ⟨wr.heap.size, o, none⟩ = (#[.int .i64 (p), .int .i64 (p)] : Array Value)[o]? := fun o => by simp [go_sem]
            have hUa : Aside0 (Up wr (wr.alloc (.cells #[.int .i64 (p), .int .i64 (p)] 44))) := ⟨(Up.refl wr).alloc _⟩
            generalize wr.alloc (.cells #[.int .i64 (p), .int .i64 (p)] 44) = Wa at *
            generalize wr.heap.size = Sz at *
            clear hqC hfC; go_still_tail 20, sqF
            go_wp2_with fail
            go_roundw
            case rel =>
             have h9 := ((HBK.out.up hUa.out).set 4 (.int .i64 (min z.lo p))).set 5 (.int .i64 (max z.hi p))
             have h8 : joinK 3 x y z ⟨lo, hi⟩ ⟨h, h⟩ ⟨p, p⟩ = sp6 ⟨min x.lo lo, max x.hi hi⟩ ⟨min y.lo h, max y.hi h⟩ ⟨min z.lo p, max z.hi p⟩ := by simp [joinK]
             refine ⟨3, by omega, by omega, rfl, ⟨by rw [h8]; exact (show Bx _ _ (sp6 ⟨min x.lo lo, max x.hi hi⟩ ⟨min y.lo h, max y.hi h⟩ ⟨min z.lo p, max z.hi p⟩) _ from h9).up ((Up.refl _).drew)⟩, ⟨(((hBN.out.up hUa.out).far hNg _ _).far hNg _ _).up ((Up.refl _).drew)⟩, ⟨(((hUN.out.then hUa.out).set _ _ hg).set _ _ hg).drew⟩⟩
            case measure => simp [intOf]
          ·obtain rfl : k = 3 := by omega
           have hBk : Bx wr g (sp6 ⟨min x.lo lo, max x.hi hi⟩ ⟨min y.lo h, max y.hi h⟩ ⟨min z.lo p, max z.hi p⟩) 44 := by have h9 := hBG.out; simpa [joinK] using h9
           have HBK := Aside0.mk hBk; clear hBk hBG; go_wp2_with fail
           go_roundw
           case rel =>
            refine ⟨p + 1, _, by omega, rfl, by go_num, by rw [HSI.out, HST.out], ⟨?_⟩, hUN⟩; rw [HSI.out, HST.out]; exact .inr ⟨g, _, _, _, rfl, hg, by rw [HS0.out]; rfl, HBK.out⟩
           case measure => simp [intOf]; omega
      ·obtain rfl : p = 61 := by omega
       have hd2 : decide (((61 : Nat) : Int) < 61) = false := by simp
       go_wp2_with fail
       go_roundw
       case rel => exact ⟨h + 1, _, by omega, rfl, by go_num, by rw [HSO.out], ⟨by rw [HSO.out]; exact hPr.out⟩, hUj⟩
       case measure => simp [intOf]; omega
    ·obtain rfl : h = 61 := by omega
     have hd2 : decide (((61 : Nat) : Int) < 61) = false := by simp
     have hzj := hU.out.le
     by_cases hm : (psOut t xs fs 61).m = 0
     ·have hbm : ((psOut t xs fs 61).m == 0) = true := by simp [hm]
      have hE : pEnd t xs fs = 9 := by simp [pEnd, hm]
      have hS : pSp t xs fs = [] := by simp [pSp, hm]
      have HM := Aside0.mk hm; have HE := Aside0.mk hE; have HS := Aside0.mk hS; clear hm hE hS; go_wp2_with fail
      go_ret3
      exact ⟨.slice none 0 0, by simp [HM.out, HE.out], by rw [HS.out]; exact ⟨rfl, .inl ⟨rfl, rfl⟩⟩, hU.out.then hUj.out⟩
     ·have hbm : ((psOut t xs fs 61).m == 0) = false := by simp [hm]
      have hE : pEnd t xs fs = 0 := by simp [pEnd, hm]
      have hS : pSp t xs fs = (psOut t xs fs 61).s := by simp [pSp, hm]
      have HE := Aside0.mk hE; have HS := Aside0.mk hS; clear hm hE hS; go_wp2_with fail
      go_ret3
      exact ⟨_, by simp [HE.out]; rfl, by rw [HS.out]; exact hPr.out.own hzj, hU.out.then hUj.out⟩
end Go.Proofs.Ytdlekcdedahbhaa
namespace Go.Proofs.Ytdlekcdedahbhaa
open Go.RowKit Go.Shelf Go.Proofs.YtdlekcdedahbhaaW.PrintWords
set_option linter.unusedVariables false
theorem prices_ (t : Tar) (A : Option Addr) (c : Nat) (xs : List Wk) (A2 : Option Addr) (c2 : Nat) (fs : List Int) (w : World) (hr : Kd.C kWk w A xs.length xs) (hc : xs.length ≤ c)
  (hr2 : Kd.C (Kd.int .i64) w A2 fs.length fs) (hc2 : fs.length ≤ c2) :
  Calls Try.prog 24 #[.agg #[.int .i64 t.c, .int .i64 t.h, .int .i64 t.p, .int .i64 t.l, .int .i64 t.f], .slice A xs.length c, .slice A2 fs.length c2] w fun e w' => ∃ v, e = .returned (.tuple #[.int .i64 (pricesM t xs fs), v, .int .i64 (pricesE t xs fs)]) ∧ w'.ownsRow w.heap.size 44 2 v (pricesS t xs fs).length (cellsS (pricesS t xs fs)) ∧ Up w w' := by
 by_cases he : pricesE0 t xs fs = 0
 ·refine (pricesOk t A c xs A2 c2 fs w hr hc hr2 hc2 he).mono ?_
  rintro e w' ⟨v, rfl, ho, hu⟩
  have h1 : pricesM t xs fs = (psOut t xs fs 61).m := by simp [pricesM, he]
  have h2 : pricesE t xs fs = pEnd t xs fs := by simp [pricesE, pEnd, he]
  have h3 : pricesS t xs fs = pSp t xs fs := by
   unfold pricesS pSp
   rw [h2]
   unfold pEnd
   by_cases hm : (psOut t xs fs 61).m = 0
   ·simp [hm]
   ·simp [hm]
  rw [h1, h2, h3]; exact ⟨v, rfl, ho, hu⟩
 ·refine (pricesErr t A c xs A2 c2 fs w hr hc hr2 hc2 he).mono ?_
  rintro e w' ⟨rfl, hu⟩
  have h1 : pricesM t xs fs = 0 := by simp [pricesM, he]
  have h2 : pricesE t xs fs = pricesE0 t xs fs := by simp [pricesE, he]
  have h3 : pricesS t xs fs = [] := by
   unfold pricesS
   rw [h2, if_neg he]
  rw [h1, h2, h3]; exact ⟨_, rfl, own_nil _ _ _ _, hu⟩
end Go.Proofs.Ytdlekcdedahbhaa
namespace Go.Proofs.Ytdlekcdedahbhaa
open Go.RowKit Go.Shelf Go.Proofs.YtdlekcdedahbhaaW.PrintWords
set_option linter.unusedVariables false
set_option linter.unusedSimpArgs false
theorem info_int1 : (Try.prog.info? 3).map (fun i => (i.zero, i.size, i.bytes)) = some (some (.int .i64 0), 1, 8) := by kernel_rfl
theorem made6 : madeCells (Value.int .i64 0).cells (Int.toNat 6 * 1) = #[.int .i64 0, .int .i64 0, .int .i64 0, .int .i64 0, .int .i64 0, .int .i64 0] := by
 first | rfl | kernel_rfl | (apply Array.ext_getElem?; intro i; simp [madeCells, Value.cells]; done)
theorem make_ints6 (W : World) : (Instr.makeSlice 35 (.int .i64 6) (.int .i64 6)).run Try.prog W = .ok (.slice (some ⟨W.heap.size, 0, none⟩) 6 6) (W.alloc (.cells #[.int .i64 (z_Acc).a0, .int .i64 (z_Acc).a1, .int .i64 (z_Acc).a2, .int .i64 (z_Acc).a3, .int .i64 (z_Acc).a4, .int .i64 (z_Acc).a5] 3)) := by
 obtain ⟨i0, hi0, hk0, hk1, hk2⟩ := info_parts info_int1; have h := run_make (P := Try.prog) W 35 3 i0 _ Try.underlying35 hi0 hk0 .i64 .i64 6 6 (by omega) (by omega) (by rw [hk2]; omega) (by omega); rw [hk1, made6] at h; exact h
def balR (l : List Ent) : Acc := l.foldl (fun a x => if 0 < x.a then afterA a x else a) z_Acc
theorem balR_take (l : List Ent) (k : Nat) (h : k < l.length) : balR (l.take (k + 1)) = if 0 < (rdEnt l k).a then afterA (balR (l.take k)) (rdEnt l k) else balR (l.take k) := by
 have e : l[k] = rdEnt l k := by simp [rdEnt, h]
 rw [List.take_succ_eq_append_getElem h, balR, List.foldl_append, e]; rfl
theorem balR_bd (l : List Ent) (hl : l.all entB = true) : ∀ k : Nat, k ≤ l.length → AccB (200 * (k : Int)) (balR (l.take k))
 | 0, _ => by simp [balR, AccB, z_Acc]
 | k + 1, h => by
  have h1 := balR_bd l hl k (by omega); have hen := (entB_iff _).1 (List.all_eq_true.1 hl _ (rdEnt_mem l k (by omega) (by omega))); rw [balR_take l k (by omega)]
  split
  ·exact (h1.after (m := 100) (rdEnt l k) (by omega)).mono (by omega)
  ·exact h1.mono (by omega)
theorem at_Ent_lt {w : World} {ad : Addr} {n : Nat} {xs : List Ent} (h : Kd.C kEnt w (some ad) n xs) (i : Nat) (hi : i < n) : (ad.add (i * 3)).block < w.heap.size := by
 obtain ⟨ad2, e, h0, _⟩ := at_Ent h (i : Int) (by omega) (by omega)
 cases e
 exact World.block_lt_of_cell? _ _ h0
set_option maxRecDepth 100000 in
set_option maxHeartbeats 4000000 in
theorem refBal_ (A : Option Addr) (c : Nat) (l : List Ent) (w : World) (hr : Kd.C kEnt w A l.length l) (hc : l.length ≤ c) (hl : l.all entB = true) (hn : l.length ≤ 1000) :
  Calls Try.prog 32 #[.slice A l.length c] w fun e w' => ∃ v, e = .returned v ∧ w'.ownsRow w.heap.size 3 1 v 6 (nums .i64 (accL (balR l))) ∧ Up w w' := by
 have hmk := fun W : World => make_ints6 W
 have HR := Aside0.mk hr; have hm := CF_len hr; have HL := Aside0.mk hl; clear hr hl; go_enter Try.func32, Try.ntmps32
 go_wp2_with fail
 go_loopw [4] (fun i wr => ∃ k : Nat, k ≤ l.length ∧ i = .int .i64 (k : Int) ∧ Aside0 (Bx wr w.heap.size #[.int .i64 (balR (l.take k)).a0, .int .i64 (balR (l.take k)).a1, .int .i64 (balR (l.take k)).a2, .int .i64 (balR (l.take k)).a3, .int .i64 (balR (l.take k)).a4, .int .i64 (balR (l.take k)).a5] 3) ∧ Aside0 (Up w wr)) (fun i _ => l.length - (intOf i).toNat)
 case atStart => exact ⟨0, Nat.zero_le _, rfl, ⟨Bx.new w _ _⟩, ⟨upA⟩⟩
 case round =>
  obtain ⟨k, hk, rfl, hB, hU⟩ := hrel; clear hmk
  by_cases hlt : k < l.length
  ·obtain ⟨ad, e, hx0, hx1, hx2⟩ := at_Ent (C_up HR.out hU.out) k (by omega) (by omega)
   cases e
   simp only [Int.toNat_natCast] at hx0 hx1 hx2
   have hi0 : (0 : Int) ≤ (k : Int) := by omega
   have hi1 : (k : Int) < (l.length : Int) := by omega
   have hT := Aside0.mk (balR_take l k hlt); have hbd := balR_bd l HL.out k (by omega); have hen := (entB_iff _).1 (List.all_eq_true.1 HL.out _ (rdEnt_mem l k (by omega) (by omega))); have hz := hB.out.lt; have hel := at_Ent_lt HR.out k (by omega); have hu := Try.underlying101
   have HRR : Aside0 (∀ W, Up w W → W.cell? (ad.add (k * 3)) = some (.int .i64 (rdEnt l k).f) ∧ W.cell? ⟨(ad.add (k * 3)).block, (ad.add (k * 3)).off + 1, none⟩ = some (.int .i64 (rdEnt l k).t) ∧ W.cell? ⟨(ad.add (k * 3)).block, (ad.add (k * 3)).off + 2, none⟩ = some (.int .i64 (rdEnt l k).a)) := ⟨fun W hW => by
    obtain ⟨ad2, e2, g0, g1, g2⟩ := at_Ent (C_up HR.out hW) k (by omega) (by omega)
    cases e2
    simp only [Int.toNat_natCast] at g0 g1 g2
    exact ⟨g0, g1, g2⟩⟩
   generalize balR (l.take k) = a at *
   generalize rdEnt l k = x at *
   obtain ⟨f, t, d⟩ := x; simp only at hen hx0 hx1 hx2 HRR; obtain ⟨i, rfl⟩ : ∃ i : Nat, f = (i : Int) := ⟨f.toNat, by omega⟩; obtain ⟨j, rfl⟩ : ∃ j : Nat, t = (j : Int) := ⟨t.toNat, by omega⟩; have hb1 := hbd.get (by omega) i; have hB2 := hbd.add i (-d) (m := 1000) (by omega); have hb2 := hB2.get (by omega) j
   have hw1 : IntKind.i64.wrap (a.get i - d) = a.get i + -d := by rw [IntWalk.i64_in _ (by omega)]; omega
   have hw2 : IntKind.i64.wrap ((a.add i (-d)).get j + d) = (a.add i (-d)).get j + d := IntWalk.i64_in _ (by omega)
   have hi6 : (i : Int) < 6 := by omega
   have hj6 : (j : Int) < 6 := by omega
   have hi0' : 0 ≤ (i : Int) := by omega
   have hj0 : 0 ≤ (j : Int) := by omega
   have HB1 := Aside0.mk (ac_get a i (by omega)); have HB2 := Aside0.mk (ac_get (a.add i (-d)) j (by omega)); have HS1 := Aside0.mk (ac_set a i (by omega) (-d)); have HS2 := Aside0.mk (ac_set (a.add i (-d)) j (by omega) d); have hc0 : wr.cell? ⟨w.heap.size, i, none⟩ = some (.int .i64 (a.get i)) := (hB.out.cell i).trans HB1.out; have hf0 := hB.out.frozen; clear hB2 hbd
   by_cases hd : 0 < d
   ·have hdd : decide (d > 0) = true := by simp; omega
    rw [if_pos hd] at hT
    go_wp2_with fail
    go_still_tail 15, sqF
    go_wp2_with fail
    have r0 : Bx ((wr.setCell ⟨w.heap.size, i, none⟩ (.int .i64 (a.get i + -d))).drew) w.heap.size #[.int .i64 (a.add i (-d)).a0, .int .i64 (a.add i (-d)).a1, .int .i64 (a.add i (-d)).a2, .int .i64 (a.add i (-d)).a3, .int .i64 (a.add i (-d)).a4, .int .i64 (a.add i (-d)).a5] 3 := by
     have h9 := (hB.out.set i (.int .i64 (a.get i + -d))).up ((Up.refl _).drew)
     rwa [HS1.out] at h9
    have HU1 : Aside0 (Up w ((wr.setCell ⟨w.heap.size, i, none⟩ (.int .i64 (a.get i + -d))).drew)) := ⟨(hU.out.set _ _ (Nat.le_refl _)).drew⟩; clear hc0 hf0 hx0 hx1 hx2; obtain ⟨hx0, hx1, hx2⟩ := HRR.out _ HU1.out
    generalize ((wr.setCell ⟨w.heap.size, i, none⟩ (.int .i64 (a.get i + -d))).drew) = W1 at *
    have hc0 : W1.cell? ⟨w.heap.size, j, none⟩ = some (.int .i64 ((a.add i (-d)).get j)) := (r0.cell j).trans HB2.out; have hf0 := r0.frozen; have R0 := Aside0.mk r0; clear r0; go_still_tail 15, sqF
    go_wp2_with fail
    have s0 : Bx ((W1.setCell ⟨w.heap.size, j, none⟩ (.int .i64 ((a.add i (-d)).get j + d))).drew) w.heap.size #[.int .i64 ((a.add i (-d)).add j d).a0, .int .i64 ((a.add i (-d)).add j d).a1, .int .i64 ((a.add i (-d)).add j d).a2, .int .i64 ((a.add i (-d)).add j d).a3, .int .i64 ((a.add i (-d)).add j d).a4, .int .i64 ((a.add i (-d)).add j d).a5] 3 := by
     have h9 := (R0.out.set j (.int .i64 ((a.add i (-d)).get j + d))).up ((Up.refl _).drew)
     rwa [HS2.out] at h9
    go_roundw
    case rel =>
     refine ⟨k + 1, by omega, by go_num, ⟨?_⟩, ⟨(HU1.out.set _ _ (Nat.le_refl _)).drew⟩⟩; rw [hT.out]; exact s0
    case measure => simp [intOf]; omega
   ·have hdd : decide (d > 0) = false := by simp; omega
    rw [if_neg hd] at hT
    go_wp2_with fail
    go_roundw
    case rel => exact ⟨k + 1, by omega, by go_num, ⟨by rw [hT.out]; exact hB.out⟩, hU⟩
    case measure => simp [intOf]; omega
  ·obtain rfl : k = l.length := by omega
   have hB2 := hB.out; rw [List.take_length] at hB2; have HB := Aside0.mk hB2; clear hB2; go_wp2_with fail
   go_ret
   exact ⟨_, rfl, ⟨rfl, .inr ⟨w.heap.size, 6, _, rfl, Nat.le_refl _, HB.out, Nat.le_refl _, by decide, rfl, rfl⟩⟩, hU.out⟩
set_option maxRecDepth 100000 in
set_option maxHeartbeats 4000000 in
theorem lawBal_ (A : Option Addr) (c : Nat) (l : List Ent) (w : World) (hr : Kd.C kEnt w A l.length l) (hc : l.length ≤ c) (hl : l.all entB = true) (hn : l.length ≤ 1000) :
  Calls Try.prog 55 #[.slice A l.length c] w fun e w' => ∃ v, e = .returned v ∧ w'.ownsRow w.heap.size 3 1 v 6 (nums .i64 (accL (allA l))) ∧ Up w w' := by
 have hmk := fun W : World => make_ints6 W
 have HR := Aside0.mk hr; have hm := CF_len hr; have HL := Aside0.mk hl; clear hr hl; go_enter Try.func55, Try.ntmps55
 go_wp2_with fail
 go_loopw [4] (fun i wr => ∃ k : Nat, k ≤ l.length ∧ i = .int .i64 (k : Int) ∧ Aside0 (Bx wr w.heap.size #[.int .i64 (allA (l.take k)).a0, .int .i64 (allA (l.take k)).a1, .int .i64 (allA (l.take k)).a2, .int .i64 (allA (l.take k)).a3, .int .i64 (allA (l.take k)).a4, .int .i64 (allA (l.take k)).a5] 3) ∧ Aside0 (Up w wr)) (fun i _ => l.length - (intOf i).toNat)
 case atStart => exact ⟨0, Nat.zero_le _, rfl, ⟨Bx.new w _ _⟩, ⟨upA⟩⟩
 case round =>
  obtain ⟨k, hk, rfl, hB, hU⟩ := hrel; clear hmk
  by_cases hlt : k < l.length
  ·obtain ⟨ad, e, hx0, hx1, hx2⟩ := at_Ent (C_up HR.out hU.out) k (by omega) (by omega)
   cases e
   simp only [Int.toNat_natCast] at hx0 hx1 hx2
   have hi0 : (0 : Int) ≤ (k : Int) := by omega
   have hi1 : (k : Int) < (l.length : Int) := by omega
   have hT := Aside0.mk (allA_take l k hlt); have hbd := allA_bd l HL.out k (by omega); have hen := (entB_iff _).1 (List.all_eq_true.1 HL.out _ (rdEnt_mem l k (by omega) (by omega))); have hz := hB.out.lt; have hel := at_Ent_lt HR.out k (by omega); have hu := Try.underlying101
   have HRR : Aside0 (∀ W, Up w W → W.cell? (ad.add (k * 3)) = some (.int .i64 (rdEnt l k).f) ∧ W.cell? ⟨(ad.add (k * 3)).block, (ad.add (k * 3)).off + 1, none⟩ = some (.int .i64 (rdEnt l k).t) ∧ W.cell? ⟨(ad.add (k * 3)).block, (ad.add (k * 3)).off + 2, none⟩ = some (.int .i64 (rdEnt l k).a)) := ⟨fun W hW => by
    obtain ⟨ad2, e2, g0, g1, g2⟩ := at_Ent (C_up HR.out hW) k (by omega) (by omega)
    cases e2
    simp only [Int.toNat_natCast] at g0 g1 g2
    exact ⟨g0, g1, g2⟩⟩
   generalize allA (l.take k) = a at *
   generalize rdEnt l k = x at *
   obtain ⟨f, t, d⟩ := x; simp only at hen hx0 hx1 hx2 HRR; obtain ⟨i, rfl⟩ : ∃ i : Nat, f = (i : Int) := ⟨f.toNat, by omega⟩; obtain ⟨j, rfl⟩ : ∃ j : Nat, t = (j : Int) := ⟨t.toNat, by omega⟩; have hb1 := hbd.get (by omega) i; have hB2 := hbd.add i (-d) (m := 1000) (by omega); have hb2 := hB2.get (by omega) j
   have hw1 : IntKind.i64.wrap (a.get i - d) = a.get i + -d := by rw [IntWalk.i64_in _ (by omega)]; omega
   have hw2 : IntKind.i64.wrap ((a.add i (-d)).get j + d) = (a.add i (-d)).get j + d := IntWalk.i64_in _ (by omega)
   have hi6 : (i : Int) < 6 := by omega
   have hj6 : (j : Int) < 6 := by omega
   have hi0' : 0 ≤ (i : Int) := by omega
   have hj0 : 0 ≤ (j : Int) := by omega
   have HB1 := Aside0.mk (ac_get a i (by omega)); have HB2 := Aside0.mk (ac_get (a.add i (-d)) j (by omega)); have HS1 := Aside0.mk (ac_set a i (by omega) (-d)); have HS2 := Aside0.mk (ac_set (a.add i (-d)) j (by omega) d); have hc0 : wr.cell? ⟨w.heap.size, i, none⟩ = some (.int .i64 (a.get i)) := (hB.out.cell i).trans HB1.out; have hf0 := hB.out.frozen; clear hB2 hbd; go_wp2_with fail
   go_still_tail 15, sqF
   go_wp2_with fail
   have r0 : Bx ((wr.setCell ⟨w.heap.size, i, none⟩ (.int .i64 (a.get i + -d))).drew) w.heap.size #[.int .i64 (a.add i (-d)).a0, .int .i64 (a.add i (-d)).a1, .int .i64 (a.add i (-d)).a2, .int .i64 (a.add i (-d)).a3, .int .i64 (a.add i (-d)).a4, .int .i64 (a.add i (-d)).a5] 3 := by
    have h9 := (hB.out.set i (.int .i64 (a.get i + -d))).up ((Up.refl _).drew)
    rwa [HS1.out] at h9
   have HU1 : Aside0 (Up w ((wr.setCell ⟨w.heap.size, i, none⟩ (.int .i64 (a.get i + -d))).drew)) := ⟨(hU.out.set _ _ (Nat.le_refl _)).drew⟩; clear hc0 hf0 hx0 hx1 hx2; obtain ⟨hx0, hx1, hx2⟩ := HRR.out _ HU1.out
   generalize ((wr.setCell ⟨w.heap.size, i, none⟩ (.int .i64 (a.get i + -d))).drew) = W1 at *
   have hc0 : W1.cell? ⟨w.heap.size, j, none⟩ = some (.int .i64 ((a.add i (-d)).get j)) := (r0.cell j).trans HB2.out; have hf0 := r0.frozen; have R0 := Aside0.mk r0; clear r0; go_still_tail 15, sqF
   go_wp2_with fail
   have s0 : Bx ((W1.setCell ⟨w.heap.size, j, none⟩ (.int .i64 ((a.add i (-d)).get j + d))).drew) w.heap.size #[.int .i64 ((a.add i (-d)).add j d).a0, .int .i64 ((a.add i (-d)).add j d).a1, .int .i64 ((a.add i (-d)).add j d).a2, .int .i64 ((a.add i (-d)).add j d).a3, .int .i64 ((a.add i (-d)).add j d).a4, .int .i64 ((a.add i (-d)).add j d).a5] 3 := by
    have h9 := (R0.out.set j (.int .i64 ((a.add i (-d)).get j + d))).up ((Up.refl _).drew)
    rwa [HS2.out] at h9
   go_roundw
   case rel =>
    refine ⟨k + 1, by omega, by go_num, ⟨?_⟩, ⟨(HU1.out.set _ _ (Nat.le_refl _)).drew⟩⟩; rw [hT.out]; exact s0
   case measure => simp [intOf]; omega
  ·obtain rfl : k = l.length := by omega
   have hB2 := hB.out; rw [List.take_length] at hB2; have HB := Aside0.mk hB2; clear hB2; go_wp2_with fail
   go_ret
   exact ⟨_, rfl, ⟨rfl, .inr ⟨w.heap.size, 6, _, rfl, Nat.le_refl _, HB.out, Nat.le_refl _, by decide, rfl, rfl⟩⟩, hU.out⟩
end Go.Proofs.Ytdlekcdedahbhaa
namespace Go.Proofs.YtdlekcdedahbhaaW.PrintLast
open Go.Proofs.YtdlekcdedahbhaaW.PrintWords (Aside0)
def needsOf (md : Region.Mode) (o : Oper) : List Nat := (o.after.toList.filter (fun e => Region.binds md e)).map (fun e => e.on)
def clashOf (md : Region.Mode) (ops : Array Oper) (i : Nat) (oi : Oper) : List Nat := (List.range ops.size).filter fun j => !(j == i) && match ops[j]? with
 | some oj => !(oj.after.any (fun e => Region.binds md e && e.on == i) || oi.apart ops oj)
 | none => false
def rtab (md : Region.Mode) (ops : Array Oper) : Bool × List (List Nat × List Nat) := (Region.noSelect ops, (List.range ops.size).map fun i => match ops[i]? with
 | some o => (needsOf md o, clashOf md ops i o)
 | none => ([], []))
def readyAt (T : List (List Nat × List Nat)) (l : List Bool) (i : Nat) : Bool := !l.getD i true && match T[i]? with
 | some r => r.1.all (fun j => l.getD j false)
 | none => false
def readyT (T : List (List Nat × List Nat)) (l : List Bool) : List Nat := (List.range T.length).filter (readyAt T l)
def freeT (T : List (List Nat × List Nat)) (l : List Bool) (i : Nat) : Bool := match T[i]? with
 | some r => r.2.all (fun j => l.getD j true)
 | none => false
def closedT (T : List (List Nat × List Nat)) (l : List Bool) : Bool := (List.range T.length).all fun j => !l.getD j false || match T[j]? with
 | some r => r.1.all (fun k => l.getD k false)
 | none => true
def reachT (T : List (List Nat × List Nat)) (i : Nat) : Nat → Nat → Bool
 | 0, _ => false
 | fuel + 1, d => match T[d]? with
  | some r => r.1.any fun j => j == i || reachT T i fuel j
  | none => false
def lastT (T : List (List Nat × List Nat)) (l : List Bool) (ds : List Nat) (i : Nat) : Bool := ds.all fun d => l.getD d true || reachT T i T.length d
section
variable {md : Region.Mode} {ops : Array Oper} {T : Bool × List (List Nat × List Nat)} {l l' li lj lk : Array Bool} {ds : List Nat} {i j k : Nat}
theorem gd (l : Array Bool) (j : Nat) (b : Bool) : l.getD j b = l.toList.getD j b := by simp [Array.getD_eq_getD_getElem?, List.getD_eq_getElem?_getD]
theorem needs_all (o : Oper) (p : Nat → Bool) : o.after.all (fun e => !Region.binds md e || p e.on) = (needsOf md o).all p := by
 unfold needsOf
 rw [← Array.all_toList]
 induction o.after.toList with
 | nil => rfl
 | cons e r ih =>
  rw [List.all_cons, ih, List.filter_cons]
  cases h : Region.binds md e <;> simp
theorem needs_any (o : Oper) (p : Nat → Bool) : o.after.any (fun e => Region.binds md e && p e.on) = (needsOf md o).any p := by
 unfold needsOf
 rw [← Array.any_toList]
 induction o.after.toList with
 | nil => rfl
 | cons e r ih =>
  rw [List.any_cons, ih, List.filter_cons]
  cases h : Region.binds md e <;> simp
theorem rtab_length : (rtab md ops).2.length = ops.size := by simp [rtab]
theorem rtab_some {o : Oper} (h : ops[i]? = some o) : (rtab md ops).2[i]? = some (needsOf md o, clashOf md ops i o) := by
 have hi := (Array.getElem?_eq_some_iff.1 h).1
 unfold rtab
 rw [List.getElem?_map, List.getElem?_range hi, Option.map_some, h]
theorem rtab_none (h : ops[i]? = none) : (rtab md ops).2[i]? = none := by
 have hi : ops.size ≤ i := Array.getElem?_eq_none_iff.1 h; exact List.getElem?_eq_none (by rw [rtab_length]; exact hi)
theorem readyAt_eq : readyAt (rtab md ops).2 l.toList i = (!l.getD i true && ((ops[i]?).map (·.after.all fun e => !Region.binds md e || l.getD e.on false)).getD false) := by
 unfold readyAt
 rw [gd]
 cases h : ops[i]? with
 | none => rw [rtab_none h]; rfl
 | some o =>
  rw [rtab_some h]; simp only [Option.map_some, Option.getD_some]; rw [← needs_all]; simp only [gd]
theorem ready_eq : Region.ready md ops l = readyT (rtab md ops).2 l.toList := by
 unfold Region.ready readyT
 rw [rtab_length]; refine List.filter_congr (fun i _ => ?_); rw [readyAt_eq]
theorem free_eq : Region.free md ops l i = freeT (rtab md ops).2 l.toList i := by
 unfold Region.free freeT
 cases h : ops[i]? with
 | none => rw [rtab_none h]
 | some oi =>
  rw [rtab_some h]; simp only [clashOf]; rw [List.all_filter]
  congr 1
  funext j
  rw [gd]
  cases hj : ops[j]? with
  | none => cases (j == i) <;> cases (l.toList.getD j true) <;> simp
  | some oj =>
   cases (j == i) <;> cases (l.toList.getD j true) <;> cases (oj.after.any (fun e => Region.binds md e && e.on == i) || oi.apart ops oj) <;> simp_all
theorem closed_eq : Region.closedB md ops l = closedT (rtab md ops).2 l.toList := by
 unfold Region.closedB closedT
 rw [rtab_length]
 congr 1
 funext j
 rw [gd]
 cases h : ops[j]? with
 | none => rw [rtab_none h]
 | some o =>
  rw [rtab_some h]; simp only; rw [← needs_all]; simp only [gd]
theorem reach_eq : ∀ (fuel d : Nat), Region.reachB md ops i fuel d = reachT (rtab md ops).2 i fuel d
 | 0, _ => rfl
 | fuel + 1, d => by
  unfold Region.reachB reachT
  cases h : ops[d]? with
  | none => rw [rtab_none h]
  | some o =>
   rw [rtab_some h]; simp only; rw [← needs_any]
   congr 1
   funext e
   rw [reach_eq fuel]
theorem last_eq : Region.lastB md ops l ds i = lastT (rtab md ops).2 l.toList ds i := by
 unfold Region.lastB lastT
 rw [rtab_length]
 congr 1
 funext d
 rw [gd, reach_eq]
theorem readyAt_mem (h : readyAt T.2 l.toList i = true) (hT : rtab md ops = T) : (Region.ready md ops l).contains i = true := by
 subst hT; rw [ready_eq]
 unfold readyT
 rw [List.contains_iff_mem, List.mem_filter, List.mem_range]; refine ⟨?_, h⟩
 unfold readyAt at h
 rw [Bool.and_eq_true] at h
 cases hq : (rtab md ops).2[i]? with
 | none => rw [hq] at h; simp at h
 | some r => exact (List.getElem?_eq_some_iff.1 hq).1
theorem set_of (h : (l.toList.set i true == l'.toList) = true) : (l.setIfInBounds i true == l') = true := by
 rw [beq_iff_eq] at h ⊢
 apply Array.ext'
 rw [Array.toList_setIfInBounds]; exact h
def anyT (T : Bool × List (List Nat × List Nat)) (l l' : List Bool) (i : Nat) : Bool := T.1 && freeT T.2 l i && readyAt T.2 l i && (l.set i true == l')
theorem any_of (hT : rtab md ops = T) (h : anyT T l.toList l'.toList i = true) : anyB md ops l l' i = true := by
 simp only [anyT, Bool.and_eq_true] at h; obtain ⟨⟨⟨h1, h2⟩, h3⟩, h4⟩ := h; have h5 := readyAt_mem h3 hT; have h6 := set_of h4; subst hT; simp only [anyB, Bool.and_eq_true]; exact ⟨⟨⟨h1, by rw [free_eq]; exact h2⟩, h5⟩, h6⟩
def takeT (T : Bool × List (List Nat × List Nat)) (ds : List Nat) (l l' : List Bool) (i : Nat) : Bool := T.1 && freeT T.2 l i && readyAt T.2 l i && closedT T.2 l && lastT T.2 l ds i && (l.set i true == l')
theorem take_of (hT : rtab md ops = T) (h : takeT T ds l.toList l'.toList i = true) : takeB md ops ds l l' i = true := by
 simp only [takeT, Bool.and_eq_true] at h; obtain ⟨⟨⟨⟨⟨h1, h2⟩, h3⟩, h4⟩, h5⟩, h6⟩ := h; have h7 := readyAt_mem h3 hT; have h8 := set_of h6; subst hT; simp only [takeB, Bool.and_eq_true]; exact ⟨⟨⟨⟨⟨h1, by rw [free_eq]; exact h2⟩, h7⟩, by rw [closed_eq]; exact h4⟩, by rw [last_eq]; exact h5⟩, h8⟩
theorem one_of (hT : rtab md ops = T) (h : (readyT T.2 l.toList == [i] && l.toList.set i true == l'.toList) = true) : readyB md ops l l' i = true := by
 simp only [Bool.and_eq_true] at h; obtain ⟨h1, h2⟩ := h; subst hT; simp only [readyB, Bool.and_eq_true]; exact ⟨by rw [ready_eq]; exact h1, set_of h2⟩
theorem two_of (hT : rtab md ops = T) (h : (readyT T.2 l.toList == [i, j] && l.toList.set i true == li.toList && l.toList.set j true == lj.toList) = true) : (Region.ready md ops l == [i, j] && l.setIfInBounds i true == li && l.setIfInBounds j true == lj) = true := by
 simp only [Bool.and_eq_true] at h ⊢; obtain ⟨⟨h1, h2⟩, h3⟩ := h; subst hT; exact ⟨⟨by rw [ready_eq]; exact h1, set_of h2⟩, set_of h3⟩
theorem three_of (hT : rtab md ops = T) (h : (readyT T.2 l.toList == [i, j, k] && l.toList.set i true == li.toList && l.toList.set j true == lj.toList && l.toList.set k true == lk.toList) = true) :
  (Region.ready md ops l == [i, j, k] && l.setIfInBounds i true == li && l.setIfInBounds j true == lj && l.setIfInBounds k true == lk) = true := by
 simp only [Bool.and_eq_true] at h ⊢; obtain ⟨⟨⟨h1, h2⟩, h3⟩, h4⟩ := h; subst hT; exact ⟨⟨⟨by rw [ready_eq]; exact h1, set_of h2⟩, set_of h3⟩, set_of h4⟩
theorem done_of (hT : rtab md ops = T) (h : (readyT T.2 l.toList == []) = true) : (Region.ready md ops l == []) = true := by
 subst hT; rw [ready_eq]; exact h
def upM (B : List Nat) (d : Nat) : List Nat → Nat
 | [] => 0
 | n :: r => (2 ^ n ||| (if n < d then B.getD n 0 else 0)) ||| upM B d r
def waitsOk (T : List (List Nat × List Nat)) (B : List Nat) : Bool := (List.range T.length).all fun d => match T[d]? with
 | some r => (B.getD d 0 ||| upM B d r.1) == upM B d r.1
 | none => false
theorem upM_bit {B : List Nat} {d i : Nat} : ∀ {ns : List Nat}, (upM B d ns).testBit i = true → ∃ n ∈ ns, n = i ∨ (n < d ∧ (B.getD n 0).testBit i = true)
 | [], h => by simp [upM] at h
 | n :: r, h => by
  unfold upM at h
  rw [Nat.testBit_or, Nat.testBit_or, Bool.or_eq_true, Bool.or_eq_true] at h
  rcases h with (h | h) | h
  ·rw [Nat.testBit_two_pow] at h
   exact ⟨n, List.mem_cons_self, .inl (by simpa using h)⟩
  ·by_cases hn : n < d
   ·rw [if_pos hn] at h
    exact ⟨n, List.mem_cons_self, .inr ⟨hn, h⟩⟩
   ·rw [if_neg hn] at h
    simp at h
  ·obtain ⟨m, hm, h2⟩ := upM_bit h
   exact ⟨m, List.mem_cons_of_mem _ hm, h2⟩
theorem reach_bit {T : List (List Nat × List Nat)} {B : List Nat} (hB : waitsOk T B = true) : ∀ (fuel d : Nat), d < fuel → d < T.length → (B.getD d 0).testBit i = true → reachT T i fuel d = true
 | 0, d, h, _, _ => by omega
 | fuel + 1, d, h, hd, hb => by
  have h1 := List.all_eq_true.1 hB d (List.mem_range.2 hd)
  cases hr : T[d]? with
  | none => rw [hr] at h1; simp at h1
  | some r =>
   rw [hr] at h1; simp only [beq_iff_eq] at h1
   have h2 : (upM B d r.1).testBit i = true := by rw [← h1, Nat.testBit_or, hb, Bool.true_or]
   obtain ⟨n, hn, h3⟩ := upM_bit h2
   unfold reachT
   rw [hr]; simp only; rw [List.any_eq_true]; refine ⟨n, hn, ?_⟩
   rcases h3 with rfl | ⟨h4, h5⟩
   ·simp
   ·rw [reach_bit hB fuel n (by omega) (by omega) h5, Bool.or_true]
def lastW (T : List (List Nat × List Nat)) (B : List Nat) (l : List Bool) (ds : List Nat) (i : Nat) : Bool := ds.all fun d => l.getD d true || (decide (d < T.length) && (B.getD d 0).testBit i)
def takeW (T : Bool × List (List Nat × List Nat)) (B : List Nat) (ds : List Nat) (l l' : List Bool) (i : Nat) : Bool := T.1 && freeT T.2 l i && readyAt T.2 l i && closedT T.2 l && lastW T.2 B l ds i && (l.set i true == l')
theorem take_ofW {B : List Nat} (hT : rtab md ops = T) (hB : waitsOk T.2 B = true) (h : takeW T B ds l.toList l'.toList i = true) : takeB md ops ds l l' i = true := by
 refine take_of hT ?_; simp only [takeW, takeT, Bool.and_eq_true] at h ⊢; obtain ⟨⟨⟨⟨⟨h1, h2⟩, h3⟩, h4⟩, h5⟩, h6⟩ := h; refine ⟨⟨⟨⟨⟨h1, h2⟩, h3⟩, h4⟩, ?_⟩, h6⟩
 unfold lastW at h5
 unfold lastT
 rw [List.all_eq_true] at h5 ⊢; intro d hd; have h7 := h5 d hd; rw [Bool.or_eq_true, Bool.and_eq_true, decide_eq_true_eq] at h7
 rcases h7 with h7 | ⟨h8, h9⟩
 ·rw [h7, Bool.true_or]
 ·rw [reach_bit hB _ d h8 h8 h9, Bool.or_true]
theorem with_tabW {P : Program} {Q : Exit → Act → World → Prop} {S : World → Prop} {n : Nat} {a : Act} {w : World} {B : List Nat} (hT : rtab md ops = T) (hB : waitsOk T.2 B = true) (h : Aside0 (rtab md ops = T) → Aside0 (waitsOk T.2 B = true) → wpAnyLast P md ops Q S ds n l a w) : wpAnyLast P md ops Q S ds n l a w := h ⟨hT⟩ ⟨hB⟩
end
def opsIn : Code → Nat → Option (Array Oper)
 | .region id ops _, k => if id == k then some ops else none
 | .seq a b, k => match opsIn a k with
  | some o => some o
  | none => opsIn b k
 | .cond _ a b, k => match opsIn a k with
  | some o => some o
  | none => opsIn b k
 | .block _ c, k => opsIn c k
 | .loop c, k => opsIn c k
 | .scope c, k => opsIn c k
 | .rangeFunc _ _ a b, k => match opsIn a k with
  | some o => some o
  | none => opsIn b k
 | _, _ => none
def opsOf (f : Func) (k : Nat) : Array Oper := ((f.body.bind fun c => opsIn c k)).getD #[]
end Go.Proofs.YtdlekcdedahbhaaW.PrintLast
namespace Go.Proofs.YtdlekcdedahbhaaW.PrintWords
theorem Reps.one {α : Type} {R : α → List Value → Prop} {ps : List α} {cs : List Value} {p : α} {v : Value} (hp : R p [v]) (h : Reps R 1 ps cs) : Reps R 1 (p :: ps) (v :: cs) := by
 refine ⟨by simp [h.1], fun j q hq => ?_⟩
 cases j with
 | zero =>
  simp only [List.getElem?_cons_zero, Option.some.injEq] at hq; subst hq
  simpa using hp
 | succ j =>
  simp only [List.getElem?_cons_succ] at hq; have h1 := h.2 j q hq
  simpa [Nat.mul_one] using h1
theorem Reps.front {α : Type} {R : α → List Value → Prop} {size : Nat} {ps : List α} {cs c all : List Value} {p : α} (hp : R p c) (hc : c.length = size) (h : Reps R size ps cs) (ha : c ++ cs = all) : Reps R size (p :: ps) all := by
 subst ha; refine ⟨by rw [List.length_append, hc, h.1, List.length_cons, Nat.succ_mul, Nat.add_comm], fun j q hq => ?_⟩
 cases j with
 | zero =>
  simp only [List.getElem?_cons_zero, Option.some.injEq] at hq; subst hq; rw [Nat.zero_mul, List.drop_zero, List.take_append_of_le_length (by omega), List.take_of_length_le (by omega)]; exact hp
 | succ j =>
  simp only [List.getElem?_cons_succ] at hq; have h1 := h.2 j q hq; rw [Nat.succ_mul, List.drop_append, List.drop_of_length_le (by rw [hc]; exact Nat.le_add_left _ _), List.nil_append, hc, Nat.add_sub_cancel]; exact h1
theorem Reps.c2 {α : Type} {R : α → List Value → Prop} {ps : List α} {cs : List Value} {p : α} {va vb : Value} (hp : R p [va, vb]) (h : Reps R 2 ps cs) : Reps R 2 (p :: ps) (va :: vb :: cs) := Reps.front hp rfl h rfl
theorem Reps.c3 {α : Type} {R : α → List Value → Prop} {ps : List α} {cs : List Value} {p : α} {va vb vc : Value} (hp : R p [va, vb, vc]) (h : Reps R 3 ps cs) : Reps R 3 (p :: ps) (va :: vb :: vc :: cs) := Reps.front hp rfl h rfl
theorem Reps.c4 {α : Type} {R : α → List Value → Prop} {ps : List α} {cs : List Value} {p : α} {va vb vc vd : Value} (hp : R p [va, vb, vc, vd]) (h : Reps R 4 ps cs) : Reps R 4 (p :: ps) (va :: vb :: vc :: vd :: cs) := Reps.front hp rfl h rfl
theorem Reps.c5 {α : Type} {R : α → List Value → Prop} {ps : List α} {cs : List Value} {p : α} {va vb vc vd ve : Value} (hp : R p [va, vb, vc, vd, ve]) (h : Reps R 5 ps cs) : Reps R 5 (p :: ps) (va :: vb :: vc :: vd :: ve :: cs) := Reps.front hp rfl h rfl
theorem Reps.c6 {α : Type} {R : α → List Value → Prop} {ps : List α} {cs : List Value} {p : α} {va vb vc vd ve vf : Value} (hp : R p [va, vb, vc, vd, ve, vf]) (h : Reps R 6 ps cs) : Reps R 6 (p :: ps) (va :: vb :: vc :: vd :: ve :: vf :: cs) := Reps.front hp rfl h rfl
theorem Reps.c7 {α : Type} {R : α → List Value → Prop} {ps : List α} {cs : List Value} {p : α} {va vb vc vd ve vf vg : Value} (hp : R p [va, vb, vc, vd, ve, vf, vg]) (h : Reps R 7 ps cs) : Reps R 7 (p :: ps) (va :: vb :: vc :: vd :: ve :: vf :: vg :: cs) := Reps.front hp rfl h rfl
theorem Reps.c8 {α : Type} {R : α → List Value → Prop} {ps : List α} {cs : List Value} {p : α} {va vb vc vd ve vf vg vh : Value} (hp : R p [va, vb, vc, vd, ve, vf, vg, vh]) (h : Reps R 8 ps cs) : Reps R 8 (p :: ps) (va :: vb :: vc :: vd :: ve :: vf :: vg :: vh :: cs) := Reps.front hp rfl h rfl
theorem Reps.c9 {α : Type} {R : α → List Value → Prop} {ps : List α} {cs : List Value} {p : α} {va vb vc vd ve vf vg vh vi : Value} (hp : R p [va, vb, vc, vd, ve, vf, vg, vh, vi]) (h : Reps R 9 ps cs) : Reps R 9 (p :: ps) (va :: vb :: vc :: vd :: ve :: vf :: vg :: vh :: vi :: cs) := Reps.front hp rfl h rfl
theorem Reps.c10 {α : Type} {R : α → List Value → Prop} {ps : List α} {cs : List Value} {p : α} {va vb vc vd ve vf vg vh vi vj : Value} (hp : R p [va, vb, vc, vd, ve, vf, vg, vh, vi, vj]) (h : Reps R 10 ps cs) : Reps R 10 (p :: ps) (va :: vb :: vc :: vd :: ve :: vf :: vg :: vh :: vi :: vj :: cs) := Reps.front hp rfl h rfl
end Go.Proofs.YtdlekcdedahbhaaW.PrintWords
namespace Go.Proofs.YtdlekcdedahbhaaW.PrintLast
def up (b : Nat → Bool) (i : Nat) : Nat → Bool := fun j => if j = i then true else b j
section
variable {P : Program} {ops : Array Oper} {Q : Exit → Act → World → Prop} {md : Region.Mode} {T : Bool × List (List Nat × List Nat)} {B : List Nat} {O : List Nat} {b : Nat → Bool} {i j n : Nat}
end
end Go.Proofs.YtdlekcdedahbhaaW.PrintLast
namespace Go.Proofs.YtdlekcdedahbhaaW.PrintWords
open Go.RowKit
section
variable {P : Program} {ops : Array Oper} {rest : List Oper} {o : Oper} {a : Act} {Q : Exit → Act → World → Prop} {W : World}
theorem gate_guard (hw : Region.wanted o (yielded ops a.tmps) = true) (h : wpList P ops Q ({ o with guard := none } :: rest) a W) : wpList P ops Q (o :: rest) a W := by
 have h1 : Region.wanted { o with guard := none } (yielded ops a.tmps) = true := rfl
 unfold wpList at h ⊢
 rw [if_pos h1] at h; rw [if_pos hw]; exact h
end
end Go.Proofs.YtdlekcdedahbhaaW.PrintWords
namespace Go.Proofs.Ytdlekcdedahbhaa.D
open Go.RowKit Go.Proofs.YtdlekcdedahbhaaW.PrintWords Go.Proofs.YtdlekcdedahbhaaW.PrintLast Go.Proofs.YtdlekcdedahbhaaW.PrintMore
attribute [local go_sem] max2_int min2_int max_two min_two max_three min_three max_four min_four   -- for this text's walks alone
set_option linter.unusedVariables false
set_option linter.unusedSimpArgs false
def errW : Option Int → Value
 | none => .nilIface
 | some c => .iface 0 (.int .i64 c)
theorem errW_none : errW none = .nilIface := rfl
theorem errW_some (c : Int) : errW (some c) = .iface 0 (.int .i64 c) := rfl
theorem info3 : (Try.prog.info? 3).map (fun i => (i.zero, i.size, i.bytes)) = some (some (.int .i64 0), 1, 8) := by kernel_rfl
theorem info101 : (Try.prog.info? 101).map (fun i => (i.zero, i.size, i.bytes)) = some (some (.agg #[(.int .i64 0), (.int .i64 0), (.int .i64 0)]), 3, 24) := by kernel_rfl
structure S101 where
 f0 : Int
 f1 : Int
 f2 : Int
def z101 : S101 := ⟨(0 : Int), (0 : Int), (0 : Int)⟩
def k101 : Kd S101 := Kd.iso (Kd.pair (Kd.int .i64) (Kd.pair (Kd.int .i64) (Kd.int .i64))) (fun x : S101 => (x.f0, x.f1, x.f2))
theorem k101_open {w : World} {x : S101} {cs : List Value} (h : k101.K w x cs) : cs = [.int .i64 x.f0, .int .i64 x.f1, .int .i64 x.f2] := by
 obtain ⟨_, _, rfl, rfl, ⟨_, _, rfl, rfl, rfl⟩⟩ := h; exact rfl
theorem k101_openM {w : World} {base : Nat} {ok : Nat → Prop} {x : S101} {cs : List Value} (h : k101.M w base ok x cs) : cs = [.int .i64 x.f0, .int .i64 x.f1, .int .i64 x.f2] := by
 obtain ⟨_, _, rfl, rfl, ⟨_, _, rfl, rfl, rfl⟩⟩ := h; exact rfl
theorem k101_mk (w : World) (x : S101)  : k101.K w x [.int .i64 x.f0, .int .i64 x.f1, .int .i64 x.f2] := ⟨[.int .i64 x.f0], [.int .i64 x.f1, .int .i64 x.f2], rfl, rfl, ⟨[.int .i64 x.f1], [.int .i64 x.f2], rfl, rfl, rfl⟩⟩
theorem k101_mkM (w : World) (base : Nat) (ok : Nat → Prop) (x : S101)  : k101.M w base ok x [.int .i64 x.f0, .int .i64 x.f1, .int .i64 x.f2] := ⟨[.int .i64 x.f0], [.int .i64 x.f1, .int .i64 x.f2], rfl, rfl, ⟨[.int .i64 x.f1], [.int .i64 x.f2], rfl, rfl, rfl⟩⟩
def rd_T101 (xs : List S101) (i : Int) : S101 := xs.getD i.toNat z101
theorem at_T101 {w : World} {A : Option Addr} {n : Nat} {xs : List S101} (h : Kd.C k101 w A n xs) (i : Int) (h0 : 0 ≤ i) (h1 : i < n) : ∃ ad , A = some ad ∧ w.cell? (ad.add (i.toNat * 3)) = some (.int .i64 (rd_T101 xs i).f0) ∧ w.cell? ⟨(ad.add (i.toNat * 3)).block, (ad.add (i.toNat * 3)).off + 1, none⟩ = some (.int .i64 (rd_T101 xs i).f1) ∧ w.cell? ⟨(ad.add (i.toNat * 3)).block, (ad.add (i.toNat * 3)).off + 2, none⟩ = some (.int .i64 (rd_T101 xs i).f2) := by
 obtain ⟨ad, c, e, _, hK, hc0⟩ := Kd.C_get h z101 i h0 h1; have hc : ∀ j u, c[j]? = some u → w.cell? (ad.add (i.toNat * 3 + j)) = some u := hc0; obtain rfl := k101_open hK; exact ⟨ad, e, hc 0 _ rfl, by rw [← add_field _ _ 1 (by omega)]; exact hc 1 _ rfl, by rw [← add_field _ _ 2 (by omega)]; exact hc 2 _ rfl⟩
end Go.Proofs.Ytdlekcdedahbhaa.D
namespace Go.Proofs.Ytdlekcdedahbhaa.D
open Go.RowKit Go.Proofs.YtdlekcdedahbhaaW.PrintWords Go.Proofs.YtdlekcdedahbhaaW.PrintLast Go.Proofs.YtdlekcdedahbhaaW.PrintMore
attribute [local go_sem] max2_int min2_int max_two min_two max_three min_three max_four min_four   -- for this text's walks alone
set_option linter.unusedVariables false
set_option linter.unusedSimpArgs false
def fee_within.f (a0 : Int) (a1 : Int) (l2 : List Int) : Option (Bool) := some (inB a0 a1 l2)
theorem fee_within.calls (a0 : Int) (a1 : Int) (A2 : Option Addr) (c2 : Nat) (l2 : List Int) (r : Bool) (w : World) (hr2 : Kd.C (Kd.int .i64) w A2 l2.length l2) (hc2 : l2.length ≤ c2) (h : fee_within.f a0 a1 l2 = some r) :
  Calls Try.prog 58 #[.int .i64 a0, .int .i64 a1, .slice A2 l2.length c2] w fun e w' => e = .returned (.bool r) ∧ Below w.heap.size w w' := by
 simp only [fee_within.f, Option.some.injEq] at h; obtain rfl := h; exact within a0 a1 A2 c2 _ l2 w rfl hr2 hc2
end Go.Proofs.Ytdlekcdedahbhaa.D
namespace Go.Proofs.Ytdlekcdedahbhaa.D
open Go.RowKit Go.Proofs.YtdlekcdedahbhaaW.PrintWords Go.Proofs.YtdlekcdedahbhaaW.PrintLast Go.Proofs.YtdlekcdedahbhaaW.PrintMore
attribute [local go_sem] max2_int min2_int max_two min_two max_three min_three max_four min_four   -- for this text's walks alone
set_option linter.unusedVariables false
set_option linter.unusedSimpArgs false
mutual
def fee_Dividend.l0 : Nat → List Int → Int → Int → List Int → Int → Int → Option (List Int × Int × Int)
 | 0, _, _, _, _, _, _ => none
 | k + 1, x0, x1, x7, x29, x30, x31 => if x31 < x30 then (if 0 ≤ x31 then (if x31 < (x29.length : Int) then (fee_Dividend.l0 k x0 x1 (wrap64 (x7 + (rd x29 x31))) x29 x30 (wrap64 (x31 + 1))) else (none)) else (none)) else (fee_Dividend.l1 k x1 ([] : List Int) x1 x7 x0 (x0.length : Int) 0)
def fee_Dividend.l1 : Nat → Int → List Int → Int → Int → List Int → Int → Int → Option (List Int × Int × Int)
 | 0, _, _, _, _, _, _, _ => none
 | k + 1, x1, x4, x5, x7, x40, x41, x42 => if x42 < x41 then (if 0 ≤ x42 then (if x42 < (x40.length : Int) then (if x7 = 0 then (none) else (if x4.length < 17592186044416 then (fee_Dividend.l1 k x1 (x4 ++ [wrap64 (Int.tdiv (wrap64 (x1 * (rd x40 x42))) x7)]) (wrap64 (x5 - (wrap64 (Int.tdiv (wrap64 (x1 * (rd x40 x42))) x7)))) x7 x40 x41 (wrap64 (x42 + 1))) else (none))) else (none)) else (none)) else (some (x4, x5, 0))
end
def fee_Dividend.f (k : Nat) (l0 : List Int) (a1 : Int) : Option (List Int × Int × Int) := if (l0.length : Int) > 6 then (some (([] : List Int), 0, 5)) else (if (l0.length : Int) = 0 then (some (([] : List Int), 0, 7)) else ((fee_within.f 1 1000 l0).bind fun t101 => (if t101 = true then ((fee_within.f (-100000) 100000 (([a1] : List Int))).bind fun t105 => (if t105 = true then (fee_Dividend.l0 k l0 a1 0 l0 (l0.length : Int) 0) else (some (([] : List Int), 0, 3)))) else (some (([] : List Int), 0, 2)))))
set_option maxHeartbeats 8000000 in
set_option maxRecDepth 100000 in
theorem fee_Dividend.calls (k : Nat) (A0 : Option Addr) (c0 : Nat) (l0 : List Int) (a1 : Int) (r1 : List Int) (r2 : Int) (r3 : Int) (w : World) (hr0 : Kd.C (Kd.int .i64) w A0 l0.length l0) (hc0 : l0.length ≤ c0) (h : fee_Dividend.f k l0 a1 = some (r1, r2, r3)) :
  Calls Try.prog 45 #[.slice A0 l0.length c0, .int .i64 a1] w fun e w' => ∃ v0_ : Value, e = .returned (.tuple #[v0_, .int .i64 r2, .int .i64 r3]) ∧ Kd.R (Kd.int .i64) 3 w' w.heap.size (fun _ => True) v0_ r1 ∧ Below w.heap.size w w' := by
 have HR0 := Aside0.mk hr0; have HC0 := Aside0.mk hc0; clear hr0 hc0; have HB := Aside0.mk (Below.refl w.heap.size w); have H : (if (l0.length : Int) > 6 then (some (([] : List Int), 0, 5)) else (if (l0.length : Int) = 0 then (some (([] : List Int), 0, 7)) else ((fee_within.f 1 1000 l0).bind fun t101 => (if t101 = true then ((fee_within.f (-100000) 100000 (([a1] : List Int))).bind fun t105 => (if t105 = true then (fee_Dividend.l0 k l0 a1 0 l0 (l0.length : Int) 0) else (some (([] : List Int), 0, 3)))) else (some (([] : List Int), 0, 2)))))) = some (r1, r2, r3) := h; clear h
 by_cases c3 : (l0.length : Int) > 6
 ·rw [if_pos c3] at H
  have c3b0 : decide (6 < (l0.length : Int)) = true := decide_eq_true c3; have c3b1 : decide (6 < l0.length) = true := decide_eq_true (by omega); clear c3; simp only [Option.some.injEq, Prod.mk.injEq] at H; obtain ⟨rfl, rfl, rfl⟩ := H
  go_enter Try.func45, Try.ntmps45
  go_wp2
  go_ret3
  exact ⟨_, by first | rfl | (simp [errW_none, errW_some] <;> rfl) | (simp [*, errW_none, errW_some] <;> rfl), by first | exact Kd.R_nil _ _ _ _ _ | exact Kd.N_nil _ _ _ _ _ | exact Kd.V_nil _ _ _ _ _ | exact Kd.Q_nil _ _ _ _ _ | exact Kd.S_nil _ _ _ _ _, sqB HB⟩
 ·rw [if_neg c3] at H
  have c3b0 : decide (6 < (l0.length : Int)) = false := decide_eq_false c3; have c3b1 : decide (6 < l0.length) = false := decide_eq_false (by omega); clear c3
  by_cases c4 : (l0.length : Int) = 0
  ·rw [if_pos c4] at H
   have c4b0 : ((l0.length : Int) == 0) = true := beq_iff_eq.mpr c4; have c4b1 : ((l0.length : Int) != 0) = false := bne_eq_false_iff_eq.mpr c4; clear c4; simp only [Option.some.injEq, Prod.mk.injEq] at H; obtain ⟨rfl, rfl, rfl⟩ := H
   go_enter Try.func45, Try.ntmps45
   go_wp2
   go_ret3
   exact ⟨_, by first | rfl | (simp [errW_none, errW_some] <;> rfl) | (simp [*, errW_none, errW_some] <;> rfl), by first | exact Kd.R_nil _ _ _ _ _ | exact Kd.N_nil _ _ _ _ _ | exact Kd.V_nil _ _ _ _ _ | exact Kd.Q_nil _ _ _ _ _ | exact Kd.S_nil _ _ _ _ _, sqB HB⟩
  ·rw [if_neg c4] at H
   have c4b0 : ((l0.length : Int) == 0) = false := beq_eq_false_iff_ne.mpr c4; have c4b1 : ((l0.length : Int) != 0) = true := bne_iff_ne.mpr c4
   have c4b2 : ¬ (l0 = []) := fun h_ => c4 (by rw [h_]; rfl)
   obtain ⟨t101, A50, H⟩ := Option.bind_eq_some_iff.mp H; have A5 := Aside0.mk A50; clear A50
   by_cases c6 : t101 = true
   ·subst c6
    rw [if_pos rfl] at H; replace H : ∃ y_ : List Int, y_ = (([a1] : List Int)) ∧ ((fee_within.f (-100000) 100000 y_).bind fun t105 => (if t105 = true then (fee_Dividend.l0 k l0 a1 0 l0 (l0.length : Int) 0) else (some (([] : List Int), 0, 3)))) = some (r1, r2, r3) := ⟨_, rfl, sqJ H⟩; obtain ⟨y102, hy102, H⟩ := H; have Ny102 := Aside0.mk hy102; clear hy102; obtain ⟨t105, A70, H⟩ := Option.bind_eq_some_iff.mp H; have A7 := Aside0.mk A70; clear A70
    by_cases c8 : t105 = true
    ·subst c8
     rw [if_pos rfl] at H; have H' := Aside0.mk H; clear H; go_enter Try.func45, Try.ntmps45
     go_wp2_with (first | ((with_reducible refine gate_callee (f := 58) rfl ?_); refine goesL_ (some 22) rfl rfl Try.func58 sqF rfl #[.int .i64 1, .int .i64 1000, .slice A0 l0.length c0] rfl sqM ?_; (with_reducible refine (fee_within.calls 1 1000 _ _ l0 true _ ?side1 ?side2 A5.out).mono ?_); (case side1 => repeat (first | exact HR0.out | (with_reducible refine Kd.C_alloc ?_ _) | (with_reducible refine Kd.C_drewN ?_ _) | (with_reducible refine Kd.C_drew ?_))); (case side2 => exact HC0.out); rintro e w9 ⟨rfl, hb⟩; refine ⟨_, rfl, ?_⟩; replace HB := sqb hb HB; (try clear hb); (try clear hb2); (try clear hk); (try clear hi)) | ((with_reducible refine gate_dst (N := 26) rfl ?_); refine Kd.R_lit (Kd.int .i64) _ 3 ?hg (N := 26) ?hd (xs := ([a1] : List Int)) (inner := [.int .i64 a1]) (ok := fun _ => True) (okp := fun _ => True) ?hr ?hp (fun _ hk => hk) trivial (Below.refl _ _) (Nat.le_refl _) (by simp) ?_; (case hd => rfl); (case hg => rfl); (case hr => first | (go_simp; done) | (go_simp; rfl)); (case hp => exact (Reps.one (show Kd.M (Kd.int .i64) _ _ _ a1 [.int .i64 a1] from rfl) (Reps.none _ _))); intro v103 w10 ho11 hb hg_ hnew_; clear hg_ hnew_; (first | rw [← Ny102.out] at ho11 | (simp only [Int.reduceToNat] at ho11; rw [← Ny102.out] at ho11)); have HO104 := Aside0.mk (Kd.R_lower ho11 (below_size (sqB HB))); replace HB := sqb hb HB; clear hb ho11; obtain ⟨Ao12, co12, eo12⟩ := Kd.R_slice HO104.out; subst eo12) | ((with_reducible refine gate_callee (f := 58) rfl ?_); refine goesL_ (some 27) rfl rfl Try.func58 sqF rfl #[.int .i64 (-100000), .int .i64 100000, .slice Ao12 y102.length co12] rfl sqM ?_; (with_reducible refine (fee_within.calls (-100000) 100000 _ _ y102 true _ ?side1 ?side2 A7.out).mono ?_); (case side1 => repeat (first | exact (Kd.R_reads' HO104.out).2.2 | (with_reducible refine Kd.C_alloc ?_ _) | (with_reducible refine Kd.C_drewN ?_ _) | (with_reducible refine Kd.C_drew ?_))); (case side2 => exact (Kd.R_reads' HO104.out).2.1); rintro e w13 ⟨rfl, hb⟩; refine ⟨_, rfl, ?_⟩; replace HO104 := Aside0.mk (Kd.R_below (sqR HO104) hb); replace HB := sqb hb HB; (try clear hb); (try clear hb2); (try clear hk); (try clear hi)))
     go_loopg [7, 31] k (fun kq v7 v31 w' => ∃ (x7_1 : Int) (x31_1 : Int), v7 = .int .i64 x7_1 ∧ v31 = .int .i64 x31_1 ∧ Aside0 (fee_Dividend.l0 kq l0 a1 x7_1 l0 (l0.length : Int) x31_1 = some (r1, r2, r3)) ∧ Aside0 (kq ≤ k) ∧ Aside0 (Below w.heap.size w w'))
     case atStart => exact ⟨(0), (0), sqE, sqE, H', ⟨Nat.le_refl _⟩, ⟨sqB HB⟩⟩
     case round =>
      clear H'; try clear c3b0
      (try clear c3b1); (try clear c4); (try clear c4b0); (try clear c4b1); (try clear c4b2); (try clear c6); (try clear c8); obtain ⟨x7_1, x31_1, rfl, rfl, HA, HK1, HB⟩ := hrel
      cases gk with
      | zero => exact absurd HA.out (by simp [fee_Dividend.l0])
      | succ k1 =>
       have H := HA.out; clear HA; simp only [fee_Dividend.l0] at H
       by_cases c14 : x31_1 < (l0.length : Int)
       ·rw [if_pos c14] at H
        have c14b0 : decide (x31_1 < (l0.length : Int)) = true := decide_eq_true c14; clear c14
        by_cases c15 : 0 ≤ x31_1
        ·rw [if_pos c15] at H
         have c15b0 : decide (0 ≤ x31_1) = true := decide_eq_true c15; clear c15
         by_cases c16 : x31_1 < (l0.length : Int)
         ·rw [if_pos c16] at H
          have c16b0 : decide (x31_1 < (l0.length : Int)) = true := decide_eq_true c16; clear c16; have H' := Aside0.mk H; clear H; have p106 : 0 ≤ (x31_1 : Int) := sqD; have q106 : x31_1 < (l0.length : Int) := sqD; obtain ⟨ad106, e106, hx106_0⟩ := Kd.at_int HR0.out x31_1 p106 q106
          cases e106
          replace hx106_0 := (HB.out.cell (World.block_lt_of_cell? w _ hx106_0)).trans hx106_0; replace p106 := eq_true p106; replace q106 := eq_true q106
          go_wp2
          go_roundg k1
          case measure => have := HK1.out; omega
          case rel => exact ⟨(wrap64 (x7_1 + (rd l0 x31_1))), (wrap64 (x31_1 + 1)), sqE, sqE, H', ⟨by have := HK1.out; omega⟩, ⟨sqB HB⟩⟩
         ·rw [if_neg c16] at H
          exact absurd H (by simp)
        ·rw [if_neg c15] at H
         exact absurd H (by simp)
       ·rw [if_neg c14] at H
        have c14b0 : decide (x31_1 < (l0.length : Int)) = false := decide_eq_false c14; clear c14; have H' := Aside0.mk H; clear H; go_wp2
        go_loopg [4, 5, 42] k1 (fun kq v4 v5 v42 w' => ∃ (x4_2 : List Int) (x5_2 : Int) (x42_2 : Int), v5 = .int .i64 x5_2 ∧ v42 = .int .i64 x42_2 ∧ Aside0 (fee_Dividend.l1 kq a1 x4_2 x5_2 x7_1 l0 (l0.length : Int) x42_2 = some (r1, r2, r3)) ∧ Aside0 (kq ≤ k1) ∧ Aside0 (Kd.R (Kd.int .i64) 3 w' w.heap.size (fun _ => True) v4 x4_2) ∧ Aside0 (Below w.heap.size w w'))
        case atStart => exact ⟨(([] : List Int)), (a1), (0), sqE, sqE, H', ⟨Nat.le_refl _⟩, ⟨by first | exact Kd.R_nil _ _ _ _ _ | exact Kd.N_nil _ _ _ _ _ | exact Kd.V_nil _ _ _ _ _ | exact Kd.Q_nil _ _ _ _ _ | exact Kd.S_nil _ _ _ _ _⟩, ⟨sqB HB⟩⟩
        case round =>
         clear H'; try clear c14b0
         obtain ⟨x4_2, x5_2, x42_2, rfl, rfl, HA, HK2, HO_4, HB⟩ := hrel
         cases gk with
         | zero => exact absurd HA.out (by simp [fee_Dividend.l1])
         | succ k2 =>
          have H := HA.out; clear HA; simp only [fee_Dividend.l1] at H
          by_cases c17 : x42_2 < (l0.length : Int)
          ·rw [if_pos c17] at H
           have c17b0 : decide (x42_2 < (l0.length : Int)) = true := decide_eq_true c17; clear c17
           by_cases c18 : 0 ≤ x42_2
           ·rw [if_pos c18] at H
            have c18b0 : decide (0 ≤ x42_2) = true := decide_eq_true c18; clear c18
            by_cases c19 : x42_2 < (l0.length : Int)
            ·rw [if_pos c19] at H
             have c19b0 : decide (x42_2 < (l0.length : Int)) = true := decide_eq_true c19; clear c19
             by_cases c20 : x7_1 = 0
             ·rw [if_pos c20] at H
              exact absurd H (by simp)
             ·rw [if_neg c20] at H
              have c20b0 : (x7_1 == 0) = false := beq_eq_false_iff_ne.mpr c20; have c20b1 : (x7_1 != 0) = true := bne_iff_ne.mpr c20
              by_cases c21 : x4_2.length < 17592186044416
              ·rw [if_pos c21] at H
               have LMc21 := Aside0.mk c21; clear c21; replace H : ∃ y_ : List Int, y_ = (x4_2 ++ [wrap64 (Int.tdiv (wrap64 (a1 * (rd l0 x42_2))) x7_1)]) ∧ (fee_Dividend.l1 k2 a1 y_ (wrap64 (x5_2 - (wrap64 (Int.tdiv (wrap64 (a1 * (rd l0 x42_2))) x7_1)))) x7_1 l0 (l0.length : Int) (wrap64 (x42_2 + 1))) = some (r1, r2, r3) := ⟨_, rfl, sqJ H⟩; obtain ⟨y108, hy108, H⟩ := H; have Ny108 := Aside0.mk hy108; clear hy108; have H' := Aside0.mk H; clear H; have p107 : 0 ≤ (x42_2 : Int) := sqD; have q107 : x42_2 < (l0.length : Int) := sqD; obtain ⟨ad107, e107, hx107_0⟩ := Kd.at_int HR0.out x42_2 p107 q107
               cases e107
               replace hx107_0 := (HB.out.cell (World.block_lt_of_cell? w _ hx107_0)).trans hx107_0; replace p107 := eq_true p107; replace q107 := eq_true q107
               go_wp2_with (first | ((with_reducible refine gate_builtin (b := .append) (xs := #[.tmp 46, .tmp 52]) rfl ?_); at_builtin; refine Kd.R_append (Kd.int .i64) (w0 := w) w.heap.size rfl (.tmp 46) (.tmp 52) 35 3 (.int .i64 0) 8 rfl Try.underlying35 info3 rfl (by decide) (by omega) u4 x4_2 (wrap64 (Int.tdiv (wrap64 (a1 * (rd l0 x42_2))) x7_1)) [.int .i64 (wrap64 (Int.tdiv (wrap64 (a1 * (rd l0 x42_2))) x7_1))] (fun _ => True) (fun _ => False) rfl rfl ?aP (fun _ hk => hk.elim) ?aF ?aO ?aB ?aS ?aL ?_; (case aP => exact rfl); (case aB => exact (sqB HB)); (case aF => exact (fun _ _ => trivial)); (case aO => exact (sqR HO_4)); (case aS => exact (below_size (sqB HB))); (case aL => have := LMc21.out; omega); intro v109 w22 ho hb hg hat; rw [← Ny108.out] at ho; replace HB := Aside0.mk (hb); have HO110 := Aside0.mk (ho); clear HO_4; clear ho hb hg hat))
               go_roundg k2
               case measure => have := HK1.out; have := HK2.out; omega
               case rel => exact ⟨(y108), (wrap64 (x5_2 - (wrap64 (Int.tdiv (wrap64 (a1 * (rd l0 x42_2))) x7_1)))), (wrap64 (x42_2 + 1)), sqE, sqE, H', ⟨by have := HK1.out; have := HK2.out; omega⟩, ⟨sqR HO110⟩, ⟨sqB HB⟩⟩
              ·rw [if_neg c21] at H
               exact absurd H (by simp)
            ·rw [if_neg c19] at H
             exact absurd H (by simp)
           ·rw [if_neg c18] at H
            exact absurd H (by simp)
          ·rw [if_neg c17] at H
           have c17b0 : decide (x42_2 < (l0.length : Int)) = false := decide_eq_false c17; clear c17; simp only [Option.some.injEq, Prod.mk.injEq] at H; obtain ⟨rfl, rfl, rfl⟩ := H
           go_wp2
           go_ret3
           exact ⟨_, by first | rfl | (simp [errW_none, errW_some] <;> rfl) | (simp [*, errW_none, errW_some] <;> rfl), by (with_reducible repeat (first | apply Kd.R_alloc | apply Kd.R_drewN | apply Kd.R_drew)); exact HO_4.out, sqB HB⟩
    ·replace c8 := Bool.eq_false_iff.mpr c8
     subst c8; rw [if_neg Bool.false_ne_true] at H; simp only [Option.some.injEq, Prod.mk.injEq] at H; obtain ⟨rfl, rfl, rfl⟩ := H
     go_enter Try.func45, Try.ntmps45
     go_wp2_with (first | ((with_reducible refine gate_callee (f := 58) rfl ?_); refine goesL_ (some 22) rfl rfl Try.func58 sqF rfl #[.int .i64 1, .int .i64 1000, .slice A0 l0.length c0] rfl sqM ?_; (with_reducible refine (fee_within.calls 1 1000 _ _ l0 true _ ?side1 ?side2 A5.out).mono ?_); (case side1 => repeat (first | exact HR0.out | (with_reducible refine Kd.C_alloc ?_ _) | (with_reducible refine Kd.C_drewN ?_ _) | (with_reducible refine Kd.C_drew ?_))); (case side2 => exact HC0.out); rintro e w23 ⟨rfl, hb⟩; refine ⟨_, rfl, ?_⟩; replace HB := sqb hb HB; (try clear hb); (try clear hb2); (try clear hk); (try clear hi)) | ((with_reducible refine gate_dst (N := 26) rfl ?_); refine Kd.R_lit (Kd.int .i64) _ 3 ?hg (N := 26) ?hd (xs := ([a1] : List Int)) (inner := [.int .i64 a1]) (ok := fun _ => True) (okp := fun _ => True) ?hr ?hp (fun _ hk => hk) trivial (Below.refl _ _) (Nat.le_refl _) (by simp) ?_; (case hd => rfl); (case hg => rfl); (case hr => first | (go_simp; done) | (go_simp; rfl)); (case hp => exact (Reps.one (show Kd.M (Kd.int .i64) _ _ _ a1 [.int .i64 a1] from rfl) (Reps.none _ _))); intro v103 w24 ho25 hb hg_ hnew_; clear hg_ hnew_; (first | rw [← Ny102.out] at ho25 | (simp only [Int.reduceToNat] at ho25; rw [← Ny102.out] at ho25)); have HO104 := Aside0.mk (Kd.R_lower ho25 (below_size (sqB HB))); replace HB := sqb hb HB; clear hb ho25; obtain ⟨Ao26, co26, eo26⟩ := Kd.R_slice HO104.out; subst eo26) | ((with_reducible refine gate_callee (f := 58) rfl ?_); refine goesL_ (some 27) rfl rfl Try.func58 sqF rfl #[.int .i64 (-100000), .int .i64 100000, .slice Ao26 y102.length co26] rfl sqM ?_; (with_reducible refine (fee_within.calls (-100000) 100000 _ _ y102 false _ ?side1 ?side2 A7.out).mono ?_); (case side1 => repeat (first | exact (Kd.R_reads' HO104.out).2.2 | (with_reducible refine Kd.C_alloc ?_ _) | (with_reducible refine Kd.C_drewN ?_ _) | (with_reducible refine Kd.C_drew ?_))); (case side2 => exact (Kd.R_reads' HO104.out).2.1); rintro e w27 ⟨rfl, hb⟩; refine ⟨_, rfl, ?_⟩; replace HO104 := Aside0.mk (Kd.R_below (sqR HO104) hb); replace HB := sqb hb HB; (try clear hb); (try clear hb2); (try clear hk); (try clear hi)))
     go_ret3
     exact ⟨_, by first | rfl | (simp [errW_none, errW_some] <;> rfl) | (simp [*, errW_none, errW_some] <;> rfl), by first | exact Kd.R_nil _ _ _ _ _ | exact Kd.N_nil _ _ _ _ _ | exact Kd.V_nil _ _ _ _ _ | exact Kd.Q_nil _ _ _ _ _ | exact Kd.S_nil _ _ _ _ _, sqB HB⟩
   ·replace c6 := Bool.eq_false_iff.mpr c6
    subst c6; rw [if_neg Bool.false_ne_true] at H; simp only [Option.some.injEq, Prod.mk.injEq] at H; obtain ⟨rfl, rfl, rfl⟩ := H
    go_enter Try.func45, Try.ntmps45
    go_wp2_with (first | ((with_reducible refine gate_callee (f := 58) rfl ?_); refine goesL_ (some 22) rfl rfl Try.func58 sqF rfl #[.int .i64 1, .int .i64 1000, .slice A0 l0.length c0] rfl sqM ?_; (with_reducible refine (fee_within.calls 1 1000 _ _ l0 false _ ?side1 ?side2 A5.out).mono ?_); (case side1 => repeat (first | exact HR0.out | (with_reducible refine Kd.C_alloc ?_ _) | (with_reducible refine Kd.C_drewN ?_ _) | (with_reducible refine Kd.C_drew ?_))); (case side2 => exact HC0.out); rintro e w28 ⟨rfl, hb⟩; refine ⟨_, rfl, ?_⟩; replace HB := sqb hb HB; (try clear hb); (try clear hb2); (try clear hk); (try clear hi)))
    go_ret3
    exact ⟨_, by first | rfl | (simp [errW_none, errW_some] <;> rfl) | (simp [*, errW_none, errW_some] <;> rfl), by first | exact Kd.R_nil _ _ _ _ _ | exact Kd.N_nil _ _ _ _ _ | exact Kd.V_nil _ _ _ _ _ | exact Kd.Q_nil _ _ _ _ _ | exact Kd.S_nil _ _ _ _ _, sqB HB⟩
def rf_Ints.l0 : Nat → List Int → List Int → Int → Option (Bool)
 | 0, _, _, _ => none
 | k + 1, x0, x1, x5 => if x5 < (x0.length : Int) then (if 0 ≤ x5 then (if x5 < (x1.length : Int) then (if (rd x0 x5) = (rd x1 x5) then (rf_Ints.l0 k x0 x1 (wrap64 (x5 + 1))) else (some false)) else (none)) else (none)) else (some true)
def rf_Ints.f (k : Nat) (l0 : List Int) (l1 : List Int) : Option (Bool) := if (l0.length : Int) = (l1.length : Int) then (rf_Ints.l0 k l0 l1 0) else (some false)
set_option maxHeartbeats 8000000 in
set_option maxRecDepth 100000 in
theorem rf_Ints.calls (k : Nat) (A0 : Option Addr) (c0 : Nat) (l0 : List Int) (A1 : Option Addr) (c1 : Nat) (l1 : List Int) (r : Bool) (w : World) (hr0 : Kd.C (Kd.int .i64) w A0 l0.length l0) (hc0 : l0.length ≤ c0) (hr1 : Kd.C (Kd.int .i64) w A1 l1.length l1) (hc1 : l1.length ≤ c1) (h : rf_Ints.f k l0 l1 = some r) :
  Calls Try.prog 25 #[.slice A0 l0.length c0, .slice A1 l1.length c1] w fun e w' => e = .returned (.bool r) ∧ Drawn0 w w' := by
 have HR0 := Aside0.mk hr0; have HC0 := Aside0.mk hc0; clear hr0 hc0; have HR1 := Aside0.mk hr1; have HC1 := Aside0.mk hc1; clear hr1 hc1; have H : (if (l0.length : Int) = (l1.length : Int) then (rf_Ints.l0 k l0 l1 0) else (some false)) = some r := h; clear h
 by_cases c3 : (l0.length : Int) = (l1.length : Int)
 ·rw [if_pos c3] at H
  have c3b0 : ((l0.length : Int) == (l1.length : Int)) = true := beq_iff_eq.mpr c3; have c3b1 : ((l0.length : Int) != (l1.length : Int)) = false := bne_eq_false_iff_eq.mpr c3
  have c3b2 : (l0.length == l1.length) = true := by first | simpa using c3 | (simp at c3 ⊢; omega)
  clear c3; have H' := Aside0.mk H; clear H; go_enter Try.func25, Try.ntmps25
  go_wp2
  repeat (go_quiet (fail); try go_wp2)
  go_loopg [5] k (fun kq v5 w' => ∃ (x5_1 : Int), v5 = .int .i64 x5_1 ∧ Aside0 (rf_Ints.l0 kq l0 l1 x5_1 = some r) ∧ Aside0 (kq ≤ k) ∧ Drawn0 w w')
  case atStart => exact ⟨(0), sqE, H', ⟨Nat.le_refl _⟩, by repeat (first | exact Drawn0.refl _ | apply Drawn0.step)⟩
  case round =>
   clear H'; try clear c1
   (try clear c3b0); (try clear c3b1); (try clear c3b2); obtain ⟨x5_1, rfl, HA, HK1, ⟨m1, rfl⟩⟩ := hrel
   cases gk with
   | zero => exact absurd HA.out (by simp [rf_Ints.l0])
   | succ k1 =>
    have H := HA.out; clear HA; simp only [rf_Ints.l0] at H
    by_cases c4 : x5_1 < (l0.length : Int)
    ·rw [if_pos c4] at H
     have c4b0 : decide (x5_1 < (l0.length : Int)) = true := decide_eq_true c4; clear c4
     by_cases c5 : 0 ≤ x5_1
     ·rw [if_pos c5] at H
      have c5b0 : decide (0 ≤ x5_1) = true := decide_eq_true c5; clear c5
      by_cases c6 : x5_1 < (l1.length : Int)
      ·rw [if_pos c6] at H
       have c6b0 : decide (x5_1 < (l1.length : Int)) = true := decide_eq_true c6; clear c6
       by_cases c7 : (rd l0 x5_1) = (rd l1 x5_1)
       ·rw [if_pos c7] at H
        have c7b0 : ((rd l0 x5_1) == (rd l1 x5_1)) = true := beq_iff_eq.mpr c7; have c7b1 : ((rd l0 x5_1) != (rd l1 x5_1)) = false := bne_eq_false_iff_eq.mpr c7; clear c7; have H' := Aside0.mk H; clear H; have p111 : 0 ≤ (x5_1 : Int) := sqD; have q111 : x5_1 < (l0.length : Int) := sqD; obtain ⟨ad111, e111, hx111_0⟩ := Kd.at_int HR0.out x5_1 p111 q111
        cases e111
        replace p111 := eq_true p111; replace q111 := eq_true q111; have p112 : 0 ≤ (x5_1 : Int) := sqD; have q112 : x5_1 < (l1.length : Int) := sqD; obtain ⟨ad112, e112, hx112_0⟩ := Kd.at_int HR1.out x5_1 p112 q112
        cases e112
        replace p112 := eq_true p112; replace q112 := eq_true q112
        go_wp2
        repeat (go_quiet (fail); try go_wp2)
        go_roundg k1
        case measure => have := HK1.out; omega
        case rel => exact ⟨(wrap64 (x5_1 + 1)), sqE, H', ⟨by have := HK1.out; omega⟩, by repeat (first | exact Drawn0.refl _ | apply Drawn0.step)⟩
       ·rw [if_neg c7] at H
        have c7b0 : ((rd l0 x5_1) == (rd l1 x5_1)) = false := beq_eq_false_iff_ne.mpr c7; have c7b1 : ((rd l0 x5_1) != (rd l1 x5_1)) = true := bne_iff_ne.mpr c7; obtain rfl := Option.some.inj H; have p111 : 0 ≤ (x5_1 : Int) := sqD; have q111 : x5_1 < (l0.length : Int) := sqD; obtain ⟨ad111, e111, hx111_0⟩ := Kd.at_int HR0.out x5_1 p111 q111
        cases e111
        replace p111 := eq_true p111; replace q111 := eq_true q111; have p112 : 0 ≤ (x5_1 : Int) := sqD; have q112 : x5_1 < (l1.length : Int) := sqD; obtain ⟨ad112, e112, hx112_0⟩ := Kd.at_int HR1.out x5_1 p112 q112
        cases e112
        replace p112 := eq_true p112; replace q112 := eq_true q112
        go_wp2
        repeat (go_quiet (fail); try go_wp2)
        go_ret
        exact ⟨by first | rfl | (simp; done) | (simp [*]; done), by repeat (first | exact Drawn0.refl _ | apply Drawn0.step)⟩
      ·rw [if_neg c6] at H
       exact absurd H (by simp)
     ·rw [if_neg c5] at H
      exact absurd H (by simp)
    ·rw [if_neg c4] at H
     have c4b0 : decide (x5_1 < (l0.length : Int)) = false := decide_eq_false c4; clear c4; obtain rfl := Option.some.inj H
     go_wp2
     repeat (go_quiet (fail); try go_wp2)
     go_ret
     exact ⟨by first | rfl | (simp; done) | (simp [*]; done), by repeat (first | exact Drawn0.refl _ | apply Drawn0.step)⟩
 ·rw [if_neg c3] at H
  have c3b0 : ((l0.length : Int) == (l1.length : Int)) = false := beq_eq_false_iff_ne.mpr c3; have c3b1 : ((l0.length : Int) != (l1.length : Int)) = true := bne_iff_ne.mpr c3
  have c3b2 : (l0.length == l1.length) = false := by first | simpa using c3 | (simp at c3 ⊢; omega)
  obtain rfl := Option.some.inj H
  go_enter Try.func25, Try.ntmps25
  go_wp2
  repeat (go_quiet (fail); try go_wp2)
  go_ret
  exact ⟨by first | rfl | (simp; done) | (simp [*]; done), by repeat (first | exact Drawn0.refl _ | apply Drawn0.step)⟩
def lw_tariff.f  : Option (Int × Int × Int × Int × Int) := some (12, 5, 2, 20, 3)
set_option maxHeartbeats 8000000 in
set_option maxRecDepth 100000 in
theorem lw_tariff.calls  (r1 : Int) (r2 : Int) (r3 : Int) (r4 : Int) (r5 : Int) (w : World) (h : lw_tariff.f  = some (r1, r2, r3, r4, r5)) :
  Calls Try.prog 63 #[] w fun e w' => e = .returned (.agg #[.int .i64 r1, .int .i64 r2, .int .i64 r3, .int .i64 r4, .int .i64 r5]) ∧ Below w.heap.size w w' := by
 have hu23 := Try.underlying23; have HB := Aside0.mk (Below.refl w.heap.size w); have H : (some (12, 5, 2, 20, 3)) = some (r1, r2, r3, r4, r5) := h; clear h; simp only [Option.some.injEq, Prod.mk.injEq] at H; obtain ⟨rfl, rfl, rfl, rfl, rfl⟩ := H
 go_enter Try.func63, Try.ntmps63
 go_wp2_with (first | ((with_reducible refine gate_dst (N := 0) rfl ?_); refine box_event ?hg (N := 0) ?hd (cs := #[.int .i64 0, .int .i64 0, .int .i64 0, .int .i64 0, .int .i64 0]) (t := 23) ?hr ?_; (case hd => rfl); (case hg => rfl); (case hr => first | (go_simp; done) | (go_simp; rfl)); intro gb116 hg w1 hbox hb; have BK116 := Aside0.mk (hbox); have GW116 := Aside0.mk (sqZ hg HB); have GE116 := Aside0.mk (sqZ hg HB); replace HB := sqb hb HB; clear hb hbox hg; have hcz2_0 := sqc0 BK116; have hcz2_1 := sqc1 BK116; have hcz2_2 := sqc2 BK116; have hcz2_3 : w1.cell? ⟨gb116, 3, none⟩ = some (.int .i64 0) := (blk_cell BK116.out 3).trans rfl; have hcz2_4 : w1.cell? ⟨gb116, 4, none⟩ = some (.int .i64 0) := (blk_cell BK116.out 4).trans rfl; have hfz2_0 := blk_frozen BK116.out 0; have hfz2_1 := blk_frozen BK116.out 1; have hfz2_2 := blk_frozen BK116.out 2; have hfz2_3 := blk_frozen BK116.out 3; have hfz2_4 := blk_frozen BK116.out 4))
 refine bodyPost_ret (results_cell_row rfl _ _ gb116 23 #[.int .i64 12, .int .i64 5, .int .i64 2, .int .i64 20, .int .i64 3] (0, 0) _ rfl (by (with_reducible repeat (first | refine blk_drewN ?_ _ | refine blk_drew ?_ | refine blk_alloc ?_ _)); refine blk_put (cs := #[.int .i64 12, .int .i64 5, .int .i64 2, .int .i64 20, .int .i64 0]) ?_ 4 _ rfl; (with_reducible repeat (first | refine blk_drewN ?_ _ | refine blk_drew ?_ | refine blk_alloc ?_ _)); refine blk_put (cs := #[.int .i64 12, .int .i64 5, .int .i64 2, .int .i64 0, .int .i64 0]) ?_ 3 _ rfl; (with_reducible repeat (first | refine blk_drewN ?_ _ | refine blk_drew ?_ | refine blk_alloc ?_ _)); refine blk_put (cs := #[.int .i64 12, .int .i64 5, .int .i64 0, .int .i64 0, .int .i64 0]) ?_ 2 _ rfl; (with_reducible repeat (first | refine blk_drewN ?_ _ | refine blk_drew ?_ | refine blk_alloc ?_ _)); refine blk_put (cs := #[.int .i64 12, .int .i64 0, .int .i64 0, .int .i64 0, .int .i64 0]) ?_ 1 _ rfl; (with_reducible repeat (first | refine blk_drewN ?_ _ | refine blk_drew ?_ | refine blk_alloc ?_ _)); refine blk_put (cs := #[.int .i64 0, .int .i64 0, .int .i64 0, .int .i64 0, .int .i64 0]) ?_ 0 _ rfl; (with_reducible repeat (first | refine blk_drewN ?_ _ | refine blk_drew ?_ | refine blk_alloc ?_ _)); exact BK116.out) Try.underlying23 rfl sqF) rfl ?_; exact ⟨by first | rfl | (simp [errW_none, errW_some] <;> rfl) | (simp [*, errW_none, errW_some] <;> rfl), sqB HB⟩
end Go.Proofs.Ytdlekcdedahbhaa.D
namespace Go.Proofs.Ytdlekcdedahbhaa.D
open Go.RowKit Go.Proofs.YtdlekcdedahbhaaW.PrintWords Go.Proofs.YtdlekcdedahbhaaW.PrintLast Go.Proofs.YtdlekcdedahbhaaW.PrintMore
attribute [local go_sem] max2_int min2_int max_two min_two max_three min_three max_four min_four   -- for this text's walks alone
set_option linter.unusedVariables false
set_option linter.unusedSimpArgs false
end Go.Proofs.Ytdlekcdedahbhaa.D
namespace Go.Proofs.Ytdlekcdedahbhaa
open Go.RowKit Go.Shelf Go.Proofs.YtdlekcdedahbhaaW.PrintWords
set_option linter.unusedVariables false
set_option linter.unusedSimpArgs false
theorem C_newK {α : Type} (d : Kd α) (enc : α → List Value) (hK : ∀ w x, d.K w x (enc x)) (hl : ∀ x, (enc x).length = d.sz) (w : World) (T : TypeId) (xs : List α) (cs : Array Value) (n b : Nat) (hb : b = w.heap.size) (hcs : cs = (xs.flatMap enc).toArray) (hn : n = xs.length) (hm : xs.length ≤ 9223372036854775807) :
  Kd.C d (w.alloc (.cells cs T)) (some ⟨b, 0, none⟩) n xs := by
 subst hcs hn hb; refine ⟨rfl, hm, fun hp => ⟨_, rfl, fun j x hj => ⟨enc x, hl x, hK _ x, fun i u hu => ?_⟩⟩⟩
 have hi : i < d.sz := by rw [← hl x]; exact (List.getElem?_eq_some_iff.1 hu).1
 rw [add_plain, (Bx.new w _ T).cell, List.getElem?_toArray, flat_get enc d.sz hl xs j x i hj hi]; exact hu
def encWk2 (x : Wk) : List Value := [.int .i64 x.q, .int .i64 x.o, .int .i64 x.l]
def encDue (x : Due) : List Value := [.int .i64 x.c, .int .i64 x.a]
def encInt (x : Int) : List Value := [.int .i64 x]
def exLed : List Ent := [⟨1, 0, 39⟩, ⟨2, 0, 20⟩, ⟨0, 3, 25⟩]
theorem kTariff (w : World) : Calls Try.prog 63 #[] w fun e w' => e = .returned (.agg #[.int .i64 12, .int .i64 5, .int .i64 2, .int .i64 20, .int .i64 3]) ∧ Up w w' :=
 D.lw_tariff.calls 12 5 2 20 3 w rfl
theorem kLedger (w : World) : Calls Try.prog 64 #[] w fun e w' => ∃ A c, e = .returned (.slice A 3 c) ∧ 3 ≤ c ∧ Kd.C kEnt w' A 3 exLed ∧ Up w w' := by
 go_enter Try.func64, Try.ntmps64
 go_wp2_with fail
 go_ret
 exact ⟨_, _, rfl, Nat.le_refl _, C_newK kEnt encEnt kEnt_mk (fun _ => rfl) w 101 exLed _ 3 _ rfl rfl rfl (by decide), upA⟩
theorem kFee (w : World) : Calls Try.prog 19 #[.agg #[.int .i64 12, .int .i64 5, .int .i64 2, .int .i64 20, .int .i64 3], .agg #[.int .i64 9, .int .i64 40, .int .i64 2]] w fun e w' => e = .returned (.tuple #[.int .i64 39, .int .i64 0]) ∧ Up w w' := by
 have h := fee_ ⟨12, 5, 2, 20, 3⟩ ⟨9, 40, 2⟩ w; rw [show feeI ⟨12, 5, 2, 20, 3⟩ ⟨9, 40, 2⟩ = 39 by kernel_rfl, show feeE ⟨12, 5, 2, 20, 3⟩ ⟨9, 40, 2⟩ = 0 by kernel_rfl] at h; exact h
def exWk : List Wk := [⟨4, 16, 0⟩, ⟨8, 16, 0⟩, ⟨4, 32, 0⟩]
theorem exPricesS : pricesS ⟨12, 5, 2, 0, 0⟩ exWk [19, 24, 21] = [⟨12, 12⟩, ⟨5, 5⟩, ⟨2, 2⟩] := by kernel_rfl
theorem exPricesM : pricesM ⟨12, 5, 2, 0, 0⟩ exWk [19, 24, 21] = 1 := by kernel_rfl
theorem exPricesE : pricesE ⟨12, 5, 2, 0, 0⟩ exWk [19, 24, 21] = 0 := by kernel_rfl
theorem kPrices (w : World) (b b2 : Nat) (hb : b = w.heap.size) (hb2 : b2 = w.heap.size + 1) :
  Calls Try.prog 24 #[.agg #[.int .i64 12, .int .i64 5, .int .i64 2, .int .i64 0, .int .i64 0], .slice (some ⟨b, 0, none⟩) 3 3, .slice (some ⟨b2, 0, none⟩) 3 3] ((w.alloc (.cells #[.int .i64 4, .int .i64 16, .int .i64 0, .int .i64 8, .int .i64 16, .int .i64 0, .int .i64 4, .int .i64 32, .int .i64 0] 25)).alloc (.cells #[.int .i64 19, .int .i64 24, .int .i64 21] 3)) fun e w' => ∃ A' c', e = .returned (.tuple #[.int .i64 1, .slice A' 3 c', .int .i64 0]) ∧ 3 ≤ c' ∧ Kd.C kSp w' A' 3 [⟨12, 12⟩, ⟨5, 5⟩, ⟨2, 2⟩] ∧ Up w w' := by
 subst hb hb2; refine (prices_ ⟨12, 5, 2, 0, 0⟩ (some ⟨w.heap.size, 0, none⟩) 3 exWk (some ⟨w.heap.size + 1, 0, none⟩) 3 [19, 24, 21] _ (C_up (C_newK kWk encWk2 kWk_mk (fun _ => rfl) w 25 exWk _ 3 _ rfl rfl rfl (by decide)) ((Up.refl _).alloc _)) (by decide) ?_ (by decide)).mono ?_
 ·exact C_newK (Kd.int .i64) encInt (fun _ _ => rfl) (fun _ => rfl) (w.alloc _) 3 [19, 24, 21] _ 3 _ (by simp) rfl rfl (by decide)
 ·rintro e w' ⟨v, rfl, h1, h⟩
  rw [exPricesS] at h1; obtain ⟨A', c', rfl, h3, h4⟩ := own_C_Sp h1 (by decide); rw [exPricesM, exPricesE]; exact ⟨A', c', rfl, h3, h4, (((Up.refl w).alloc _).alloc _).then h⟩
theorem exBal : balS exLed = [34, -39, -20, 25, 0, 0] ∧ readE exLed = 0 := ⟨by kernel_rfl, by kernel_rfl⟩
theorem kBalances (A : Option Addr) (c : Nat) (w : World) (hC : Kd.C kEnt w A 3 exLed) (hc : 3 ≤ c) :
  Calls Try.prog 29 #[.slice A 3 c] w fun e w' => ∃ A' c', e = .returned (.tuple #[.slice A' 6 c', .int .i64 0]) ∧ 6 ≤ c' ∧ Kd.C (Kd.int .i64) w' A' 6 [34, -39, -20, 25, 0, 0] ∧ Up w w' := by
 refine (balances_ A c exLed w hC hc).mono ?_; rintro e w' ⟨v, rfl, h1, h2⟩; rw [exBal.1] at h1; obtain ⟨A', c', rfl, h3, h4⟩ := own_C_int h1 (by decide); rw [exBal.2]; exact ⟨A', c', rfl, h3, h4, h2⟩
def exDue : List Due := [⟨1, 39⟩, ⟨2, 20⟩, ⟨2, 20⟩]
theorem exBook : bookM exDue exLed = [2] ∧ bookX exDue exLed = [2] ∧ bookE exDue exLed = 0 := ⟨by kernel_rfl, by kernel_rfl, by kernel_rfl⟩
theorem kBooked (A1 A : Option Addr) (c : Nat) (w : World) (h1 : Kd.C kDue w A1 3 exDue) (hC : Kd.C kEnt w A 3 exLed) (hc : 3 ≤ c) :
  Calls Try.prog 33 #[.slice A1 3 3, .slice A 3 c] w fun e w' => ∃ A' c' A'' c'', e = .returned (.tuple #[.slice A' 1 c', .slice A'' 1 c'', .int .i64 0]) ∧ 1 ≤ c' ∧ 1 ≤ c'' ∧ Kd.C (Kd.int .i64) w' A' 1 [2] ∧ Kd.C (Kd.int .i64) w' A'' 1 [2] ∧ Up w w' := by
 refine (booked_ A1 3 exDue A c exLed w h1 (by decide) hC hc).mono ?_; rintro e w' ⟨v, u, rfl, g1, g2, g3, _⟩; rw [exBook.1] at g1; rw [exBook.2.1] at g2; obtain ⟨A', c', rfl, h3, h4⟩ := own_C_int g1 (by decide); obtain ⟨A'', c'', rfl, h5, h6⟩ := own_C_int g2 (by decide); rw [exBook.2.2]; exact ⟨A', c', A'', c'', rfl, h3, h5, h4, h6, g3⟩
theorem exSlips : slipsL exLed [34, -39, 0, 25, -20, 0] = [⟨1, 3, 4⟩] ∧ slipsE exLed [34, -39, 0, 25, -20, 0] = 0 := ⟨by kernel_rfl, by kernel_rfl⟩
theorem kSlips (A A2 : Option Addr) (c : Nat) (w : World) (hC : Kd.C kEnt w A 3 exLed) (hc : 3 ≤ c) (h2 : Kd.C (Kd.int .i64) w A2 6 [34, -39, 0, 25, -20, 0]) :
  Calls Try.prog 36 #[.slice A 3 c, .slice A2 6 6] w fun e w' => ∃ g c', e = .returned (.tuple #[.slice (some ⟨g, 0, none⟩) 1 c', .int .i64 0]) ∧ w'.cell? ⟨g, 0, none⟩ = some (.int .i64 1) ∧ w'.cell? ⟨g, 1, none⟩ = some (.int .i64 3) ∧ w'.cell? ⟨g, 2, none⟩ = some (.int .i64 4) ∧ Up w w' := by
 refine (slips_ A c exLed A2 6 [34, -39, 0, 25, -20, 0] w hC hc h2 (by decide)).mono ?_; rintro e w' ⟨v, rfl, g1, g3⟩; rw [exSlips.1] at g1; rw [exSlips.2]
 rcases g1.2 with ⟨_, h0⟩ | ⟨g, cap, cur, rfl, hb, hg, hcap, _, hsz, htk⟩
 ·simp at h0
 ·have hget : ∀ k, k < 3 → cur[k]? = (([⟨1, 3, 4⟩] : List Slp).flatMap encSlp)[k]? := by
   intro k hk; rw [← htk]
   simp [List.getElem?_take, hk]
  refine ⟨g, cap, rfl, ?_, ?_, ?_, g3⟩
  ·simp [World.cell?, hg, hget 0 (by omega), encSlp]
  ·simp [World.cell?, hg, hget 1 (by omega), encSlp]
  ·simp [World.cell?, hg, hget 2 (by omega), encSlp]
def exBlot : List Ent := [⟨1, 0, -1⟩, ⟨0, 1, -1⟩]
theorem exFill : fillS exBlot [39, -39, 0, 0, 0, 0] = [⟨39, 100⟩, ⟨0, 61⟩] ∧ fillE exBlot [39, -39, 0, 0, 0, 0] = 0 := ⟨by kernel_rfl, by kernel_rfl⟩
theorem kFill (w : World) (b b2 : Nat) (hb : b = w.heap.size) (hb2 : b2 = w.heap.size + 1) :
  Calls Try.prog 39 #[.slice (some ⟨b, 0, none⟩) 2 2, .slice (some ⟨b2, 0, none⟩) 6 6] ((w.alloc (.cells #[.int .i64 1, .int .i64 0, .int .i64 (-1), .int .i64 0, .int .i64 1, .int .i64 (-1)] 101)).alloc (.cells #[.int .i64 39, .int .i64 (-39), .int .i64 0, .int .i64 0, .int .i64 0, .int .i64 0] 3)) fun e w' => ∃ A' c', e = .returned (.tuple #[.slice A' 2 c', .int .i64 0]) ∧ 2 ≤ c' ∧ Kd.C kSp w' A' 2 [⟨39, 100⟩, ⟨0, 61⟩] ∧ Up w w' := by
 subst hb hb2; refine (fill_ (some ⟨w.heap.size, 0, none⟩) 2 exBlot (some ⟨w.heap.size + 1, 0, none⟩) 6 [39, -39, 0, 0, 0, 0] _ (C_up (C_newK kEnt encEnt kEnt_mk (fun _ => rfl) w 101 exBlot _ 2 _ rfl rfl rfl (by decide)) ((Up.refl _).alloc _)) (by decide) ?_ (by decide)).mono ?_
 ·exact C_newK (Kd.int .i64) encInt (fun _ _ => rfl) (fun _ => rfl) (w.alloc _) 3 [39, -39, 0, 0, 0, 0] _ 6 _ (by simp) rfl rfl (by decide)
 ·rintro e w' ⟨v, rfl, h1, h⟩
  rw [exFill.1] at h1; obtain ⟨A', c', rfl, h3, h4⟩ := own_C_Sp h1 (by decide); rw [exFill.2]; exact ⟨A', c', rfl, h3, h4, (((Up.refl w).alloc _).alloc _).then h⟩
theorem exSettle : settleN [5, 7, -5, 0, -7, 0] = 2 ∧ settleG [5, 7, -5, 0, -7, 0] = [0, 1, 0, -1, 1, -1] ∧ settleE [5, 7, -5, 0, -7, 0] = 0 := ⟨by kernel_rfl, by kernel_rfl, by kernel_rfl⟩
theorem kSettle (w : World) (b : Nat) (hb : b = w.heap.size) :
  Calls Try.prog 42 #[.slice (some ⟨b, 0, none⟩) 6 6] (w.alloc (.cells #[.int .i64 5, .int .i64 7, .int .i64 (-5), .int .i64 0, .int .i64 (-7), .int .i64 0] 3)) fun e w' => ∃ A' c', e = .returned (.tuple #[.int .i64 2, .slice A' 6 c', .int .i64 0]) ∧ 6 ≤ c' ∧ Kd.C (Kd.int .i64) w' A' 6 [0, 1, 0, -1, 1, -1] ∧ Up w w' := by
 subst hb; refine (settle_ (some ⟨w.heap.size, 0, none⟩) 6 [5, 7, -5, 0, -7, 0] _ (C_newK (Kd.int .i64) encInt (fun _ _ => rfl) (fun _ => rfl) w 3 [5, 7, -5, 0, -7, 0] _ 6 _ rfl rfl rfl (by decide)) (by decide)).mono ?_; rintro e w' ⟨v, rfl, h1, h⟩; rw [exSettle.2.1] at h1; obtain ⟨A', c', rfl, h3, h4⟩ := own_C_int h1 (by decide); rw [exSettle.1, exSettle.2.2]; exact ⟨A', c', rfl, h3, h4, ((Up.refl w).alloc _).then h⟩
theorem kDividend (w : World) (b : Nat) (hb : b = w.heap.size) :
  Calls Try.prog 45 #[.slice (some ⟨b, 0, none⟩) 3 3, .int .i64 (-100)] (w.alloc (.cells #[.int .i64 1, .int .i64 1, .int .i64 1] 3)) fun e w' => ∃ A' c', e = .returned (.tuple #[.slice A' 3 c', .int .i64 (-1), .int .i64 0]) ∧ 3 ≤ c' ∧ Kd.C (Kd.int .i64) w' A' 3 [-33, -33, -33] ∧ Up w w' := by
 subst hb; refine (D.fee_Dividend.calls 20 (some ⟨w.heap.size, 0, none⟩) 3 [1, 1, 1] (-100) [-33, -33, -33] (-1) 0 _ (C_newK (Kd.int .i64) encInt (fun _ _ => rfl) (fun _ => rfl) w 3 [1, 1, 1] _ 3 _ rfl rfl rfl (by decide)) (by decide) sqF).mono ?_; rintro e w' ⟨v, rfl, h1, h⟩; obtain ⟨A', c', rfl, h3, h4⟩ := Kd.R_reads h1; exact ⟨A', c', rfl, h3, h4, ((Up.refl w).alloc _).then h⟩
theorem kInts (A : Option Addr) (c : Nat) (A2 : Option Addr) (c2 n : Nat) (xs : List Int) (hn : n = xs.length) (w : World) (hr : Kd.C (Kd.int .i64) w A n xs) (hc : n ≤ c) (hr2 : Kd.C (Kd.int .i64) w A2 n xs) (hc2 : n ≤ c2) (h : D.rf_Ints.f 20 xs xs = some true) :
  Calls Try.prog 25 #[.slice A n c, .slice A2 n c2] w fun e w' => e = .returned (.bool true) ∧ Up w w' := by
 subst hn
 exact (D.rf_Ints.calls 20 A c xs A2 c2 xs true w hr hc hr2 hc2 h).mono fun e w' h => ⟨h.1, Up.ofDrawn h.2⟩
theorem kInts6 (A : Option Addr) (c b : Nat) (a0 a1 a2 a3 a4 a5 : Int) (w : World) (hb : b = w.heap.size) (hr : Kd.C (Kd.int .i64) w A 6 [a0, a1, a2, a3, a4, a5]) (hc : 6 ≤ c) (h : D.rf_Ints.f 20 [a0, a1, a2, a3, a4, a5] [a0, a1, a2, a3, a4, a5] = some true) :
  Calls Try.prog 25 #[.slice A 6 c, .slice (some ⟨b, 0, none⟩) 6 6] (w.alloc (.cells #[.int .i64 a0, .int .i64 a1, .int .i64 a2, .int .i64 a3, .int .i64 a4, .int .i64 a5] 3)) fun e w' => e = .returned (.bool true) ∧ Up w w' :=
 (kInts A c _ 6 6 [a0, a1, a2, a3, a4, a5] rfl _ (C_up hr ((Up.refl w).alloc _)) hc (C_newK (Kd.int .i64) encInt (fun _ _ => rfl) (fun _ => rfl) w 3 _ _ 6 _ hb rfl rfl (by simp)) (by decide) h).mono fun e w' h => ⟨h.1, ((Up.refl w).alloc _).then h.2⟩
theorem kInts3 (A : Option Addr) (c b : Nat) (a0 a1 a2 : Int) (w : World) (hb : b = w.heap.size) (hr : Kd.C (Kd.int .i64) w A 3 [a0, a1, a2]) (hc : 3 ≤ c) (h : D.rf_Ints.f 20 [a0, a1, a2] [a0, a1, a2] = some true) :
  Calls Try.prog 25 #[.slice A 3 c, .slice (some ⟨b, 0, none⟩) 3 3] (w.alloc (.cells #[.int .i64 a0, .int .i64 a1, .int .i64 a2] 3)) fun e w' => e = .returned (.bool true) ∧ Up w w' :=
 (kInts A c _ 3 3 [a0, a1, a2] rfl _ (C_up hr ((Up.refl w).alloc _)) hc (C_newK (Kd.int .i64) encInt (fun _ _ => rfl) (fun _ => rfl) w 3 _ _ 3 _ hb rfl rfl (by simp)) (by decide) h).mono fun e w' h => ⟨h.1, ((Up.refl w).alloc _).then h.2⟩
theorem kInts1 (A : Option Addr) (c b : Nat) (a0 : Int) (w : World) (hb : b = w.heap.size) (hr : Kd.C (Kd.int .i64) w A 1 [a0]) (hc : 1 ≤ c) (h : D.rf_Ints.f 20 [a0] [a0] = some true) :
  Calls Try.prog 25 #[.slice A 1 c, .slice (some ⟨b, 0, none⟩) 1 1] (w.alloc (.cells #[.int .i64 a0] 3)) fun e w' => e = .returned (.bool true) ∧ Up w w' :=
 (kInts A c _ 1 1 [a0] rfl _ (C_up hr ((Up.refl w).alloc _)) hc (C_newK (Kd.int .i64) encInt (fun _ _ => rfl) (fun _ => rfl) w 3 _ _ 1 _ hb rfl rfl (by simp)) (by decide) h).mono fun e w' h => ⟨h.1, ((Up.refl w).alloc _).then h.2⟩
theorem kBookedL (A : Option Addr) (c b : Nat) (w : World) (hD : Kd.C kDue w (some ⟨b, 0, none⟩) 3 exDue) (hC : Kd.C kEnt w A 3 exLed) (hc : 3 ≤ c) :
  Calls Try.prog 33 #[.slice (some ⟨b, 0, none⟩) 3 3, .slice A 3 c] w fun e w' => ∃ A' c' A'' c'', e = .returned (.tuple #[.slice A' 1 c', .slice A'' 1 c'', .int .i64 0]) ∧ 1 ≤ c' ∧ 1 ≤ c'' ∧ Kd.C (Kd.int .i64) w' A' 1 [2] ∧ Kd.C (Kd.int .i64) w' A'' 1 [2] ∧ Up w w' := kBooked _ A c w hD hC hc
theorem kSlipsL (A : Option Addr) (c b : Nat) (w : World) (hb : b = w.heap.size) (hC : Kd.C kEnt w A 3 exLed) (hc : 3 ≤ c) :
  Calls Try.prog 36 #[.slice A 3 c, .slice (some ⟨b, 0, none⟩) 6 6] (w.alloc (.cells #[.int .i64 34, .int .i64 (-39), .int .i64 0, .int .i64 25, .int .i64 (-20), .int .i64 0] 3)) fun e w' => ∃ g c', e = .returned (.tuple #[.slice (some ⟨g, 0, none⟩) 1 c', .int .i64 0]) ∧ w'.cell? ⟨g, 0, none⟩ = some (.int .i64 1) ∧ w'.cell? ⟨g, 1, none⟩ = some (.int .i64 3) ∧ w'.cell? ⟨g, 2, none⟩ = some (.int .i64 4) ∧ Up w w' :=
 (kSlips A _ c _ (C_up hC ((Up.refl w).alloc _)) hc (C_newK (Kd.int .i64) encInt (fun _ _ => rfl) (fun _ => rfl) w 3 [34, -39, 0, 25, -20, 0] _ 6 _ hb rfl rfl (by decide))).mono fun e w' ⟨g, c', h1, h2, h3, h4, h5⟩ => ⟨g, c', h1, h2, h3, h4, ((Up.refl w).alloc _).then h5⟩
theorem C_due (w : World) : Kd.C kDue (w.alloc (.cells #[.int .i64 1, .int .i64 39, .int .i64 2, .int .i64 20, .int .i64 2, .int .i64 20] 58)) (some ⟨w.heap.size, 0, none⟩) 3 exDue := C_newK kDue encDue kDue_mk (fun _ => rfl) w 58 exDue _ 3 _ rfl rfl rfl (by decide)
theorem atP {w : World} {A : Option Addr} (h : Kd.C kSp w A 3 [⟨12, 12⟩, ⟨5, 5⟩, ⟨2, 2⟩]) : ∃ ad : Addr, A = some ad ∧ w.cell? ⟨ad.block, ad.off + 2, none⟩ = some (.int .i64 5) ∧ w.cell? ⟨ad.block, ad.off + 3, none⟩ = some (.int .i64 5) := at_Sp h 1 (by decide) (by decide)
theorem atF {w : World} {A : Option Addr} (h : Kd.C kSp w A 2 [⟨39, 100⟩, ⟨0, 61⟩]) : ∃ ad : Addr, A = some ad ∧ w.cell? ⟨ad.block, ad.off + 2, none⟩ = some (.int .i64 0) ∧ w.cell? ⟨ad.block, ad.off + 3, none⟩ = some (.int .i64 61) := at_Sp h 1 (by decide) (by decide)
theorem iB : D.rf_Ints.f 20 [34, -39, -20, 25, 0, 0] [34, -39, -20, 25, 0, 0] = some true := by kernel_rfl
theorem iK : D.rf_Ints.f 20 [2] [2] = some true := by kernel_rfl
theorem iG : D.rf_Ints.f 20 [0, 1, 0, -1, 1, -1] [0, 1, 0, -1, 1, -1] = some true := by kernel_rfl
theorem iD : D.rf_Ints.f 20 [-33, -33, -33] [-33, -33, -33] = some true := by kernel_rfl
theorem nes (w : World) : (binOp .neq 44 (.agg #[.int .i64 5, .int .i64 5]) (.agg #[.int .i64 5, .int .i64 5])).run Try.prog w = .ok (.bool false) w := by kernel_rfl
theorem nep (w : World) : (binOp .neq 70 (.agg #[.int .i64 1, .int .i64 3, .int .i64 4]) (.agg #[.int .i64 1, .int .i64 3, .int .i64 4])).run Try.prog w = .ok (.bool false) w := by kernel_rfl
theorem eqs (w : World) : (binOp .eql 44 (.agg #[.int .i64 0, .int .i64 61]) (.agg #[.int .i64 0, .int .i64 61])).run Try.prog w = .ok (.bool true) w := by kernel_rfl
set_option maxRecDepth 100000 in
set_option maxHeartbeats 8000000 in
theorem known_ (w : World) : Calls Try.prog 22 #[] w fun e w' => e = .returned (.bool true) ∧ Up w w' := by
 go_enter Try.func22, Try.ntmps22
 go_wp2_with (first | (go_at_call 63; (with_reducible refine (kTariff _).mono ?_); rintro e w' ⟨rfl, hb⟩; have hbA := Aside0.mk hb; have hz := hb.le; (try simp at hz); clear hb) | (go_at_call 19; (with_reducible refine (kFee _).mono ?_); rintro e w' ⟨rfl, hb⟩; have hbA := Aside0.mk hb; have hz := hb.le; (try simp at hz); clear hb) | (go_at_call 24; (with_reducible refine (kPrices _ _ _ (by simp) (by simp)).mono ?_); rintro e wP ⟨AP, cP, rfl, hcP, hCP, hb⟩; have HCP := Aside0.mk hCP; have hbA := Aside0.mk hb; have hz := hb.le; (try simp at hz); clear hb hCP) | (go_at_call 64; (with_reducible refine (kLedger _).mono ?_); rintro e w' ⟨AL, cL, rfl, hcL, hCL, hb⟩; have HCL := Aside0.mk hCL; have hbA := Aside0.mk hb; have hz := hb.le; (try simp at hz); clear hb hCL) | (go_at_call 29; (with_reducible refine (kBalances _ _ _ HCL.out hcL).mono ?_); rintro e wB ⟨AB, cB, rfl, hcB, hCB, hb⟩; have HCB := Aside0.mk hCB; have hbA := Aside0.mk hb; have hz := hb.le; (try simp at hz); clear hb hCB) | (go_at_call 33; (with_reducible refine (kBookedL _ _ _ _ (C_up (C_due wB) upA) HCL.out hcL).mono ?_); rintro e wK ⟨AK, cK, AX, cX, rfl, hcK, hcX, hCK, hCX, hb⟩; have HCK := Aside0.mk hCK; have HCX := Aside0.mk hCX; have hbA := Aside0.mk hb; have hz := hb.le; (try simp at hz); clear hb hCK hCX) | (go_at_call 36; (with_reducible refine (kSlipsL _ _ _ _ (by simp) HCL.out hcL).mono ?_); rintro e wS ⟨gS, cS, rfl, hs0, hs1, hs2, hb⟩; have HS0 := Aside0.mk hs0; have HS1 := Aside0.mk hs1; have HS2 := Aside0.mk hs2; have hbA := Aside0.mk hb; have hz := hb.le; (try simp at hz); clear hb hs0 hs1 hs2) | (go_at_call 39; (with_reducible refine (kFill _ _ _ (by simp) (by simp)).mono ?_); rintro e wF ⟨AF, cF, rfl, hcF, hCF, hb⟩; have HCF := Aside0.mk hCF; have hbA := Aside0.mk hb; have hz := hb.le; (try simp at hz); clear hb hCF) | (go_at_call 42; (with_reducible refine (kSettle _ _ (by simp)).mono ?_); rintro e wG ⟨AG, cG, rfl, hcG, hCG, hb⟩; have HCG := Aside0.mk hCG; have hbA := Aside0.mk hb; have hz := hb.le; (try simp at hz); clear hb hCG) | (go_at_call 45; (with_reducible refine (kDividend _ _ (by simp)).mono ?_); rintro e wD ⟨AD, cD, rfl, hcD, hCD, hb⟩; have HCD := Aside0.mk hCD; have hbA := Aside0.mk hb; have hz := hb.le; (try simp at hz); clear hb hCD; obtain ⟨adP, eP, hp0, hp1⟩ := atP (C_up (w1 := wD) HCP.out upA); cases eP; obtain ⟨adF, eF, hf0, hf1⟩ := atF (C_up (w1 := wD) HCF.out upA); cases eF; have hs0 := Up.cell (w1 := wD) upA HS0.out; have hs1 := Up.cell (w1 := wD) upA HS1.out; have hs2 := Up.cell (w1 := wD) upA HS2.out; have hnes := nes; have hnep := nep; have heqs := eqs) | (go_at_call 25; (with_reducible refine (kInts6 AB cB _ _ _ _ _ _ _ _ (by simp) (C_up HCB.out upA) hcB iB).mono ?_); rintro e wI ⟨rfl, hb⟩; replace hs0 := hb.cell hs0; replace hs1 := hb.cell hs1; replace hs2 := hb.cell hs2; replace hf0 := hb.cell hf0; replace hf1 := hb.cell hf1; have hbA := Aside0.mk hb; have hz := hb.le; (try simp at hz); clear hb) | (go_at_call 25; (with_reducible refine (kInts1 AK cK _ _ _ (by simp) (C_up HCK.out upA) hcK iK).mono ?_); rintro e wI ⟨rfl, hb⟩; replace hs0 := hb.cell hs0; replace hs1 := hb.cell hs1; replace hs2 := hb.cell hs2; replace hf0 := hb.cell hf0; replace hf1 := hb.cell hf1; have hbA := Aside0.mk hb; have hz := hb.le; (try simp at hz); clear hb) | (go_at_call 25; (with_reducible refine (kInts1 AX cX _ _ _ (by simp) (C_up HCX.out upA) hcX iK).mono ?_); rintro e wI ⟨rfl, hb⟩; replace hs0 := hb.cell hs0; replace hs1 := hb.cell hs1; replace hs2 := hb.cell hs2; replace hf0 := hb.cell hf0; replace hf1 := hb.cell hf1; have hbA := Aside0.mk hb; have hz := hb.le; (try simp at hz); clear hb) | (go_at_call 25; (with_reducible refine (kInts6 AG cG _ _ _ _ _ _ _ _ (by simp) (C_up HCG.out upA) hcG iG).mono ?_); rintro e wI ⟨rfl, hb⟩; replace hs0 := hb.cell hs0; replace hs1 := hb.cell hs1; replace hs2 := hb.cell hs2; replace hf0 := hb.cell hf0; replace hf1 := hb.cell hf1; have hbA := Aside0.mk hb; have hz := hb.le; (try simp at hz); clear hb) | (go_at_call 25; (with_reducible refine (kInts3 AD cD _ _ _ _ _ (by simp) (C_up HCD.out upA) hcD iD).mono ?_); rintro e wI ⟨rfl, hb⟩; replace hs0 := hb.cell hs0; replace hs1 := hb.cell hs1; replace hs2 := hb.cell hs2; replace hf0 := hb.cell hf0; replace hf1 := hb.cell hf1; have hbA := Aside0.mk hb; have hz := hb.le; (try simp at hz); clear hb) | fail)
 go_ret
 exact ⟨rfl, upA⟩
end Go.Proofs.Ytdlekcdedahbhaa
