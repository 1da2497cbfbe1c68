/- Functions printed by the kit's printer over these walks, and the plain law. No condition. -/
import Derived.Test.YtdlekcdedahbhaaX0
import Derived.Test.YtdlekcdedahbhaaProg
import Derived.Below
import Derived.Deep.Draws
import Derived.Deep.AppendLies
import Derived.Maps.AppendAt
import Derived.OwnWalk
import Derived.Laws.BytesArg
import Derived.Laws.MakeOwn
import Derived.Laws.OwnMore
import Derived.Deep.OwnRows
import Derived.Tactics
import Derived.Lib.ConvBytes
import Derived.Laws.Slices
import Derived.WalkKit
import Derived.KernelRfl
import Derived.RowKit3
import Derived.Deep.LoopGhost
import Derived.Deep.QuietTactic
import Derived.BigQuiet
import Derived.WideLaws
import Derived.Deep.DeepCutAuto
import Derived.Deep.CutBlock
import Derived.Deep.RegionHeld3
import Derived.Laws.Rows
import Derived.Lib.AppendStr
import Derived.ArgAppend
import Derived.Laws.IdiomCopy
import Derived.OrdersHeld
import Derived.Laws.BitsLemmas
import Derived.RowKit
import Derived.Test.YtdlekcdedahbhaaX2
import Derived.Test.YtdlekcdedahbhaaX1
set_option linter.unusedVariables false
set_option linter.unusedSimpArgs false
namespace Go.Proofs.Ytdlekcdedahbhaa.Q
open Go.RowKit Go.Proofs.YtdlekcdedahbhaaW.PrintWords Go.Proofs.YtdlekcdedahbhaaW.PrintLast Go.Proofs.YtdlekcdedahbhaaW.PrintMore
attribute [local go_sem] max2_int min2_int max_two min_two max_three min_three max_four min_four   -- for this text's walks alone
set_option linter.unusedVariables false
set_option linter.unusedSimpArgs false
def errW : Option Int → Value
 | none => .nilIface
 | some c => .iface 0 (.int .i64 c)
theorem errW_none : errW none = .nilIface := rfl
theorem errW_some (c : Int) : errW (some c) = .iface 0 (.int .i64 c) := rfl
theorem info3 : (Try.prog.info? 3).map (fun i => (i.zero, i.size, i.bytes)) = some (some (.int .i64 0), 1, 8) := by kernel_rfl
theorem info25 : (Try.prog.info? 25).map (fun i => (i.zero, i.size, i.bytes)) = some (some (.agg #[(.int .i64 0), (.int .i64 0), (.int .i64 0)]), 3, 24) := by kernel_rfl
structure S25 where
 f0 : Int
 f1 : Int
 f2 : Int
def z25 : S25 := ⟨(0 : Int), (0 : Int), (0 : Int)⟩
def k25 : Kd S25 := Kd.iso (Kd.pair (Kd.int .i64) (Kd.pair (Kd.int .i64) (Kd.int .i64))) (fun x : S25 => (x.f0, x.f1, x.f2))
theorem k25_open {w : World} {x : S25} {cs : List Value} (h : k25.K w x cs) : cs = [.int .i64 x.f0, .int .i64 x.f1, .int .i64 x.f2] := by
 obtain ⟨_, _, rfl, rfl, ⟨_, _, rfl, rfl, rfl⟩⟩ := h; exact rfl
theorem k25_mkM (w : World) (base : Nat) (ok : Nat → Prop) (x : S25)  : k25.M w base ok x [.int .i64 x.f0, .int .i64 x.f1, .int .i64 x.f2] := ⟨[.int .i64 x.f0], [.int .i64 x.f1, .int .i64 x.f2], rfl, rfl, ⟨[.int .i64 x.f1], [.int .i64 x.f2], rfl, rfl, rfl⟩⟩
def rd_T25 (xs : List S25) (i : Int) : S25 := xs.getD i.toNat z25
theorem at_T25 {w : World} {A : Option Addr} {n : Nat} {xs : List S25} (h : Kd.C k25 w A n xs) (i : Int) (h0 : 0 ≤ i) (h1 : i < n) : ∃ ad , A = some ad ∧ w.cell? (ad.add (i.toNat * 3)) = some (.int .i64 (rd_T25 xs i).f0) ∧ w.cell? ⟨(ad.add (i.toNat * 3)).block, (ad.add (i.toNat * 3)).off + 1, none⟩ = some (.int .i64 (rd_T25 xs i).f1) ∧ w.cell? ⟨(ad.add (i.toNat * 3)).block, (ad.add (i.toNat * 3)).off + 2, none⟩ = some (.int .i64 (rd_T25 xs i).f2) := by
 obtain ⟨ad, c, e, _, hK, hc0⟩ := Kd.C_get h z25 i h0 h1; have hc : ∀ j u, c[j]? = some u → w.cell? (ad.add (i.toNat * 3 + j)) = some u := hc0; obtain rfl := k25_open hK; exact ⟨ad, e, hc 0 _ rfl, by rw [← add_field _ _ 1 (by omega)]; exact hc 1 _ rfl, by rw [← add_field _ _ 2 (by omega)]; exact hc 2 _ rfl⟩
structure S44 where
 f0 : Int
 f1 : Int
def z44 : S44 := ⟨(0 : Int), (0 : Int)⟩
def k44 : Kd S44 := Kd.iso (Kd.pair (Kd.int .i64) (Kd.int .i64)) (fun x : S44 => (x.f0, x.f1))
theorem k44_open {w : World} {x : S44} {cs : List Value} (h : k44.K w x cs) : cs = [.int .i64 x.f0, .int .i64 x.f1] := by
 obtain ⟨_, _, rfl, rfl, rfl⟩ := h; exact rfl
theorem k44_mkM (w : World) (base : Nat) (ok : Nat → Prop) (x : S44)  : k44.M w base ok x [.int .i64 x.f0, .int .i64 x.f1] := ⟨[.int .i64 x.f0], [.int .i64 x.f1], rfl, rfl, rfl⟩
def rd_T44 (xs : List S44) (i : Int) : S44 := xs.getD i.toNat z44
theorem at_T44 {w : World} {A : Option Addr} {n : Nat} {xs : List S44} (h : Kd.C k44 w A n xs) (i : Int) (h0 : 0 ≤ i) (h1 : i < n) : ∃ ad , A = some ad ∧ w.cell? (ad.add (i.toNat * 2)) = some (.int .i64 (rd_T44 xs i).f0) ∧ w.cell? ⟨(ad.add (i.toNat * 2)).block, (ad.add (i.toNat * 2)).off + 1, none⟩ = some (.int .i64 (rd_T44 xs i).f1) := by
 obtain ⟨ad, c, e, _, hK, hc0⟩ := Kd.C_get h z44 i h0 h1; have hc : ∀ j u, c[j]? = some u → w.cell? (ad.add (i.toNat * 2 + j)) = some u := hc0; obtain rfl := k44_open hK; exact ⟨ad, e, hc 0 _ rfl, by rw [← add_field _ _ 1 (by omega)]; exact hc 1 _ rfl⟩
structure S107 where
 f0 : Int
 f1 : Int
 f2 : Int
def z107 : S107 := ⟨(0 : Int), (0 : Int), (0 : Int)⟩
def k107 : Kd S107 := Kd.iso (Kd.pair (Kd.int .u8) (Kd.pair (Kd.int .u8) (Kd.int .u8))) (fun x : S107 => (x.f0, x.f1, x.f2))
theorem k107_open {w : World} {x : S107} {cs : List Value} (h : k107.K w x cs) : cs = [.int .u8 x.f0, .int .u8 x.f1, .int .u8 x.f2] := by
 obtain ⟨_, _, rfl, rfl, ⟨_, _, rfl, rfl, rfl⟩⟩ := h; exact rfl
def rd_T107 (xs : List S107) (i : Int) : S107 := xs.getD i.toNat z107
theorem at_T107 {w : World} {A : Option Addr} {n : Nat} {xs : List S107} (h : Kd.C k107 w A n xs) (i : Int) (h0 : 0 ≤ i) (h1 : i < n) : ∃ ad , A = some ad ∧ w.cell? (ad.add (i.toNat * 3)) = some (.int .u8 (rd_T107 xs i).f0) ∧ w.cell? ⟨(ad.add (i.toNat * 3)).block, (ad.add (i.toNat * 3)).off + 1, none⟩ = some (.int .u8 (rd_T107 xs i).f1) ∧ w.cell? ⟨(ad.add (i.toNat * 3)).block, (ad.add (i.toNat * 3)).off + 2, none⟩ = some (.int .u8 (rd_T107 xs i).f2) := by
 obtain ⟨ad, c, e, _, hK, hc0⟩ := Kd.C_get h z107 i h0 h1; have hc : ∀ j u, c[j]? = some u → w.cell? (ad.add (i.toNat * 3 + j)) = some u := hc0; obtain rfl := k107_open hK; exact ⟨ad, e, hc 0 _ rfl, by rw [← add_field _ _ 1 (by omega)]; exact hc 1 _ rfl, by rw [← add_field _ _ 2 (by omega)]; exact hc 2 _ rfl⟩
structure S87 where
 f0 : Int
 f1 : Int
 f2 : Int
 f3 : Int
 f4 : Int
def k87 : Kd S87 := Kd.iso (Kd.pair (Kd.int .u8) (Kd.pair (Kd.int .u8) (Kd.pair (Kd.int .u8) (Kd.pair (Kd.int .u8) (Kd.int .u8))))) (fun x : S87 => (x.f0, x.f1, x.f2, x.f3, x.f4))
theorem k87_open {w : World} {x : S87} {cs : List Value} (h : k87.K w x cs) : cs = [.int .u8 x.f0, .int .u8 x.f1, .int .u8 x.f2, .int .u8 x.f3, .int .u8 x.f4] := by
 obtain ⟨_, _, rfl, rfl, ⟨_, _, rfl, rfl, ⟨_, _, rfl, rfl, ⟨_, _, rfl, rfl, rfl⟩⟩⟩⟩ := h; exact rfl
structure S90 where
 f0 : S87
 f1 : (List S107)
def k90 : Kd S90 := Kd.iso (Kd.pair k87 (Kd.slice 107 k107)) (fun x : S90 => (x.f0, x.f1))
theorem k90_open {w : World} {x : S90} {cs : List Value} (h : k90.K w x cs) : ∃ A5 c5, cs = [.int .u8 x.f0.f0, .int .u8 x.f0.f1, .int .u8 x.f0.f2, .int .u8 x.f0.f3, .int .u8 x.f0.f4, .slice A5 x.f1.length c5] ∧ x.f1.length ≤ c5 ∧ k107.C w A5 x.f1.length x.f1 := by
 obtain ⟨_, _, rfl, s0, ⟨A5, c5, rfl, l5, g5⟩⟩ := h; obtain rfl := k87_open s0; exact ⟨A5, c5, rfl, l5, g5⟩
end Go.Proofs.Ytdlekcdedahbhaa.Q
namespace Go.Proofs.Ytdlekcdedahbhaa.Q
open Go.RowKit Go.Shelf Go.Proofs.YtdlekcdedahbhaaW.PrintWords
set_option linter.unusedVariables false
set_option linter.unusedSimpArgs false
theorem map_C {α β : Type} {d : Kd α} {d' : Kd β} (f : α → β) (hs : d.sz = d'.sz) (hk : ∀ w x cs, d.K w x cs → d'.K w (f x) cs) {w : World} {A : Option Addr} {n : Nat} {l : List α} (h : Kd.C d w A n l) : Kd.C d' w A (l.map f).length (l.map f) := by
 obtain ⟨h1, h2, h3⟩ := h; refine ⟨rfl, by rw [List.length_map]; omega, fun hp => ?_⟩; rw [List.length_map] at hp; obtain ⟨ad, hA, hc⟩ := h3 (by omega); refine ⟨ad, hA, fun j p hj => ?_⟩; rw [List.getElem?_map, Option.map_eq_some_iff] at hj; obtain ⟨x, hx, rfl⟩ := hj; obtain ⟨c, hcl, hk', hcc⟩ := hc j x hx; exact ⟨c, hcl.trans hs, hk _ _ _ hk', by rw [← hs]; exact hcc⟩
theorem flat_R {α : Type} (d : Kd α) (enc : α → List Value) (hl : ∀ x, (enc x).length = d.sz) (hm : ∀ w base ok x, d.M w base ok x (enc x)) {w : World} {base e : Nat} {v : Value} {s : List α} (h : w.ownsRow base e d.sz v s.length (s.flatMap enc)) : Kd.R d e w base (fun _ => True) v s := by
 refine ⟨fun _ _ => trivial, s.flatMap enc, h, flat_len enc d.sz hl s, fun j p hj => ?_⟩; have hlt := (List.getElem?_eq_some_iff.1 hj).1
 have e : ((s.flatMap enc).drop (j * d.sz)).take d.sz = enc p := by
  apply List.ext_getElem?
  intro i; rw [List.getElem?_take]
  by_cases hi : i < d.sz
  ·rw [if_pos hi, List.getElem?_drop, flat_get enc d.sz hl s j p i hj hi]
  ·rw [if_neg hi, List.getElem?_eq_none]
   rw [hl]; omega
 rw [e]; exact hm _ _ _ _
def toWk (l : List S25) : List Wk := l.map fun x => ⟨x.f0, x.f1, x.f2⟩
theorem toWk_C {w : World} {A : Option Addr} {n : Nat} {l : List S25} (h : Kd.C k25 w A n l) : Kd.C kWk w A (toWk l).length (toWk l) :=
 map_C (d' := kWk) (fun x : S25 => (⟨x.f0, x.f1, x.f2⟩ : Wk)) rfl (fun w x cs h => by obtain rfl := k25_open h; exact kWk_mk w ⟨x.f0, x.f1, x.f2⟩) h
def ofSp (l : List Sp) : List S44 := l.map fun x => ⟨x.lo, x.hi⟩
theorem cellsS_flat : ∀ s : List Sp, (ofSp s).flatMap (fun x => [Value.int .i64 x.f0, .int .i64 x.f1]) = cellsS s
 | [] => rfl
 | x :: s => by
  have h := cellsS_flat s; simp only [ofSp] at h
  simp [ofSp, cellsS, h]
theorem ofSp_R {w : World} {base e : Nat} {v : Value} {s : List Sp} (h : w.ownsRow base e 2 v s.length (cellsS s)) : Kd.R k44 e w base (fun _ => True) v (ofSp s) := by
 refine flat_R k44 (fun x => [.int .i64 x.f0, .int .i64 x.f1]) (fun _ => rfl) (fun w base ok x => k44_mkM w base ok x) ?_; rw [cellsS_flat]
 show w.ownsRow base e 2 v _ _
 simpa [ofSp] using h
theorem toWk_len (l : List S25) : (toWk l).length = l.length := by simp [toWk]
theorem toWk_c {l : List S25} {c : Nat} (h : l.length ≤ c) : (toWk l).length ≤ c := by rw [toWk_len]; exact h
end Go.Proofs.Ytdlekcdedahbhaa.Q
namespace Go.Proofs.Ytdlekcdedahbhaa.Q
open Go.RowKit Go.Proofs.YtdlekcdedahbhaaW.PrintWords Go.Proofs.YtdlekcdedahbhaaW.PrintLast Go.Proofs.YtdlekcdedahbhaaW.PrintMore
attribute [local go_sem] max2_int min2_int max_two min_two max_three min_three max_four min_four   -- for this text's walks alone
set_option linter.unusedVariables false
set_option linter.unusedSimpArgs false
def fee_Fee.f (a0_0 : Int) (a0_1 : Int) (a0_2 : Int) (a0_3 : Int) (a0_4 : Int) (a1_0 : Int) (a1_1 : Int) (a1_2 : Int) : Option (Int × Int) := some (feeI ⟨a0_0, a0_1, a0_2, a0_3, a0_4⟩ ⟨a1_0, a1_1, a1_2⟩, feeE ⟨a0_0, a0_1, a0_2, a0_3, a0_4⟩ ⟨a1_0, a1_1, a1_2⟩)
theorem fee_Fee.calls (a0_0 : Int) (a0_1 : Int) (a0_2 : Int) (a0_3 : Int) (a0_4 : Int) (a1_0 : Int) (a1_1 : Int) (a1_2 : Int) (r1 : Int) (r2 : Int) (w : World) (h : fee_Fee.f a0_0 a0_1 a0_2 a0_3 a0_4 a1_0 a1_1 a1_2 = some (r1, r2)) :
  Calls Try.prog 19 #[.agg #[.int .i64 a0_0, .int .i64 a0_1, .int .i64 a0_2, .int .i64 a0_3, .int .i64 a0_4], .agg #[.int .i64 a1_0, .int .i64 a1_1, .int .i64 a1_2]] w fun e w' => e = .returned (.tuple #[.int .i64 r1, .int .i64 r2]) ∧ Below w.heap.size w w' := by
 simp only [fee_Fee.f, Option.some.injEq, Prod.mk.injEq] at h; obtain ⟨rfl, rfl⟩ := h; exact fee_ ⟨a0_0, a0_1, a0_2, a0_3, a0_4⟩ ⟨a1_0, a1_1, a1_2⟩ w
end Go.Proofs.Ytdlekcdedahbhaa.Q
namespace Go.Proofs.Ytdlekcdedahbhaa.Q
open Go.RowKit Go.Proofs.YtdlekcdedahbhaaW.PrintWords Go.Proofs.YtdlekcdedahbhaaW.PrintLast Go.Proofs.YtdlekcdedahbhaaW.PrintMore
attribute [local go_sem] max2_int min2_int max_two min_two max_three min_three max_four min_four   -- for this text's walks alone
set_option linter.unusedVariables false
set_option linter.unusedSimpArgs false
def lw_known.f  : Option (Bool) := some true
theorem lw_known.calls  (r : Bool) (w : World) (h : lw_known.f  = some r) :
  Calls Try.prog 22 #[] w fun e w' => e = .returned (.bool r) ∧ Below w.heap.size w w' := by
 unfold lw_known.f at h
 obtain rfl := Option.some.inj h; exact known_ w
end Go.Proofs.Ytdlekcdedahbhaa.Q
namespace Go.Proofs.Ytdlekcdedahbhaa.Q
open Go.RowKit Go.Proofs.YtdlekcdedahbhaaW.PrintWords Go.Proofs.YtdlekcdedahbhaaW.PrintLast Go.Proofs.YtdlekcdedahbhaaW.PrintMore
attribute [local go_sem] max2_int min2_int max_two min_two max_three min_three max_four min_four   -- for this text's walks alone
set_option linter.unusedVariables false
set_option linter.unusedSimpArgs false
def fee_Prices.f (a0_0 : Int) (a0_1 : Int) (a0_2 : Int) (a0_3 : Int) (a0_4 : Int) (l1 : List (S25)) (l2 : List Int) : Option (Int × (List (S44)) × Int) := some (pricesM ⟨a0_0, a0_1, a0_2, a0_3, a0_4⟩ (toWk l1) l2, ofSp (pricesS ⟨a0_0, a0_1, a0_2, a0_3, a0_4⟩ (toWk l1) l2), pricesE ⟨a0_0, a0_1, a0_2, a0_3, a0_4⟩ (toWk l1) l2)
theorem fee_Prices.calls (a0_0 : Int) (a0_1 : Int) (a0_2 : Int) (a0_3 : Int) (a0_4 : Int) (A1 : Option Addr) (c1 : Nat) (l1 : List (S25)) (A2 : Option Addr) (c2 : Nat) (l2 : List Int) (r1 : Int) (r2 : List (S44)) (r3 : Int) (w : World) (hr1 : Kd.C k25 w A1 l1.length l1) (hc1 : l1.length ≤ c1) (hr2 : Kd.C (Kd.int .i64) w A2 l2.length l2) (hc2 : l2.length ≤ c2) (h : fee_Prices.f a0_0 a0_1 a0_2 a0_3 a0_4 l1 l2 = some (r1, r2, r3)) :
  Calls Try.prog 24 #[.agg #[.int .i64 a0_0, .int .i64 a0_1, .int .i64 a0_2, .int .i64 a0_3, .int .i64 a0_4], .slice A1 l1.length c1, .slice A2 l2.length c2] w fun e w' => ∃ v1_ : Value, e = .returned (.tuple #[.int .i64 r1, v1_, .int .i64 r3]) ∧ Kd.R k44 44 w' w.heap.size (fun _ => True) v1_ r2 ∧ Below w.heap.size w w' := by
 simp only [fee_Prices.f, Option.some.injEq, Prod.mk.injEq] at h; obtain ⟨rfl, rfl, rfl⟩ := h; have H := prices_ ⟨a0_0, a0_1, a0_2, a0_3, a0_4⟩ A1 c1 (toWk l1) A2 c2 l2 w (toWk_C hr1) (toWk_c hc1) hr2 hc2; rw [toWk_len] at H; refine H.mono ?_; rintro e w' ⟨v, he, h1, h2⟩; exact ⟨v, he, ofSp_R h1, h2⟩
end Go.Proofs.Ytdlekcdedahbhaa.Q
namespace Go.Proofs.Ytdlekcdedahbhaa.Q
open Go.RowKit Go.Proofs.YtdlekcdedahbhaaW.PrintWords Go.Proofs.YtdlekcdedahbhaaW.PrintLast Go.Proofs.YtdlekcdedahbhaaW.PrintMore
attribute [local go_sem] max2_int min2_int max_two min_two max_three min_three max_four min_four   -- for this text's walks alone
set_option linter.unusedVariables false
set_option linter.unusedSimpArgs false
end Go.Proofs.Ytdlekcdedahbhaa.Q
namespace Go.Proofs.Ytdlekcdedahbhaa.Q
open Go.RowKit Go.Proofs.YtdlekcdedahbhaaW.PrintWords Go.Proofs.YtdlekcdedahbhaaW.PrintLast Go.Proofs.YtdlekcdedahbhaaW.PrintMore
attribute [local go_sem] max2_int min2_int max_two min_two max_three min_three max_four min_four   -- for this text's walks alone
set_option linter.unusedVariables false
set_option linter.unusedSimpArgs false
end Go.Proofs.Ytdlekcdedahbhaa.Q
namespace Go.Proofs.Ytdlekcdedahbhaa.Q
open Go.RowKit Go.Proofs.YtdlekcdedahbhaaW.PrintWords Go.Proofs.YtdlekcdedahbhaaW.PrintLast Go.Proofs.YtdlekcdedahbhaaW.PrintMore
attribute [local go_sem] max2_int min2_int max_two min_two max_three min_three max_four min_four   -- for this text's walks alone
set_option linter.unusedVariables false
set_option linter.unusedSimpArgs false
end Go.Proofs.Ytdlekcdedahbhaa.Q
namespace Go.Proofs.Ytdlekcdedahbhaa.Q
open Go.RowKit Go.Proofs.YtdlekcdedahbhaaW.PrintWords Go.Proofs.YtdlekcdedahbhaaW.PrintLast Go.Proofs.YtdlekcdedahbhaaW.PrintMore
attribute [local go_sem] max2_int min2_int max_two min_two max_three min_three max_four min_four   -- for this text's walks alone
set_option linter.unusedVariables false
set_option linter.unusedSimpArgs false
end Go.Proofs.Ytdlekcdedahbhaa.Q
namespace Go.Proofs.Ytdlekcdedahbhaa.Q
open Go.RowKit Go.Proofs.YtdlekcdedahbhaaW.PrintWords Go.Proofs.YtdlekcdedahbhaaW.PrintLast Go.Proofs.YtdlekcdedahbhaaW.PrintMore
attribute [local go_sem] max2_int min2_int max_two min_two max_three min_three max_four min_four   -- for this text's walks alone
set_option linter.unusedVariables false
set_option linter.unusedSimpArgs false
end Go.Proofs.Ytdlekcdedahbhaa.Q
namespace Go.Proofs.Ytdlekcdedahbhaa.Q
open Go.RowKit Go.Proofs.YtdlekcdedahbhaaW.PrintWords Go.Proofs.YtdlekcdedahbhaaW.PrintLast Go.Proofs.YtdlekcdedahbhaaW.PrintMore
attribute [local go_sem] max2_int min2_int max_two min_two max_three min_three max_four min_four   -- for this text's walks alone
set_option linter.unusedVariables false
set_option linter.unusedSimpArgs false
end Go.Proofs.Ytdlekcdedahbhaa.Q
namespace Go.Proofs.Ytdlekcdedahbhaa.Q
open Go.RowKit Go.Proofs.YtdlekcdedahbhaaW.PrintWords Go.Proofs.YtdlekcdedahbhaaW.PrintLast Go.Proofs.YtdlekcdedahbhaaW.PrintMore
attribute [local go_sem] max2_int min2_int max_two min_two max_three min_three max_four min_four   -- for this text's walks alone
set_option linter.unusedVariables false
set_option linter.unusedSimpArgs false
end Go.Proofs.Ytdlekcdedahbhaa.Q
namespace Go.Proofs.Ytdlekcdedahbhaa.Q
open Go.RowKit Go.Proofs.YtdlekcdedahbhaaW.PrintWords Go.Proofs.YtdlekcdedahbhaaW.PrintLast Go.Proofs.YtdlekcdedahbhaaW.PrintMore
attribute [local go_sem] max2_int min2_int max_two min_two max_three min_three max_four min_four   -- for this text's walks alone
set_option linter.unusedVariables false
set_option linter.unusedSimpArgs false
def lw_House_tariff.f (a0_0 : Int) (a0_1 : Int) (a0_2 : Int) (a0_3 : Int) (a0_4 : Int) (l0_5 : List (S107)) : Option (Int × Int × Int × Int × Int) := some (Int.tmod (wrap64 (a0_0)) 61, Int.tmod (wrap64 (a0_1)) 61, Int.tmod (wrap64 (a0_2)) 61, wrap64 (a0_3), Int.tmod (wrap64 (a0_4)) 61)
set_option maxHeartbeats 8000000 in
set_option maxRecDepth 100000 in
theorem lw_House_tariff.calls (a0_0 : Int) (a0_1 : Int) (a0_2 : Int) (a0_3 : Int) (a0_4 : Int) (A0_5 : Option Addr) (c0_5 : Nat) (l0_5 : List (S107)) (r1 : Int) (r2 : Int) (r3 : Int) (r4 : Int) (r5 : Int) (w : World) (hr0_5 : Kd.C k107 w A0_5 l0_5.length l0_5) (hc0_5 : l0_5.length ≤ c0_5) (h : lw_House_tariff.f a0_0 a0_1 a0_2 a0_3 a0_4 l0_5 = some (r1, r2, r3, r4, r5)) :
  Calls Try.prog 48 #[.agg #[.int .u8 a0_0, .int .u8 a0_1, .int .u8 a0_2, .int .u8 a0_3, .int .u8 a0_4, .slice A0_5 l0_5.length c0_5]] w fun e w' => e = .returned (.agg #[.int .i64 r1, .int .i64 r2, .int .i64 r3, .int .i64 r4, .int .i64 r5]) ∧ Below w.heap.size w w' := by
 have hu90 := Try.underlying90; have hu23 := Try.underlying23; have hu87 := Try.underlying87; have HR0_5 := Aside0.mk hr0_5; have HC0_5 := Aside0.mk hc0_5; clear hr0_5 hc0_5; have HB := Aside0.mk (Below.refl w.heap.size w); have H : (some (Int.tmod (wrap64 (a0_0)) 61, Int.tmod (wrap64 (a0_1)) 61, Int.tmod (wrap64 (a0_2)) 61, wrap64 (a0_3), Int.tmod (wrap64 (a0_4)) 61)) = some (r1, r2, r3, r4, r5) := h; clear h; simp only [Option.some.injEq, Prod.mk.injEq] at H; obtain ⟨rfl, rfl, rfl, rfl, rfl⟩ := H
 go_enter Try.func48, Try.ntmps48
 go_wp2_with (first | ((with_reducible refine gate_dst (N := 1) rfl ?_); refine box_event ?hg (N := 1) ?hd (cs := #[.int .u8 a0_0, .int .u8 a0_1, .int .u8 a0_2, .int .u8 a0_3, .int .u8 a0_4, .slice A0_5 l0_5.length c0_5]) (t := 90) ?hr ?_; (case hd => rfl); (case hg => rfl); (case hr => first | (go_simp; done) | (go_simp; rfl)); intro gb583 hg w2 hbox hb; have BK583 := Aside0.mk (hbox); have GW583 := Aside0.mk (sqZ hg HB); have GE583 := Aside0.mk (sqZ hg HB); replace HB := sqb hb HB; clear hb hbox hg) | ((with_reducible refine gate_dst (N := 2) rfl ?_); refine box_event ?hg (N := 2) ?hd (cs := #[.int .i64 0, .int .i64 0, .int .i64 0, .int .i64 0, .int .i64 0]) (t := 23) ?hr ?_; (case hd => rfl); (case hg => rfl); (case hr => first | (go_simp; done) | (go_simp; rfl)); intro gb584 hg w3 hbox hb; have BK584 := Aside0.mk (hbox); have GW584 := Aside0.mk (sqZ hg HB); have GE584 := Aside0.mk (sqZ hg HB); replace HB := sqb hb HB; have NB583_584 := Aside0.mk (sqL hg BK583); have NB584_583 := Aside0.mk (sqG hg BK583); replace BK583 := sqk BK583 hb; clear hb hbox hg; have hnb4 := NB583_584.out; have hnc4 := NB584_583.out; have hcz5_0 := sqc0 BK583; have hcz5_1 := sqc1 BK583; have hcz5_2 := sqc2 BK583; have hcz5_3 : w3.cell? ⟨gb583, 3, none⟩ = some (.int .u8 a0_3) := (blk_cell BK583.out 3).trans rfl; have hcz5_4 : w3.cell? ⟨gb583, 4, none⟩ = some (.int .u8 a0_4) := (blk_cell BK583.out 4).trans rfl; have hcz5_5 : w3.cell? ⟨gb583, 5, none⟩ = some (.slice A0_5 l0_5.length c0_5) := (blk_cell BK583.out 5).trans rfl; have hfz5_0 := blk_frozen BK583.out 0; have hfz5_1 := blk_frozen BK583.out 1; have hfz5_2 := blk_frozen BK583.out 2; have hfz5_3 := blk_frozen BK583.out 3; have hfz5_4 := blk_frozen BK583.out 4; have hfz5_5 := blk_frozen BK583.out 5) | ((with_reducible refine gate_dst (N := 3) rfl ?_); refine box_event ?hg (N := 3) ?hd (cs := #[.int .u8 0, .int .u8 0, .int .u8 0, .int .u8 0, .int .u8 0]) (t := 87) ?hr ?_; (case hd => rfl); (case hg => rfl); (case hr => first | (go_simp; done) | (go_simp; rfl)); intro gb585 hg w6 hbox hb; have BK585 := Aside0.mk (hbox); have GW585 := Aside0.mk (sqZ hg HB); have GE585 := Aside0.mk (sqZ hg HB); replace HB := sqb hb HB; have NB583_585 := Aside0.mk (sqL hg BK583); have NB585_583 := Aside0.mk (sqG hg BK583); replace BK583 := sqk BK583 hb; have NB584_585 := Aside0.mk (sqL hg BK584); have NB585_584 := Aside0.mk (sqG hg BK584); replace BK584 := sqk BK584 hb; clear hb hbox hg; have hnb7 := NB585_583.out; have hnc7 := NB583_585.out; have hnb8 := NB585_584.out; have hnc8 := NB584_585.out; have hcz9_0 := sqc0 BK585; have hcz9_1 := sqc1 BK585; have hcz9_2 := sqc2 BK585; have hcz9_3 : w6.cell? ⟨gb585, 3, none⟩ = some (.int .u8 0) := (blk_cell BK585.out 3).trans rfl; have hcz9_4 : w6.cell? ⟨gb585, 4, none⟩ = some (.int .u8 0) := (blk_cell BK585.out 4).trans rfl; have hfz9_0 := blk_frozen BK585.out 0; have hfz9_1 := blk_frozen BK585.out 1; have hfz9_2 := blk_frozen BK585.out 2; have hfz9_3 := blk_frozen BK585.out 3; have hfz9_4 := blk_frozen BK585.out 4; have hcz10_0 := sqc0 BK584; have hcz10_1 := sqc1 BK584; have hcz10_2 := sqc2 BK584; have hcz10_3 : w6.cell? ⟨gb584, 3, none⟩ = some (.int .i64 0) := (blk_cell BK584.out 3).trans rfl; have hcz10_4 : w6.cell? ⟨gb584, 4, none⟩ = some (.int .i64 0) := (blk_cell BK584.out 4).trans rfl; have hfz10_0 := blk_frozen BK584.out 0; have hfz10_1 := blk_frozen BK584.out 1; have hfz10_2 := blk_frozen BK584.out 2; have hfz10_3 := blk_frozen BK584.out 3; have hfz10_4 := blk_frozen BK584.out 4))
 refine bodyPost_ret (results_cell_row rfl _ _ gb584 23 #[.int .i64 (Int.tmod (wrap64 (a0_0)) 61), .int .i64 (Int.tmod (wrap64 (a0_1)) 61), .int .i64 (Int.tmod (wrap64 (a0_2)) 61), .int .i64 (wrap64 (a0_3)), .int .i64 (Int.tmod (wrap64 (a0_4)) 61)] (0, 0) _ rfl (by (with_reducible repeat (first | refine blk_drewN ?_ _ | refine blk_drew ?_ | refine blk_alloc ?_ _)); refine blk_put (cs := #[.int .i64 (Int.tmod (wrap64 (a0_0)) 61), .int .i64 (Int.tmod (wrap64 (a0_1)) 61), .int .i64 (Int.tmod (wrap64 (a0_2)) 61), .int .i64 (wrap64 (a0_3)), .int .i64 0]) ?_ 4 _ rfl; (with_reducible repeat (first | refine blk_drewN ?_ _ | refine blk_drew ?_ | refine blk_alloc ?_ _)); refine blk_put (cs := #[.int .i64 (Int.tmod (wrap64 (a0_0)) 61), .int .i64 (Int.tmod (wrap64 (a0_1)) 61), .int .i64 (Int.tmod (wrap64 (a0_2)) 61), .int .i64 0, .int .i64 0]) ?_ 3 _ rfl; (with_reducible repeat (first | refine blk_drewN ?_ _ | refine blk_drew ?_ | refine blk_alloc ?_ _)); refine blk_put (cs := #[.int .i64 (Int.tmod (wrap64 (a0_0)) 61), .int .i64 (Int.tmod (wrap64 (a0_1)) 61), .int .i64 0, .int .i64 0, .int .i64 0]) ?_ 2 _ rfl; (with_reducible repeat (first | refine blk_drewN ?_ _ | refine blk_drew ?_ | refine blk_alloc ?_ _)); refine blk_put (cs := #[.int .i64 (Int.tmod (wrap64 (a0_0)) 61), .int .i64 0, .int .i64 0, .int .i64 0, .int .i64 0]) ?_ 1 _ rfl; (with_reducible repeat (first | refine blk_drewN ?_ _ | refine blk_drew ?_ | refine blk_alloc ?_ _)); refine blk_put (cs := #[.int .i64 0, .int .i64 0, .int .i64 0, .int .i64 0, .int .i64 0]) ?_ 0 _ rfl; (with_reducible repeat (first | refine blk_drewN ?_ _ | refine blk_drew ?_ | refine blk_alloc ?_ _)); refine blk_far ?_ NB584_585.out _; (with_reducible repeat (first | refine blk_drewN ?_ _ | refine blk_drew ?_ | refine blk_alloc ?_ _)); refine blk_far ?_ NB584_585.out _; (with_reducible repeat (first | refine blk_drewN ?_ _ | refine blk_drew ?_ | refine blk_alloc ?_ _)); refine blk_far ?_ NB584_585.out _; (with_reducible repeat (first | refine blk_drewN ?_ _ | refine blk_drew ?_ | refine blk_alloc ?_ _)); refine blk_far ?_ NB584_585.out _; (with_reducible repeat (first | refine blk_drewN ?_ _ | refine blk_drew ?_ | refine blk_alloc ?_ _)); refine blk_far ?_ NB584_585.out _; (with_reducible repeat (first | refine blk_drewN ?_ _ | refine blk_drew ?_ | refine blk_alloc ?_ _)); exact BK584.out) Try.underlying23 rfl sqF) rfl ?_; exact ⟨by first | rfl | (simp [errW_none, errW_some] <;> rfl) | (simp [*, errW_none, errW_some] <;> rfl), sqB HB⟩
end Go.Proofs.Ytdlekcdedahbhaa.Q
namespace Go.Proofs.Ytdlekcdedahbhaa.Q
open Go.RowKit Go.Proofs.YtdlekcdedahbhaaW.PrintWords Go.Proofs.YtdlekcdedahbhaaW.PrintLast Go.Proofs.YtdlekcdedahbhaaW.PrintMore
attribute [local go_sem] max2_int min2_int max_two min_two max_three min_three max_four min_four   -- for this text's walks alone
set_option linter.unusedVariables false
set_option linter.unusedSimpArgs false
def lw_House_works.l0 : Nat → List (S25) → Int → Int → Int → Int → Int → Int → List (S107) → Option ((List (S25)))
 | 0, _, _, _, _, _, _, _, _ => none
 | k + 1, x3, x4, x587000, x587001, x587002, x587003, x587004, x587005 => if x4 < (x587005.length : Int) then (if x4 < 6 then (if 0 ≤ x4 then (if x3.length < 5864062014805 then (lw_House_works.l0 k (x3 ++ [(⟨Int.tmod (wrap64 ((rd_T107 x587005 x4).f0)) 201, wrap64 (7 * (wrap64 ((rd_T107 x587005 x4).f1))), Int.tmod (wrap64 ((rd_T107 x587005 x4).f2)) 61⟩ : S25)]) (wrap64 (x4 + 1)) x587000 x587001 x587002 x587003 x587004 x587005) else (none)) else (none)) else (some x3)) else (some x3)
def lw_House_works.f (k : Nat) (a0_0 : Int) (a0_1 : Int) (a0_2 : Int) (a0_3 : Int) (a0_4 : Int) (l0_5 : List (S107)) : Option ((List (S25))) := lw_House_works.l0 k (([] : List (S25))) 0 a0_0 a0_1 a0_2 a0_3 a0_4 l0_5
set_option maxHeartbeats 8000000 in
set_option maxRecDepth 100000 in
theorem lw_House_works.calls (k : Nat) (a0_0 : Int) (a0_1 : Int) (a0_2 : Int) (a0_3 : Int) (a0_4 : Int) (A0_5 : Option Addr) (c0_5 : Nat) (l0_5 : List (S107)) (r : List (S25)) (w : World) (hr0_5 : Kd.C k107 w A0_5 l0_5.length l0_5) (hc0_5 : l0_5.length ≤ c0_5) (h : lw_House_works.f k a0_0 a0_1 a0_2 a0_3 a0_4 l0_5 = some r) :
  Calls Try.prog 49 #[.agg #[.int .u8 a0_0, .int .u8 a0_1, .int .u8 a0_2, .int .u8 a0_3, .int .u8 a0_4, .slice A0_5 l0_5.length c0_5]] w fun e w' => ∃ v0_ : Value, e = .returned (v0_) ∧ Kd.R k25 25 w' w.heap.size (fun _ => True) v0_ r ∧ Below w.heap.size w w' := by
 have hu90 := Try.underlying90; have hu107 := Try.underlying107; have hu25 := Try.underlying25; have HR0_5 := Aside0.mk hr0_5; have HC0_5 := Aside0.mk hc0_5; clear hr0_5 hc0_5; have HB := Aside0.mk (Below.refl w.heap.size w); have H : (lw_House_works.l0 k (([] : List (S25))) 0 a0_0 a0_1 a0_2 a0_3 a0_4 l0_5) = some r := h; clear h; replace H : ∃ y_ : List (S25), y_ = (([] : List (S25))) ∧ (lw_House_works.l0 k y_ 0 a0_0 a0_1 a0_2 a0_3 a0_4 l0_5) = some r := ⟨_, rfl, sqJ H⟩; obtain ⟨y587, hy587, H⟩ := H; have Ny587 := Aside0.mk hy587; clear hy587; have H' := Aside0.mk H; clear H; go_enter Try.func49, Try.ntmps49
 go_wp2_with (first | ((with_reducible refine gate_dst (N := 1) rfl ?_); refine box_event ?hg (N := 1) ?hd (cs := #[.int .u8 a0_0, .int .u8 a0_1, .int .u8 a0_2, .int .u8 a0_3, .int .u8 a0_4, .slice A0_5 l0_5.length c0_5]) (t := 90) ?hr ?_; (case hd => rfl); (case hg => rfl); (case hr => first | (go_simp; done) | (go_simp; rfl)); intro gb586 hg w2 hbox hb; have BK586 := Aside0.mk (hbox); have GW586 := Aside0.mk (sqZ hg HB); have GE586 := Aside0.mk (sqZ hg HB); replace HB := sqb hb HB; clear hb hbox hg) | ((with_reducible refine gate_dst (N := 6) rfl ?_); refine Kd.R_lit k25 _ 25 ?hg (N := 6) ?hd (xs := ([] : List (S25))) (inner := []) (ok := fun _ => True) (okp := fun _ => True) ?hr ?hp (fun _ hk => hk) trivial (Below.refl _ _) (Nat.le_refl _) (by simp) ?_; (case hd => rfl); (case hg => rfl); (case hr => first | (go_simp; done) | (go_simp; rfl)); (case hp => exact (Reps.none _ _)); intro v588 w3 ho4 hb hg_ hnew_; clear hg_ hnew_; (first | rw [← Ny587.out] at ho4 | (simp only [Int.reduceToNat] at ho4; rw [← Ny587.out] at ho4)); have HO589 := Aside0.mk (Kd.R_lower ho4 (below_size (sqB HB))); replace BK586 := sqk BK586 hb; replace HB := sqb hb HB; clear hb ho4))
 go_loopg [3, 4] k (fun kq v3 v4 w' => ∃ (x3_1 : List (S25)) (x4_1 : Int), v4 = .int .i64 x4_1 ∧ Aside0 (lw_House_works.l0 kq x3_1 x4_1 a0_0 a0_1 a0_2 a0_3 a0_4 l0_5 = some r) ∧ Aside0 (kq ≤ k) ∧ Aside0 (Kd.R k25 25 w' w.heap.size (fun _ => True) v3 x3_1) ∧ Aside0 (w'.heap[gb586]? = some (.cells #[.int .u8 a0_0, .int .u8 a0_1, .int .u8 a0_2, .int .u8 a0_3, .int .u8 a0_4, (.slice A0_5 l0_5.length c0_5)] 90 (0, 0))) ∧ Aside0 (Below w.heap.size w w'))
 case atStart => exact ⟨(y587), (0), sqE, H', ⟨Nat.le_refl _⟩, ⟨sqR HO589⟩, ⟨sqK BK586⟩, ⟨sqB HB⟩⟩
 case round =>
  clear H'; obtain ⟨x3_1, x4_1, rfl, HA, HK1, HO_3, BK586, HB⟩ := hrel
  cases gk with
  | zero => exact absurd HA.out (by simp [lw_House_works.l0])
  | succ k1 =>
   have H := HA.out; clear HA; simp only [lw_House_works.l0] at H
   by_cases c5 : x4_1 < (l0_5.length : Int)
   ·rw [if_pos c5] at H
    have c5b0 : decide (x4_1 < (l0_5.length : Int)) = true := decide_eq_true c5; clear c5
    by_cases c6 : x4_1 < 6
    ·rw [if_pos c6] at H
     have c6b0 : decide (x4_1 < 6) = true := decide_eq_true c6; clear c6
     by_cases c7 : 0 ≤ x4_1
     ·rw [if_pos c7] at H
      have c7b0 : decide (0 ≤ x4_1) = true := decide_eq_true c7; clear c7
      by_cases c8 : x3_1.length < 5864062014805
      ·rw [if_pos c8] at H
       have LMc8 := Aside0.mk c8; clear c8; replace H : ∃ y_ : List (S25), y_ = (x3_1 ++ [(⟨Int.tmod (wrap64 ((rd_T107 l0_5 x4_1).f0)) 201, wrap64 (7 * (wrap64 ((rd_T107 l0_5 x4_1).f1))), Int.tmod (wrap64 ((rd_T107 l0_5 x4_1).f2)) 61⟩ : S25)]) ∧ (lw_House_works.l0 k1 y_ (wrap64 (x4_1 + 1)) a0_0 a0_1 a0_2 a0_3 a0_4 l0_5) = some r := ⟨_, rfl, sqJ H⟩; obtain ⟨y592, hy592, H⟩ := H; have Ny592 := Aside0.mk hy592; clear hy592; have H' := Aside0.mk H; clear H; have hcz9_0 := sqc0 BK586; have hcz9_1 := sqc1 BK586; have hcz9_2 := sqc2 BK586; have hcz9_3 : wr.cell? ⟨gb586, 3, none⟩ = some (.int .u8 a0_3) := (blk_cell BK586.out 3).trans rfl; have hcz9_4 : wr.cell? ⟨gb586, 4, none⟩ = some (.int .u8 a0_4) := (blk_cell BK586.out 4).trans rfl; have hcz9_5 : wr.cell? ⟨gb586, 5, none⟩ = some (.slice A0_5 l0_5.length c0_5) := (blk_cell BK586.out 5).trans rfl; have hfz9_0 := blk_frozen BK586.out 0; have hfz9_1 := blk_frozen BK586.out 1; have hfz9_2 := blk_frozen BK586.out 2; have hfz9_3 := blk_frozen BK586.out 3; have hfz9_4 := blk_frozen BK586.out 4; have hfz9_5 := blk_frozen BK586.out 5; have p590 : 0 ≤ (x4_1 : Int) := sqD; have q590 : x4_1 < (l0_5.length : Int) := sqD; obtain ⟨ad590, e590, hx590_0, hx590_1, hx590_2⟩ := at_T107 HR0_5.out x4_1 p590 q590
       cases e590
       replace hx590_0 := (HB.out.cell (World.block_lt_of_cell? w _ hx590_0)).trans hx590_0; replace hx590_1 := (HB.out.cell (World.block_lt_of_cell? w _ hx590_1)).trans hx590_1; replace hx590_2 := (HB.out.cell (World.block_lt_of_cell? w _ hx590_2)).trans hx590_2; replace p590 := eq_true p590; replace q590 := eq_true q590
       go_wp2_with (first | ((with_reducible refine gate_dst (N := 5) rfl ?_); refine box_event ?hg (N := 5) ?hd (cs := #[.int .u8 0, .int .u8 0, .int .u8 0]) (t := 107) ?hr ?_; (case hd => rfl); (case hg => rfl); (case hr => first | (go_simp; done) | (go_simp; rfl)); intro gb591 hg w10 hbox hb; replace HO_3 := Aside0.mk (Kd.R_below (sqR HO_3) hb); have BK591 := Aside0.mk (hbox); have GW591 := Aside0.mk (sqZ hg HB); have GE591 := Aside0.mk (sqZ hg HB); replace HB := sqb hb HB; have NB586_591 := Aside0.mk (sqL hg BK586); have NB591_586 := Aside0.mk (sqG hg BK586); replace BK586 := sqk BK586 hb; clear hb hbox hg; have hnb11 := NB591_586.out; have hnc11 := NB586_591.out; have hcz12_0 := sqc0 BK591; have hcz12_1 := sqc1 BK591; have hcz12_2 := sqc2 BK591; have hfz12_0 := blk_frozen BK591.out 0; have hfz12_1 := blk_frozen BK591.out 1; have hfz12_2 := blk_frozen BK591.out 2) | ((with_reducible refine gate_builtin (b := .append) (xs := #[.tmp 23, .tmp 37]) rfl ?_); at_builtin; refine Kd.R_append k25 (w0 := w) w.heap.size rfl (.tmp 23) (.tmp 37) 34 25 (.agg #[(.int .i64 0), (.int .i64 0), (.int .i64 0)]) 24 rfl Try.underlying34 info25 rfl (by decide) (by omega) u3 x3_1 (⟨Int.tmod (wrap64 ((rd_T107 l0_5 x4_1).f0)) 201, wrap64 (7 * (wrap64 ((rd_T107 l0_5 x4_1).f1))), Int.tmod (wrap64 ((rd_T107 l0_5 x4_1).f2)) 61⟩ : S25) [.int .i64 (Int.tmod (wrap64 ((rd_T107 l0_5 x4_1).f0)) 201), .int .i64 (wrap64 (7 * (wrap64 ((rd_T107 l0_5 x4_1).f1)))), .int .i64 (Int.tmod (wrap64 ((rd_T107 l0_5 x4_1).f2)) 61)] (fun _ => True) (fun _ => False) rfl (by first | (go_simp; done) | (go_simp; rfl)) ?aP (fun _ hk => hk.elim) ?aF ?aO ?aB ?aS ?aL ?_; (case aP => exact k25_mkM _ _ _ (⟨Int.tmod (wrap64 ((rd_T107 l0_5 x4_1).f0)) 201, wrap64 (7 * (wrap64 ((rd_T107 l0_5 x4_1).f1))), Int.tmod (wrap64 ((rd_T107 l0_5 x4_1).f2)) 61⟩ : S25)); (case aB => exact (sqB HB)); (case aF => exact (fun _ _ => trivial)); (case aO => exact (by (with_reducible repeat (first | apply Kd.R_alloc | apply Kd.R_drewN | apply Kd.R_drew)); exact Kd.R_mono (Kd.R_far (p := ⟨gb591, 2, none⟩) (Kd.R_far (p := ⟨gb591, 1, none⟩) (Kd.R_far (p := ⟨gb591, 0, none⟩) (Kd.R_types HO_3.out BK591.out (by decide)) (fun _ hk => hk.2) (.int .u8 ((rd_T107 l0_5 x4_1).f0))) (fun _ hk => hk.2) (.int .u8 ((rd_T107 l0_5 x4_1).f1))) (fun _ hk => hk.2) (.int .u8 ((rd_T107 l0_5 x4_1).f2))) (fun _ hk => trivial))); (case aS => exact (below_size (sqB HB))); (case aL => have := LMc8.out; omega); intro v593 w13 ho hb hg hat; rw [← Ny592.out] at ho; replace BK586 := Aside0.mk (blk_grown (g := gb586) (o := .cells #[.int .u8 a0_0, .int .u8 a0_1, .int .u8 a0_2, .int .u8 a0_3, .int .u8 a0_4, .slice (some ad590) l0_5.length c0_5] 90 (0, 0)) sqX hg (Kd.R_ne HO_3.out BK586.out (by decide))); replace BK591 := Aside0.mk (blk_grown (g := gb591) (o := .cells #[.int .u8 ((rd_T107 l0_5 x4_1).f0), .int .u8 ((rd_T107 l0_5 x4_1).f1), .int .u8 ((rd_T107 l0_5 x4_1).f2)] 107 (0, 0)) (by (with_reducible repeat (first | refine blk_drewN ?_ _ | refine blk_drew ?_ | refine blk_alloc ?_ _)); refine blk_put (cs := #[.int .u8 ((rd_T107 l0_5 x4_1).f0), .int .u8 ((rd_T107 l0_5 x4_1).f1), .int .u8 0]) ?_ 2 _ rfl; (with_reducible repeat (first | refine blk_drewN ?_ _ | refine blk_drew ?_ | refine blk_alloc ?_ _)); refine blk_put (cs := #[.int .u8 ((rd_T107 l0_5 x4_1).f0), .int .u8 0, .int .u8 0]) ?_ 1 _ rfl; (with_reducible repeat (first | refine blk_drewN ?_ _ | refine blk_drew ?_ | refine blk_alloc ?_ _)); refine blk_put (cs := #[.int .u8 0, .int .u8 0, .int .u8 0]) ?_ 0 _ rfl; (with_reducible repeat (first | refine blk_drewN ?_ _ | refine blk_drew ?_ | refine blk_alloc ?_ _)); exact BK591.out) hg (Kd.R_ne HO_3.out BK591.out (by decide))); replace HB := Aside0.mk (hb); have HO594 := Aside0.mk (ho); clear HO_3; clear ho hb hg hat))
       go_roundg k1
       case measure => have := HK1.out; omega
       case rel => exact ⟨(y592), (wrap64 (x4_1 + 1)), sqE, H', ⟨by have := HK1.out; omega⟩, ⟨sqR HO594⟩, ⟨sqK BK586⟩, ⟨sqB HB⟩⟩
      ·rw [if_neg c8] at H
       exact absurd H (by simp)
     ·rw [if_neg c7] at H
      exact absurd H (by simp)
    ·rw [if_neg c6] at H
     have c6b0 : decide (x4_1 < 6) = false := decide_eq_false c6; clear c6; obtain rfl := Option.some.inj H; have hcz14_0 := sqc0 BK586; have hcz14_1 := sqc1 BK586; have hcz14_2 := sqc2 BK586; have hcz14_3 : wr.cell? ⟨gb586, 3, none⟩ = some (.int .u8 a0_3) := (blk_cell BK586.out 3).trans rfl; have hcz14_4 : wr.cell? ⟨gb586, 4, none⟩ = some (.int .u8 a0_4) := (blk_cell BK586.out 4).trans rfl; have hcz14_5 : wr.cell? ⟨gb586, 5, none⟩ = some (.slice A0_5 l0_5.length c0_5) := (blk_cell BK586.out 5).trans rfl; have hfz14_0 := blk_frozen BK586.out 0; have hfz14_1 := blk_frozen BK586.out 1; have hfz14_2 := blk_frozen BK586.out 2; have hfz14_3 := blk_frozen BK586.out 3; have hfz14_4 := blk_frozen BK586.out 4; have hfz14_5 := blk_frozen BK586.out 5
     go_wp2
     go_ret
     exact ⟨_, by first | rfl | (simp [errW_none, errW_some] <;> rfl) | (simp [*, errW_none, errW_some] <;> rfl), by (with_reducible repeat (first | apply Kd.R_alloc | apply Kd.R_drewN | apply Kd.R_drew)); exact HO_3.out, sqB HB⟩
   ·rw [if_neg c5] at H
    have c5b0 : decide (x4_1 < (l0_5.length : Int)) = false := decide_eq_false c5; clear c5; obtain rfl := Option.some.inj H; have hcz15_0 := sqc0 BK586; have hcz15_1 := sqc1 BK586; have hcz15_2 := sqc2 BK586; have hcz15_3 : wr.cell? ⟨gb586, 3, none⟩ = some (.int .u8 a0_3) := (blk_cell BK586.out 3).trans rfl; have hcz15_4 : wr.cell? ⟨gb586, 4, none⟩ = some (.int .u8 a0_4) := (blk_cell BK586.out 4).trans rfl; have hcz15_5 : wr.cell? ⟨gb586, 5, none⟩ = some (.slice A0_5 l0_5.length c0_5) := (blk_cell BK586.out 5).trans rfl; have hfz15_0 := blk_frozen BK586.out 0; have hfz15_1 := blk_frozen BK586.out 1; have hfz15_2 := blk_frozen BK586.out 2; have hfz15_3 := blk_frozen BK586.out 3; have hfz15_4 := blk_frozen BK586.out 4; have hfz15_5 := blk_frozen BK586.out 5
    go_wp2
    go_ret
    exact ⟨_, by first | rfl | (simp [errW_none, errW_some] <;> rfl) | (simp [*, errW_none, errW_some] <;> rfl), by (with_reducible repeat (first | apply Kd.R_alloc | apply Kd.R_drewN | apply Kd.R_drew)); exact HO_3.out, sqB HB⟩
def lw_works.f (l0 : List (S25)) : Option ((List (S25))) := (some (([] : List (S25)) : List (S25))).bind fun y595 => (if y595.length + l0.length < 5864062014805 then (some (y595 ++ l0)) else (none))
set_option maxHeartbeats 8000000 in
set_option maxRecDepth 100000 in
theorem lw_works.calls (A0 : Option Addr) (c0 : Nat) (l0 : List (S25)) (r : List (S25)) (w : World) (hr0 : Kd.C k25 w A0 l0.length l0) (hc0 : l0.length ≤ c0) (h : lw_works.f l0 = some r) :
  Calls Try.prog 50 #[.slice A0 l0.length c0] w fun e w' => ∃ v0_ : Value, e = .returned (v0_) ∧ Kd.R k25 25 w' w.heap.size (fun _ => True) v0_ r ∧ Below w.heap.size w w' := by
 have HR0 := Aside0.mk hr0; have HC0 := Aside0.mk hc0; clear hr0 hc0; have HB := Aside0.mk (Below.refl w.heap.size w); have H : ((some (([] : List (S25)) : List (S25))).bind fun y595 => (if y595.length + l0.length < 5864062014805 then (some (y595 ++ l0)) else (none))) = some r := h; clear h; replace H : ∃ y_ : List (S25), y_ = (([] : List (S25))) ∧ (if y_.length + l0.length < 5864062014805 then (some (y_ ++ l0)) else (none)) = some r := ⟨_, rfl, sqJ H⟩; obtain ⟨y595, hy595, H⟩ := H; have Ny595 := Aside0.mk hy595; clear hy595
 by_cases c2 : y595.length + l0.length < 5864062014805
 ·rw [if_pos c2] at H
  have LMc2 := Aside0.mk c2; clear c2; replace H : ∃ y_ : List (S25), y_ = (y595 ++ l0) ∧ (some y_) = some r := ⟨_, rfl, sqJ H⟩; obtain ⟨y598, hy598, H⟩ := H; have Ny598 := Aside0.mk hy598; clear hy598; obtain rfl := Option.some.inj H
  go_enter Try.func50, Try.ntmps50
  go_wp2_with (first | ((with_reducible refine gate_dst (N := 3) rfl ?_); refine Kd.R_lit k25 _ 25 ?hg (N := 3) ?hd (xs := ([] : List (S25))) (inner := []) (ok := fun _ => True) (okp := fun _ => True) ?hr ?hp (fun _ hk => hk) trivial (Below.refl _ _) (Nat.le_refl _) (by simp) ?_; (case hd => rfl); (case hg => rfl); (case hr => first | (go_simp; done) | (go_simp; rfl)); (case hp => exact (Reps.none _ _)); intro v596 w3 ho4 hb hg_ hnew_; clear hg_ hnew_; (first | rw [← Ny595.out] at ho4 | (simp only [Int.reduceToNat] at ho4; rw [← Ny595.out] at ho4)); have HO597 := Aside0.mk (Kd.R_lower ho4 (below_size (sqB HB))); replace HB := sqb hb HB; clear hb ho4) | ((with_reducible refine gate_builtin (b := .append) (xs := #[.tmp 3, .tmp 4]) rfl ?_); at_builtin; refine Kd.R_append_rows k25 (w0 := w) w.heap.size rfl (.tmp 3) (.tmp 4) 34 25 (.agg #[(.int .i64 0), (.int .i64 0), (.int .i64 0)]) 24 rfl Try.underlying34 info25 rfl (by decide) (by omega) v596 y595 l0 _ _ _ (fun _ => True) (fun _ => False) rfl rfl ?aO ?aR (fun _ _ h => h) (fun _ h => h.elim) ?aF ?aB ?aS ?aL ?_; (case aR => exact sqQ HR0 HB); (case aB => exact (sqB HB)); (case aF => exact (fun _ _ => trivial)); (case aO => exact (sqR HO597)); (case aS => exact (below_size (sqB HB))); (case aL => have := LMc2.out; omega); intro v599 w5 ho hb hg hat; rw [← Ny598.out] at ho; replace HB := Aside0.mk (hb); have HO600 := Aside0.mk (ho); clear HO597; clear ho hb hg hat))
  go_ret
  exact ⟨_, by first | rfl | (simp [errW_none, errW_some] <;> rfl) | (simp [*, errW_none, errW_some] <;> rfl), by (with_reducible repeat (first | apply Kd.R_alloc | apply Kd.R_drewN | apply Kd.R_drew)); exact HO600.out, sqB HB⟩
 ·rw [if_neg c2] at H
  exact absurd H (by simp)
def lw_ints.f (l0 : List Int) : Option (List Int) := (some (([] : List Int) : List Int)).bind fun y601 => (if y601.length + l0.length < 17592186044416 then (some (y601 ++ l0)) else (none))
set_option maxHeartbeats 8000000 in
set_option maxRecDepth 100000 in
theorem lw_ints.calls (A0 : Option Addr) (c0 : Nat) (l0 : List Int) (r : List Int) (w : World) (hr0 : Kd.C (Kd.int .i64) w A0 l0.length l0) (hc0 : l0.length ≤ c0) (h : lw_ints.f l0 = some r) :
  Calls Try.prog 51 #[.slice A0 l0.length c0] w fun e w' => ∃ v0_ : Value, e = .returned (v0_) ∧ Kd.R (Kd.int .i64) 3 w' w.heap.size (fun _ => True) v0_ r ∧ Below w.heap.size w w' := by
 have HR0 := Aside0.mk hr0; have HC0 := Aside0.mk hc0; clear hr0 hc0; have HB := Aside0.mk (Below.refl w.heap.size w); have H : ((some (([] : List Int) : List Int)).bind fun y601 => (if y601.length + l0.length < 17592186044416 then (some (y601 ++ l0)) else (none))) = some r := h; clear h; replace H : ∃ y_ : List Int, y_ = (([] : List Int)) ∧ (if y_.length + l0.length < 17592186044416 then (some (y_ ++ l0)) else (none)) = some r := ⟨_, rfl, sqJ H⟩; obtain ⟨y601, hy601, H⟩ := H; have Ny601 := Aside0.mk hy601; clear hy601
 by_cases c2 : y601.length + l0.length < 17592186044416
 ·rw [if_pos c2] at H
  have LMc2 := Aside0.mk c2; clear c2; replace H : ∃ y_ : List Int, y_ = (y601 ++ l0) ∧ (some y_) = some r := ⟨_, rfl, sqJ H⟩; obtain ⟨y604, hy604, H⟩ := H; have Ny604 := Aside0.mk hy604; clear hy604; obtain rfl := Option.some.inj H
  go_enter Try.func51, Try.ntmps51
  go_wp2_with (first | ((with_reducible refine gate_dst (N := 3) rfl ?_); refine Kd.R_lit (Kd.int .i64) _ 3 ?hg (N := 3) ?hd (xs := ([] : List Int)) (inner := []) (ok := fun _ => True) (okp := fun _ => True) ?hr ?hp (fun _ hk => hk) trivial (Below.refl _ _) (Nat.le_refl _) (by simp) ?_; (case hd => rfl); (case hg => rfl); (case hr => first | (go_simp; done) | (go_simp; rfl)); (case hp => exact (Reps.none _ _)); intro v602 w3 ho4 hb hg_ hnew_; clear hg_ hnew_; (first | rw [← Ny601.out] at ho4 | (simp only [Int.reduceToNat] at ho4; rw [← Ny601.out] at ho4)); have HO603 := Aside0.mk (Kd.R_lower ho4 (below_size (sqB HB))); replace HB := sqb hb HB; clear hb ho4) | ((with_reducible refine gate_builtin (b := .append) (xs := #[.tmp 3, .tmp 4]) rfl ?_); at_builtin; refine Kd.R_append_rows (Kd.int .i64) (w0 := w) w.heap.size rfl (.tmp 3) (.tmp 4) 35 3 (.int .i64 0) 8 rfl Try.underlying35 info3 rfl (by decide) (by omega) v602 y601 l0 _ _ _ (fun _ => True) (fun _ => False) rfl rfl ?aO ?aR (fun _ _ h => h) (fun _ h => h.elim) ?aF ?aB ?aS ?aL ?_; (case aR => exact sqQ HR0 HB); (case aB => exact (sqB HB)); (case aF => exact (fun _ _ => trivial)); (case aO => exact (sqR HO603)); (case aS => exact (below_size (sqB HB))); (case aL => have := LMc2.out; omega); intro v605 w5 ho hb hg hat; rw [← Ny604.out] at ho; replace HB := Aside0.mk (hb); have HO606 := Aside0.mk (ho); clear HO603; clear ho hb hg hat))
  go_ret
  exact ⟨_, by first | rfl | (simp [errW_none, errW_some] <;> rfl) | (simp [*, errW_none, errW_some] <;> rfl), by (with_reducible repeat (first | apply Kd.R_alloc | apply Kd.R_drewN | apply Kd.R_drew)); exact HO606.out, sqB HB⟩
 ·rw [if_neg c2] at H
  exact absurd H (by simp)
end Go.Proofs.Ytdlekcdedahbhaa.Q
