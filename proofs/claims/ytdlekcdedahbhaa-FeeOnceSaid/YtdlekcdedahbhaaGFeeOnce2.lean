/- Functions printed by the kit's printer over these walks, and the plain law. No condition. -/
import Derived.Test.YtdlekcdedahbhaaX0
import Derived.WalkKit
import Derived.ProofKit
import Derived.OpenShut
import Derived.ShutString
import Derived.ChangeOld
import Derived.Below
import Derived.SizedLaws
import Derived.ChangeArms
import Derived.WideShapes
import Derived.Carry
import Derived.Test.YtdlekcdedahbhaaGFeeOnce0
import Derived.Test.YtdlekcdedahbhaaGFeeOnce1
set_option linter.unusedVariables false
set_option linter.unusedSimpArgs false
namespace Go.Proofs.Ytdlekcdedahbhaa.Rw
open Go.RowKit Go.Proofs.YtdlekcdedahbhaaW.PrintWords
set_option linter.unusedVariables false
set_option linter.unusedSimpArgs false
theorem add_two (a : Addr) (x y : Nat) : (a.add x).add y = a.add (x + y) := by
 unfold Addr.add
 by_cases h1 : x = 0
 ·subst h1; simp
 ·by_cases h2 : y = 0
  ·subst h2; simp
  ·have h3 : ¬ x + y = 0 := by omega
   simp [h1, h2, Nat.add_assoc]
structure Opens {α : Type} (P : Program) (t : TypeId) (d : Kd α) (good : α → Prop) : Prop where
 size : d.sz = P.cellsOf t
 read : ∀ {H : Type} {enc : TypeId × Value → H} {w : World} {base : Nat} {sp : Nat → Bool} {held : Bool} {fuel : Nat} {cs : List Value} {x : DataW H × List MemPlace}, DataW.trod enc P w base sp held fuel t cs = some x → ∃ y : α, d.K w y cs ∧ good y
theorem Opens.int {P : Program} {t : TypeId} {k : IntKind} (ht : P.underlying t = some (.int k)) (hc : 1 = P.cellsOf t) : Opens P t (Kd.int k) (fun n => (Lit.int k n).wf = true) := ⟨hc, fun h => by
 obtain ⟨n, rfl, rfl, hw⟩ := DataW.trod_int ht h
 exact ⟨n, rfl, hw⟩⟩
theorem Opens.slice {α : Type} {P : Program} {t e : TypeId} {d : Kd α} {good : α → Prop} (ht : P.underlying t = some (.slice e)) (hc : 1 = P.cellsOf t) (h : Opens P e d good) : Opens P t (Kd.slice e d) (fun l => ∀ x ∈ l, good x) := ⟨hc, fun {H enc w base sp held fuel cs x} hx => by
 rcases DataW.trod_slice ht hx with ⟨rfl, _⟩ | ⟨a, len, cap, elems, rest, n, _, rfl, _, hb, hl, hm, hlen, hel, _, _⟩
 ·exact ⟨[], ⟨none, 0, rfl, Nat.le_refl _, Kd.C_nil _ _⟩, fun x hx => by cases hx⟩
 ·have key : ∀ m, m ≤ len → ∃ l : List α, l.length = m ∧ ∀ i z, l[i]? = some z → good z ∧ ∃ c, c.length = d.sz ∧ d.K w z c ∧ ∀ j u, c[j]? = some u → w.cell? (a.add (i * d.sz + j)) = some u := by
   intro m
   induction m with
   | zero => intro _; exact ⟨[], rfl, fun i z hz => by simp at hz⟩
   | succ m ih =>
    intro hle; obtain ⟨l, hll, hl2⟩ := ih (by omega); have h1 := hel m (by omega); rw [List.getElem?_eq_getElem (by omega), Option.bind_eq_some_iff] at h1; obtain ⟨c, hc1, hc2⟩ := h1; obtain ⟨z, hz, hg⟩ := h.read hc2; obtain ⟨_, hcl, hcc⟩ := World.cells?_some hc1; refine ⟨l ++ [z], by simp [hll], fun i z' hz' => ?_⟩
    rcases Nat.lt_or_ge i l.length with hlt | hge
    ·rw [List.getElem?_append_left hlt] at hz'
     exact hl2 i z' hz'
    ·rw [List.getElem?_append_right hge] at hz'
     have e : i = m := by
      rcases Nat.eq_zero_or_pos (i - l.length) with e | e
      ·omega
      ·rw [List.getElem?_eq_none (by simp; omega)] at hz'; cases hz'
     subst e; rw [show i - l.length = 0 by omega] at hz'; simp only [List.getElem?_cons_zero, Option.some.injEq] at hz'; subst hz'; refine ⟨hg, c, by rw [hcl, h.size], hz, fun j u hu => ?_⟩
     have hj : j < P.cellsOf e := by rw [← hcl]; exact (List.getElem?_eq_some_iff.1 hu).1
     have := hcc j hj; rw [hu] at this; rw [h.size, ← this, add_two]
  obtain ⟨l, hll, hl2⟩ := key len (Nat.le_refl _); refine ⟨l, ⟨some a, cap, by rw [hll], by omega, rfl, by unfold maxLen at hm; omega, fun _ => ⟨a, rfl, fun j p hj => ?_⟩⟩, fun x hx => ?_⟩
  ·obtain ⟨_, c, h1, h2, h3⟩ := hl2 j p hj
   exact ⟨c, h1, h2, h3⟩
  ·obtain ⟨i, hi⟩ := List.getElem?_of_mem hx
   exact (hl2 i x hi).1⟩
structure FOpens {α : Type} (P : Program) (fs : List Field) (off : Nat) (d : Kd α) (good : α → Prop) : Prop where
 read : ∀ {H : Type} {enc : TypeId × Value → H} {w : World} {base : Nat} {sp : Nat → Bool} {held : Bool} {fuel : Nat} {cs : List Value},
 (∀ (i : Nat) (f : Field), fs[i]? = some f → ∃ y, DataW.trod enc P w base sp held fuel f.type ((cs.drop f.offset).take (P.cellsOf f.type)) = some y) → cs.length = off + d.sz → ∃ y : α, d.K w y (cs.drop off) ∧ good y
theorem FOpens.one {α : Type} {P : Program} {f : Field} {off : Nat} {d : Kd α} {good : α → Prop} (h : Opens P f.type d good) (ho : f.offset = off) : FOpens P [f] off d good := ⟨fun {H enc w base sp held fuel cs} hf hl => by
 obtain ⟨y, hy⟩ := hf 0 f rfl; rw [ho, ← h.size, List.take_of_length_le (by rw [List.length_drop]; omega)] at hy
 exact h.read hy⟩
theorem FOpens.cons {α β : Type} {P : Program} {f : Field} {fs : List Field} {off : Nat} {d1 : Kd α} {d2 : Kd β} {g1 : α → Prop} {g2 : β → Prop} (h1 : Opens P f.type d1 g1) (ho : f.offset = off) (h2 : FOpens P fs (off + d1.sz) d2 g2) : FOpens P (f :: fs) off (Kd.pair d1 d2) (fun x => g1 x.1 ∧ g2 x.2) := ⟨fun {H enc w base sp held fuel cs} hf hl => by
 have hsz : (Kd.pair d1 d2).sz = d1.sz + d2.sz := rfl; obtain ⟨y1, hy1⟩ := hf 0 f rfl; rw [ho, ← h1.size] at hy1; obtain ⟨x1, hk1, hg1⟩ := h1.read hy1; obtain ⟨x2, hk2, hg2⟩ := h2.read (cs := cs) (fun i g hg => hf (i + 1) g (by simpa using hg)) (by omega); refine ⟨(x1, x2), ⟨_, _, ?_, hk1, hk2⟩, hg1, hg2⟩
 rw [← List.drop_drop, List.take_append_drop]⟩
def fld (e : TypeId) (off : Nat) : Field := { name := "", type := e, offset := off, embedded := false, tag := "", pkgPath := "", byteOffset := 0 }
theorem Opens.array {α : Type} {P : Program} {t e : TypeId} {n : Nat} {d : Kd α} {good : α → Prop} (c : Nat) (ht : P.underlying t = some (.array n e)) (hs : d.sz = P.cellsOf t) (hc : c = P.cellsOf e) (h : FOpens P ((List.range n).map fun i => fld e (i * c)) 0 d good) : Opens P t d good := ⟨hs, fun {H enc w base sp held fuel cs x} hx => by
 subst hc; obtain ⟨xs, m, _, _, hcl, hxl, hf⟩ := DataW.trod_array ht hx
 have := h.read (enc := enc) (w := w) (base := base) (sp := sp) (held := held) (fuel := m) (cs := cs) (fun i f hi => by
  rw [List.getElem?_map, Option.map_eq_some_iff] at hi; obtain ⟨j, hj, rfl⟩ := hi; have hlt := (List.getElem?_eq_some_iff.1 hj).1; rw [List.length_range] at hlt; rw [List.getElem?_range hlt] at hj
  cases hj
  exact ⟨xs[i]'(by omega), (hf i hlt).trans (List.getElem?_eq_getElem (by omega))⟩) (by omega)
 simpa using this⟩
theorem Opens.iso {α β : Type} {P : Program} {t : TypeId} {d : Kd α} {good : α → Prop} (f : β → α) (g : α → β) (hfg : ∀ x, f (g x) = x) (h : Opens P t d good) : Opens P t (Kd.iso d f) (fun y => good (f y)) := ⟨h.size, fun hx => by
 obtain ⟨y, hk, hg⟩ := h.read hx
 exact ⟨g y, by show d.K _ (f (g y)) _; rw [hfg]; exact hk, by rw [hfg]; exact hg⟩⟩
end Go.Proofs.Ytdlekcdedahbhaa.Rw
namespace Go.Proofs.Ytdlekcdedahbhaa.Q
open Go.RowKit Go.Proofs.YtdlekcdedahbhaaW.PrintWords Go.Proofs.YtdlekcdedahbhaaW.PrintLast Go.Proofs.YtdlekcdedahbhaaW.PrintMore
attribute [local go_sem] max2_int min2_int max_two min_two max_three min_three max_four min_four   -- for this text's walks alone
set_option linter.unusedVariables false
set_option linter.unusedSimpArgs false
end Go.Proofs.Ytdlekcdedahbhaa.Q
namespace Go.Proofs.Ytdlekcdedahbhaa.Q
open Go.RowKit Go.Proofs.YtdlekcdedahbhaaW.PrintWords Go.Proofs.YtdlekcdedahbhaaW.PrintLast Go.Proofs.YtdlekcdedahbhaaW.PrintMore
attribute [local go_sem] max2_int min2_int max_two min_two max_three min_three max_four min_four   -- for this text's walks alone
set_option linter.unusedVariables false
set_option linter.unusedSimpArgs false
end Go.Proofs.Ytdlekcdedahbhaa.Q
namespace Go.Proofs.Ytdlekcdedahbhaa.Q
open Go.RowKit Go.Proofs.YtdlekcdedahbhaaW.PrintWords Go.Proofs.YtdlekcdedahbhaaW.PrintLast Go.Proofs.YtdlekcdedahbhaaW.PrintMore
attribute [local go_sem] max2_int min2_int max_two min_two max_three min_three max_four min_four   -- for this text's walks alone
set_option linter.unusedVariables false
set_option linter.unusedSimpArgs false
end Go.Proofs.Ytdlekcdedahbhaa.Q
namespace Go.Proofs.Ytdlekcdedahbhaa.Q
open Go.RowKit Go.Proofs.YtdlekcdedahbhaaW.PrintWords Go.Proofs.YtdlekcdedahbhaaW.PrintLast Go.Proofs.YtdlekcdedahbhaaW.PrintMore
attribute [local go_sem] max2_int min2_int max_two min_two max_three min_three max_four min_four   -- for this text's walks alone
set_option linter.unusedVariables false
set_option linter.unusedSimpArgs false
end Go.Proofs.Ytdlekcdedahbhaa.Q
namespace Go.Proofs.Ytdlekcdedahbhaa.Q
open Go.RowKit Go.Proofs.YtdlekcdedahbhaaW.PrintWords Go.Proofs.YtdlekcdedahbhaaW.PrintLast Go.Proofs.YtdlekcdedahbhaaW.PrintMore
attribute [local go_sem] max2_int min2_int max_two min_two max_three min_three max_four min_four   -- for this text's walks alone
set_option linter.unusedVariables false
set_option linter.unusedSimpArgs false
theorem eqA101 (d : Nat) (w : World) (x0 y0 : Int) (x1 y1 : Int) (x2 y2 : Int) :
  (Op.equalIn (d + 2) 101 (.agg #[.int .i64 x0, .int .i64 x1, .int .i64 x2]) (.agg #[.int .i64 y0, .int .i64 y1, .int .i64 y2])).run Try.prog w = .ok (x0 == y0 && (x1 == y1 && (x2 == y2))) w := by
 refine eqA_of Try.underlying101 sqF ?_; refine eqf_cons (by rfl) (by go_simp; rfl) (by go_simp; rfl) (by go_simp) ?_; refine eqf_cons (by rfl) (by go_simp; rfl) (by go_simp; rfl) (by go_simp) ?_; exact eqf_last (by rfl) (by go_simp; rfl) (by go_simp; rfl) (by go_simp)
end Go.Proofs.Ytdlekcdedahbhaa.Q
namespace Go.Proofs.Ytdlekcdedahbhaa.Q
open Go.RowKit Go.Proofs.YtdlekcdedahbhaaW.PrintWords Go.Proofs.YtdlekcdedahbhaaW.PrintLast Go.Proofs.YtdlekcdedahbhaaW.PrintMore
attribute [local go_sem] max2_int min2_int max_two min_two max_three min_three max_four min_four   -- for this text's walks alone
set_option linter.unusedVariables false
set_option linter.unusedSimpArgs false
attribute [local go_sem high] eqA101
end Go.Proofs.Ytdlekcdedahbhaa.Q
namespace Go.Proofs.Ytdlekcdedahbhaa.Q
open Go.RowKit Go.Proofs.YtdlekcdedahbhaaW.PrintWords Go.Proofs.YtdlekcdedahbhaaW.PrintLast Go.Proofs.YtdlekcdedahbhaaW.PrintMore
attribute [local go_sem] max2_int min2_int max_two min_two max_three min_three max_four min_four   -- for this text's walks alone
set_option linter.unusedVariables false
set_option linter.unusedSimpArgs false
end Go.Proofs.Ytdlekcdedahbhaa.Q
namespace Go.Proofs.Ytdlekcdedahbhaa.Q
open Go.RowKit Go.Proofs.YtdlekcdedahbhaaW.PrintWords Go.Proofs.YtdlekcdedahbhaaW.PrintLast Go.Proofs.YtdlekcdedahbhaaW.PrintMore
attribute [local go_sem] max2_int min2_int max_two min_two max_three min_three max_four min_four   -- for this text's walks alone
set_option linter.unusedVariables false
set_option linter.unusedSimpArgs false
end Go.Proofs.Ytdlekcdedahbhaa.Q
namespace Go.Proofs.Ytdlekcdedahbhaa.Q
open Go.RowKit Go.Proofs.YtdlekcdedahbhaaW.PrintWords Go.Proofs.YtdlekcdedahbhaaW.PrintLast Go.Proofs.YtdlekcdedahbhaaW.PrintMore
attribute [local go_sem] max2_int min2_int max_two min_two max_three min_three max_four min_four   -- for this text's walks alone
set_option linter.unusedVariables false
set_option linter.unusedSimpArgs false
end Go.Proofs.Ytdlekcdedahbhaa.Q
namespace Go.Proofs.Ytdlekcdedahbhaa.Q
open Go.RowKit Go.Proofs.YtdlekcdedahbhaaW.PrintWords
set_option linter.unusedVariables false
set_option linter.unusedSimpArgs false
theorem Ev.up {α : Type} {g : Nat → Option α} {r : α} (h : Ev (fun k => g (k + 1)) r) : Ev g r := by
 obtain ⟨K, hK⟩ := h; refine ⟨K + 1, fun k hk => ?_⟩; obtain ⟨m, rfl⟩ : ∃ m, k = m + 1 := ⟨k - 1, by omega⟩; exact hK m (by omega)
theorem wr {x : Int} (h : -9223372036854775808 ≤ x ∧ x ≤ 9223372036854775807) : wrap64 x = x := by unfold wrap64; omega
theorem wi (i : Nat) (h : i ≤ 100000) : wrap64 ((i : Int) + 1) = ((i + 1 : Nat) : Int) := by rw [wr (by omega)]; omega
theorem rdI (l : List Int) (i : Nat) (h : i < l.length) : rd l (i : Int) = l[i] := by simp [rd, h]
theorem known_f : lw_known.f = some true := rfl
end Go.Proofs.Ytdlekcdedahbhaa.Q
namespace Go.Proofs.Ytdlekcdedahbhaa.Q
open Go.RowKit Go.Proofs.YtdlekcdedahbhaaW.PrintWords Go.Proofs.YtdlekcdedahbhaaW.PrintLast Go.Proofs.YtdlekcdedahbhaaW.PrintMore
attribute [local go_sem] max2_int min2_int max_two min_two max_three min_three max_four min_four   -- for this text's walks alone
set_option linter.unusedVariables false
set_option linter.unusedSimpArgs false
end Go.Proofs.Ytdlekcdedahbhaa.Q
namespace Go.Proofs.Ytdlekcdedahbhaa.Q
open Go.RowKit Go.Proofs.YtdlekcdedahbhaaW.PrintWords Go.Proofs.YtdlekcdedahbhaaW.PrintLast Go.Proofs.YtdlekcdedahbhaaW.PrintMore
attribute [local go_sem] max2_int min2_int max_two min_two max_three min_three max_four min_four   -- for this text's walks alone
set_option linter.unusedVariables false
set_option linter.unusedSimpArgs false
end Go.Proofs.Ytdlekcdedahbhaa.Q
namespace Go.Proofs.Ytdlekcdedahbhaa.Q
open Go.RowKit Go.Proofs.YtdlekcdedahbhaaW.PrintWords Go.Proofs.YtdlekcdedahbhaaW.PrintLast Go.Proofs.YtdlekcdedahbhaaW.PrintMore
attribute [local go_sem] max2_int min2_int max_two min_two max_three min_three max_four min_four   -- for this text's walks alone
set_option linter.unusedVariables false
set_option linter.unusedSimpArgs false
attribute [local go_sem high] eqA58
end Go.Proofs.Ytdlekcdedahbhaa.Q
namespace Go.Proofs.Ytdlekcdedahbhaa.Q
open Go.RowKit Go.Proofs.YtdlekcdedahbhaaW.PrintWords
set_option linter.unusedVariables false
set_option linter.unusedSimpArgs false
def flg (ds : List Due) (g : Cnt) (i : Nat) : Bool := decide (cntD (ds.take i) (rdDue ds i).c (rdDue ds i).a < g (rdDue ds i).c (rdDue ds i).a)
theorem toDue_rd (l : List S58) (i : Nat) (h : i < l.length) : rdDue (toDue l) i = ⟨(rd_T58 l (i : Int)).f0, (rd_T58 l (i : Int)).f1⟩ := by
 simp [rdDue, toDue, rd_T58, h]
theorem toEnt_rd (l : List S101) (i : Nat) (h : i < l.length) : rdEnt (toEnt l) i = ⟨(rd_T101 l (i : Int)).f0, (rd_T101 l (i : Int)).f1, (rd_T101 l (i : Int)).f2⟩ := by
 simp [rdEnt, toEnt, rd_T101, h]
theorem miss_g (g : Cnt) (ds : List Due) (a b : Int) : ∀ k, k ≤ ds.length → (missTo g ds k).g a b = g a b - cntD (ds.take k) a b
 | 0, _ => by simp [missTo, cntD]
 | k + 1, h => by
  have ih := miss_g g ds a b k (by omega); rw [missTo, missStep, cntD_take ds k (by omega)]; simp only [updF]
  split
  ·rename_i h1
   rw [← h1.1, ← h1.2]; omega
  ·exact ih
theorem miss_x (g : Cnt) (ds : List Due) (k : Nat) (h : k < ds.length) : (missTo g ds (k + 1)).x = if flg ds g k = true then (missTo g ds k).x else (missTo g ds k).x ++ [(k : Int)] := by
 have h1 := miss_g g ds (rdDue ds k).c (rdDue ds k).a k (by omega); rw [missTo, missStep]; simp only; rw [h1]
 unfold flg
 by_cases h2 : cntD (ds.take k) (rdDue ds k).c (rdDue ds k).a < g (rdDue ds k).c (rdDue ds k).a
 ·rw [if_neg (by omega), if_pos (decide_eq_true h2)]
 ·rw [if_pos (by omega), if_neg (by simpa using h2)]
end Go.Proofs.Ytdlekcdedahbhaa.Q
namespace Go.Proofs.Ytdlekcdedahbhaa.Q
open Go.RowKit Go.Proofs.YtdlekcdedahbhaaW.PrintWords
set_option linter.unusedVariables false
set_option linter.unusedSimpArgs false
def Sm : Nat → (Nat → Int) → Int
 | 0, _ => 0
 | n + 1, f => Sm n f + f n
theorem Sm_congr (f g : Nat → Int) : ∀ n, (∀ i, i < n → f i = g i) → Sm n f = Sm n g
 | 0, _ => rfl
 | n + 1, h => by rw [Sm, Sm, Sm_congr f g n (fun i hi => h i (by omega)), h n (by omega)]
theorem Sm_le (f g : Nat → Int) : ∀ n, (∀ i, i < n → f i ≤ g i) → Sm n f ≤ Sm n g
 | 0, _ => Int.le_refl _
 | n + 1, h => by
  rw [Sm, Sm]; have := Sm_le f g n (fun i hi => h i (by omega)); have := h n (by omega); omega
theorem Sm_sub (f g : Nat → Int) : ∀ n, Sm n (fun i => f i - g i) = Sm n f - Sm n g
 | 0 => rfl
 | n + 1 => by rw [Sm, Sm, Sm, Sm_sub f g n]; omega
theorem Sm_zero : ∀ n, Sm n (fun _ => 0) = 0
 | 0 => rfl
 | n + 1 => by rw [Sm, Sm_zero n]; rfl
theorem Sm_one (f g : Nat → Int) (j : Nat) (h : ∀ i, i ≠ j → f i = g i) : ∀ n, j < n → Sm n f = Sm n g + (f j - g j)
 | 0, h0 => by omega
 | n + 1, h0 => by
  rw [Sm, Sm]
  by_cases e : j = n
  ·subst e
   rw [Sm_congr f g j (fun i hi => h i (by omega))]; omega
  ·rw [Sm_one f g j h n (by omega), h n (by omega)]
   omega
def U (f : Int → Int → Int) : Int := Sm 6 (fun a => Sm 101 fun b => f (a : Int) (b : Int))
theorem U_congr {f g : Int → Int → Int} (h : ∀ x y, f x y = g x y) : U f = U g := Sm_congr _ _ 6 fun a _ => Sm_congr _ _ 101 fun b _ => h _ _
theorem U_le {f g : Int → Int → Int} (h : ∀ x y, f x y ≤ g x y) : U f ≤ U g := Sm_le _ _ 6 fun a _ => Sm_le _ _ 101 fun b _ => h _ _
theorem U_sub (f g : Int → Int → Int) : U (fun x y => f x y - g x y) = U f - U g := by
 unfold U
 rw [← Sm_sub]
 exact Sm_congr _ _ 6 fun a _ => Sm_sub _ _ 101
theorem U_zero : U (fun _ _ => 0) = 0 := by
 unfold U
 rw [Sm_congr _ (fun _ => 0) 6 (fun a _ => Sm_zero 101), Sm_zero]
theorem U_one {f g : Int → Int → Int} {a b : Int} (ha : 0 ≤ a ∧ a ≤ 5) (hb : 0 ≤ b ∧ b ≤ 100) (h : ∀ x y, ¬ (x = a ∧ y = b) → f x y = g x y) : U f = U g + (f a b - g a b) := by
 obtain ⟨m, rfl⟩ : ∃ m : Nat, a = (m : Int) := ⟨a.toNat, by omega⟩; obtain ⟨k, rfl⟩ : ∃ k : Nat, b = (k : Int) := ⟨b.toNat, by omega⟩; have h1 := Sm_one (fun b => f (m : Int) (b : Int)) (fun b => g (m : Int) (b : Int)) k (fun i hi => h _ _ (by omega)) 101 (by omega); have h2 := Sm_one (fun a => Sm 101 fun b => f (a : Int) (b : Int)) (fun a => Sm 101 fun b => g (a : Int) (b : Int)) m (fun i hi => Sm_congr _ _ 101 fun b _ => h _ _ (by omega)) 6 (by omega)
 unfold U
 try simp only at h1 h2
 omega
def cntE (l : List Ent) : Cnt := fun a b => ((l.filter fun x => decide (x.f = a ∧ x.a = b)).length : Int)
theorem cntE_append (l m : List Ent) (a b : Int) : cntE (l ++ m) a b = cntE l a b + cntE m a b := by simp [cntE, List.filter_append]
theorem cntE_one (x : Ent) (a b : Int) : cntE [x] a b = if x.f = a ∧ x.a = b then 1 else 0 := by
 unfold cntE
 by_cases h : x.f = a ∧ x.a = b
 ·rw [if_pos h]; simp [h]
 ·rw [if_neg h, List.filter_cons, if_neg (by simpa using h)]; rfl
theorem cntE_nn (l : List Ent) (a b : Int) : 0 ≤ cntE l a b := by unfold cntE; omega
theorem cntE_take (l : List Ent) (k : Nat) (h : k < l.length) (a b : Int) : cntE (l.take (k + 1)) a b = cntE (l.take k) a b + (if (rdEnt l k).f = a ∧ (rdEnt l k).a = b then 1 else 0) := by
 have e : l[k] = rdEnt l k := by simp [rdEnt, h]
 rw [List.take_succ_eq_append_getElem h, cntE_append, cntE_one, e]
theorem cntD_append (l m : List Due) (a b : Int) : cntD (l ++ m) a b = cntD l a b + cntD m a b := by simp [cntD, List.filter_append]
theorem cntD_one (x : Due) (a b : Int) : cntD [x] a b = if x.c = a ∧ x.a = b then 1 else 0 := by
 unfold cntD
 by_cases h : x.c = a ∧ x.a = b
 ·rw [if_pos h]; simp [h]
 ·rw [if_neg h, List.filter_cons, if_neg (by simpa using h)]; rfl
theorem cntD_tk (l : List Due) (k : Nat) (h : k < l.length) (a b : Int) : cntD (l.take (k + 1)) a b = cntD (l.take k) a b + (if (rdDue l k).c = a ∧ (rdDue l k).a = b then 1 else 0) := by
 have e : l[k] = rdDue l k := by simp [rdDue, h]
 rw [List.take_succ_eq_append_getElem h, cntD_append, cntD_one, e]
def dueT (d : Due) : Prop := (1 ≤ d.c ∧ d.c ≤ 5) ∧ (0 ≤ d.a ∧ d.a ≤ 100)
def entT (e : Ent) : Prop := (1 ≤ e.f ∧ e.f ≤ 5) ∧ e.t = 0 ∧ (0 ≤ e.a ∧ e.a ≤ 100)
theorem rdDue_mem (l : List Due) (k : Nat) (h : k < l.length) : rdDue l k ∈ l := by
 have e : l[k] = rdDue l k := by simp [rdDue, h]
 rw [← e]; exact List.getElem_mem h
theorem rdEnt_mem (l : List Ent) (k : Nat) (h : k < l.length) : rdEnt l k ∈ l := by
 have e : l[k] = rdEnt l k := by simp [rdEnt, h]
 rw [← e]; exact List.getElem_mem h
theorem book_is (o : Cnt) (l : List Ent) (hl : ∀ e ∈ l, entT e) (ho : ∀ a b, 0 ≤ o a b) : ∀ k, k ≤ l.length → (∀ a b, (bookTo o l k).g a b = min (cntE (l.take k) a b) (o a b)) ∧ (((bookTo o l k).x.length : Nat) : Int) = U (fun a b => max 0 (cntE (l.take k) a b - o a b))
 | 0, _ => by
  have e : ∀ a b, cntE (l.take 0) a b = 0 := fun a b => rfl
  refine ⟨fun a b => ?_, ?_⟩
  ·rw [e]
   have := ho a b
   show (0 : Int) = min 0 (o a b)
   omega
  ·rw [U_congr (g := fun _ _ => 0) (fun a b => by rw [e]; have := ho a b; omega), U_zero]
   rfl
 | k + 1, hk => by
  obtain ⟨h1, h2⟩ := book_is o l hl ho k (by omega); have hx := hl _ (rdEnt_mem l k (by omega)); have ht := cntE_take l k (by omega)
  unfold entT at hx
  rw [bookTo, bookStep]
  generalize rdEnt l k = x at *
  have hg := h1 x.f x.a; have hxx := ht x.f x.a; rw [if_pos ⟨rfl, rfl⟩] at hxx; have hon := ho x.f x.a
  by_cases c : x.t = 0 ∧ (bookTo o l k).g x.f x.a < o x.f x.a
  ·rw [if_pos c]
   refine ⟨fun a b => ?_, ?_⟩
   ·simp only [updF]
    by_cases e : a = x.f ∧ b = x.a
    ·obtain ⟨rfl, rfl⟩ := e
     rw [if_pos ⟨rfl, rfl⟩]; omega
    ·rw [if_neg e, h1 a b, ht a b, if_neg (fun q => e ⟨q.1.symm, q.2.symm⟩)]
     omega
   ·rw [h2]
    refine U_congr fun a b => ?_
    rw [ht a b]
    by_cases e : x.f = a ∧ x.a = b
    ·obtain ⟨rfl, rfl⟩ := e
     rw [if_pos ⟨rfl, rfl⟩]; omega
    ·rw [if_neg e]
     omega
  ·rw [if_neg c]
   have c' : ¬ (bookTo o l k).g x.f x.a < o x.f x.a := fun q => c ⟨hx.2.1, q⟩
   refine ⟨fun a b => ?_, ?_⟩
   ·simp only
    rw [h1 a b, ht a b]
    by_cases e : x.f = a ∧ x.a = b
    ·obtain ⟨rfl, rfl⟩ := e
     rw [if_pos ⟨rfl, rfl⟩]; omega
    ·rw [if_neg e]
     omega
   ·simp only [List.length_append, List.length_cons, List.length_nil]
    rw [U_one (f := fun a b => max 0 (cntE (l.take (k + 1)) a b - o a b)) (g := fun a b => max 0 (cntE (l.take k) a b - o a b)) (a := x.f) (b := x.a) (by omega) (by omega) (fun a b e => by
     try simp only
     rw [ht a b, if_neg (fun q => e ⟨q.1.symm, q.2.symm⟩)]
     omega)]
    try simp only
    rw [← h2, hxx]; omega
theorem miss_is (g : Cnt) (ds : List Due) (hd : ∀ d ∈ ds, dueT d) (hg : ∀ a b, 0 ≤ g a b) : ∀ k, k ≤ ds.length → (((missTo g ds k).x.length : Nat) : Int) = U (fun a b => max 0 (cntD (ds.take k) a b - g a b))
 | 0, _ => by
  have e : ∀ a b, cntD (ds.take 0) a b = 0 := fun a b => rfl
  rw [U_congr (g := fun _ _ => 0) (fun a b => by rw [e]; have := hg a b; omega), U_zero]; rfl
 | k + 1, hk => by
  have ih := miss_is g ds hd hg k (by omega); have hx := hd _ (rdDue_mem ds k (by omega)); have ht := cntD_tk ds k (by omega); rw [miss_x g ds k (by omega)]
  unfold flg
  unfold dueT at hx
  generalize rdDue ds k = x at *
  have hxx := ht x.c x.a; rw [if_pos ⟨rfl, rfl⟩] at hxx
  rw [U_one (f := fun a b => max 0 (cntD (ds.take (k + 1)) a b - g a b)) (g := fun a b => max 0 (cntD (ds.take k) a b - g a b)) (a := x.c) (b := x.a) (by omega) (by omega) (fun a b e => by
   try simp only
   rw [ht a b, if_neg (fun q => e ⟨q.1.symm, q.2.symm⟩)]
   omega)]
  try simp only
  rw [← ih, hxx]
  by_cases c : cntD (ds.take k) x.c x.a < g x.c x.a
  ·rw [if_pos (decide_eq_true c)]
   omega
  ·rw [if_neg (by simpa using c)]
   simp only [List.length_append, List.length_cons, List.length_nil]; omega
def Asc (l : List Int) (n : Nat) : Prop := (∀ x ∈ l, 0 ≤ x ∧ x < (n : Int)) ∧ l.Pairwise (· < ·)
theorem Asc.snoc {l : List Int} {n : Nat} (h : Asc l n) : Asc (l ++ [(n : Int)]) (n + 1) := by
 refine ⟨fun x hx => ?_, ?_⟩
 ·rw [List.mem_append, List.mem_singleton] at hx
  rcases hx with hx | hx
  ·have := h.1 x hx; omega
  ·omega
 ·rw [List.pairwise_append]
  refine ⟨h.2, List.pairwise_singleton _ _, fun x hx y hy => ?_⟩; rw [List.mem_singleton] at hy; have := h.1 x hx; omega
theorem Asc.more {l : List Int} {n : Nat} (h : Asc l n) : Asc l (n + 1) := ⟨fun x hx => by have := h.1 x hx; omega, h.2⟩
theorem book_asc (o : Cnt) (l : List Ent) : ∀ k, Asc (bookTo o l k).x k
 | 0 => ⟨fun x hx => absurd hx List.not_mem_nil, List.Pairwise.nil⟩
 | k + 1 => by
  rw [bookTo, bookStep]
  split
  ·exact (book_asc o l k).more
  ·exact (book_asc o l k).snoc
theorem miss_asc (g : Cnt) (ds : List Due) : ∀ k, Asc (missTo g ds k).x k
 | 0 => ⟨fun x hx => absurd hx List.not_mem_nil, List.Pairwise.nil⟩
 | k + 1 => by
  rw [missTo, missStep]; simp only
  split
  ·exact (miss_asc g ds k).snoc
  ·exact (miss_asc g ds k).more
structure BkI (i : Nat) (L : List S58) (B : List S101) (fg tw : Int) : Prop where
 li : L.length = i
 ld : ∀ d ∈ toDue L, dueT d
 be : ∀ e ∈ toEnt B, entT e
 bl : (B.length : Int) = (i : Int) - fg + tw
 fg0 : 0 ≤ fg ∧ fg ≤ (i : Int)
 tw0 : 0 ≤ tw ∧ tw ≤ 4
 kinds : ∃ F T : Int → Int → Int, (∀ a b, 0 ≤ F a b ∧ 0 ≤ T a b ∧ cntD (toDue L) a b - cntE (toEnt B) a b = F a b - T a b) ∧ U F = fg ∧ U T = tw
 has : ∀ a b, 0 < cntE (toEnt B) a b → 0 < cntD (toDue L) a b
theorem toDue_app (l m : List S58) : toDue (l ++ m) = toDue l ++ toDue m := by simp [toDue]
theorem toEnt_app (l m : List S101) : toEnt (l ++ m) = toEnt l ++ toEnt m := by simp [toEnt]
theorem BkI.step {i : Nat} {L : List S58} {B : List S101} {fg tw : Int} (h : BkI i L B fg tw) (c a : Int) (hc : 1 ≤ c ∧ c ≤ 5) (ha : 0 ≤ a ∧ a ≤ 100) (n : Int) (hn : 0 ≤ n ∧ n ≤ 2) (B' : List S101)
  (hB : ∀ x y, cntE (toEnt B') x y = cntE (toEnt B) x y + (if c = x ∧ a = y then n else 0)) (hbe : ∀ e ∈ toEnt B', entT e) (hl : (B'.length : Int) = B.length + n) (ht : n = 2 → tw < 4) : BkI (i + 1) (L ++ [⟨c, a⟩]) B' (fg + (if n = 0 then 1 else 0)) (tw + (if n = 2 then 1 else 0)) := by
 obtain ⟨h1, h2, h3, h4, h5, h6, ⟨F, T, k1, k2, k3⟩, h8⟩ := h
 have hD : ∀ x y, cntD (toDue (L ++ [(⟨c, a⟩ : S58)])) x y = cntD (toDue L) x y + (if c = x ∧ a = y then 1 else 0) := by
  intro x y; rw [toDue_app, cntD_append]; have : toDue [(⟨c, a⟩ : S58)] = [⟨c, a⟩] := rfl; rw [this, cntD_one]
 refine ⟨by simp [h1], fun d hd => ?_, hbe, ?_, ?_, ?_, ⟨fun x y => F x y + (if c = x ∧ a = y then (if n = 0 then 1 else 0) else 0), fun x y => T x y + (if c = x ∧ a = y then (if n = 2 then 1 else 0) else 0), fun x y => ?_, ?_, ?_⟩, fun x y hxy => ?_⟩
 ·rw [toDue_app, List.mem_append] at hd
  rcases hd with hd | hd
  ·exact h2 d hd
  ·have : d = ⟨c, a⟩ := by simpa [toDue] using hd
   rw [this]; exact ⟨hc, ha⟩
 ·obtain rfl | rfl | rfl : n = 0 ∨ n = 1 ∨ n = 2 := by omega
  ·simp only [if_true]; omega
  ·simp only [if_neg (show ¬ (1 : Int) = 0 by omega), if_neg (show ¬ (1 : Int) = 2 by omega)]; omega
  ·simp only [if_neg (show ¬ (2 : Int) = 0 by omega), if_true]; omega
 ·split <;> omega
 ·split <;> omega
 ·have := k1 x y
  simp only; rw [hD, hB]
  by_cases e : c = x ∧ a = y
  ·simp only [if_pos e]
   obtain rfl | rfl | rfl : n = 0 ∨ n = 1 ∨ n = 2 := by omega
   ·simp only [if_true, if_neg (show ¬ (0 : Int) = 2 by omega)]; omega
   ·simp only [if_neg (show ¬ (1 : Int) = 0 by omega), if_neg (show ¬ (1 : Int) = 2 by omega)]; omega
   ·simp only [if_neg (show ¬ (2 : Int) = 0 by omega), if_true]; omega
  ·simp only [if_neg e]; omega
 ·rw [U_one (g := F) (a := c) (b := a) (by omega) ha (fun x y e => by (try simp only); rw [if_neg (fun q => e ⟨q.1.symm, q.2.symm⟩)]; omega)]
  simp only [and_self, if_true]; omega
 ·rw [U_one (g := T) (a := c) (b := a) (by omega) ha (fun x y e => by (try simp only); rw [if_neg (fun q => e ⟨q.1.symm, q.2.symm⟩)]; omega)]
  simp only [and_self, if_true]; omega
 ·have h9 := h8 x y
  have h10 := cntE_nn (toEnt B) x y; have h11 : 0 ≤ cntD (toDue L) x y := (cntD_bd _ _ _).1; rw [hB] at hxy; rw [hD]
  by_cases e : c = x ∧ a = y
  ·rw [if_pos e]; omega
  ·rw [if_neg e] at hxy ⊢
   omega
theorem due_rd (L : List S58) (i : Nat) (h : i < L.length) : rdDue (toDue L) i = ⟨(rd_T58 L (i : Int)).f0, (rd_T58 L (i : Int)).f1⟩ := toDue_rd L i h
section
variable (L : List S58) (B : List S101) (fg tw : Int) (M X : List Int) (hL : L.length ≤ 8) (hB : B.length ≤ 12)
theorem on_l3 (hL : L.length ≤ 8) (hB : B.length ≤ 12) (i : Nat) (hi : i < L.length) (le ov due : Int) (first : Bool) (hdue : 0 ≤ due ∧ due ≤ 100) (hle : 0 ≤ le ∧ le ≤ 1000) (hov : 0 ≤ ov ∧ ov ≤ 1000) (r : Bool)
  (h : Ev (fun k => lw_FeeOnce.l1 k L B fg tw M X (if first then le + max 0 (due - cntE (toEnt B) (rdDue (toDue L) i).c (rdDue (toDue L) i).a) else le) (if first then ov + max 0 (cntE (toEnt B) (rdDue (toDue L) i).c (rdDue (toDue L) i).a - due) else ov) ((i + 1 : Nat) : Int)) r) :
  ∀ (d m : Nat), m + d = B.length → Ev (fun k => lw_FeeOnce.l3 k L B fg tw M X le ov (i : Int) first due (cntE ((toEnt B).take m) (rdDue (toDue L) i).c (rdDue (toDue L) i).a) (m : Int)) r
 | 0, m, hd => by
  obtain rfl : m = B.length := by omega
  rw [List.take_of_length_le (by rw [toEnt_len]; exact Nat.le_refl _)]; have hn := cntE_nn (toEnt B) (rdDue (toDue L) i).c (rdDue (toDue L) i).a
  have hm : cntE (toEnt B) (rdDue (toDue L) i).c (rdDue (toDue L) i).a ≤ 12 := by
   unfold cntE
   have := List.length_filter_le (fun x : Ent => decide (x.f = (rdDue (toDue L) i).c ∧ x.a = (rdDue (toDue L) i).a)) (toEnt B); rw [toEnt_len] at this; omega
  generalize cntE (toEnt B) (rdDue (toDue L) i).c (rdDue (toDue L) i).a = are at *
  refine Ev.up ?_; simp only [lw_FeeOnce.l3, if_neg (show ¬ (B.length : Int) < (B.length : Int) by omega)]
  have mxx : ∀ a b : Int, mx a b = max a b := fun a b => by unfold mx; split <;> omega
  cases first
  ·simp only [Bool.false_eq_true, if_false, wi i (by omega)] at h ⊢
   exact h
  ·simp only [if_true, mxx, wr (x := due - are) (by omega), wr (x := are - due) (by omega), wr (x := le + max 0 (due - are)) (by omega), wr (x := ov + max 0 (are - due)) (by omega), wi i (by omega)] at h ⊢
   exact h
 | d + 1, m, hd => by
  have hm : m < B.length := by omega
  have ih := on_l3 hL hB i hi le ov due first hdue hle hov r h d (m + 1) (by omega)
  rw [cntE_take _ m (by rw [toEnt_len]; exact hm), toEnt_rd B m hm, due_rd L i hi] at ih; rw [due_rd L i hi]; simp only at ih ⊢; have hn := cntE_nn ((toEnt B).take m) (rd_T58 L (i : Int)).f0 (rd_T58 L (i : Int)).f1
  have hq : cntE ((toEnt B).take m) (rd_T58 L (i : Int)).f0 (rd_T58 L (i : Int)).f1 ≤ 12 := by
   unfold cntE
   have h1 := List.length_filter_le (fun x : Ent => decide (x.f = (rd_T58 L (i : Int)).f0 ∧ x.a = (rd_T58 L (i : Int)).f1)) ((toEnt B).take m); have h2 := List.length_take_le m (toEnt B); omega
  generalize cntE ((toEnt B).take m) (rd_T58 L (i : Int)).f0 (rd_T58 L (i : Int)).f1 = are at *
  refine Ev.up ?_; simp only [lw_FeeOnce.l3, if_pos (show (m : Int) < (B.length : Int) by omega), if_pos (show (0 : Int) ≤ (m : Int) by omega), if_pos (show (0 : Int) ≤ (i : Int) by omega), if_pos (show (i : Int) < (L.length : Int) by omega), wi m (by omega), wr (x := are + 1) (by omega)]
  by_cases c1 : (rd_T101 B (m : Int)).f0 = (rd_T58 L (i : Int)).f0
  ·by_cases c2 : (rd_T101 B (m : Int)).f2 = (rd_T58 L (i : Int)).f1
   ·rw [if_pos ⟨c1, c2⟩] at ih
    simp only [if_pos c1, if_pos c2]; exact ih
   ·rw [if_neg (fun q => c2 q.2), Int.add_zero] at ih
    simp only [if_pos c1, if_neg c2]; exact ih
  ·rw [if_neg (fun q => c1 q.1), Int.add_zero] at ih
   simp only [if_neg c1]; exact ih
theorem on_l2 (hL : L.length ≤ 8) (i : Nat) (hi : i < L.length) (le ov : Int) (r : Bool)
  (h : Ev (fun k => lw_FeeOnce.l3 k L B fg tw M X le ov (i : Int) (decide (cntD ((toDue L).take i) (rdDue (toDue L) i).c (rdDue (toDue L) i).a = 0)) (cntD (toDue L) (rdDue (toDue L) i).c (rdDue (toDue L) i).a) 0 0) r) :
  ∀ (d m : Nat), m + d = L.length → Ev (fun k => lw_FeeOnce.l2 k L B fg tw M X le ov (i : Int) (decide (cntD ((toDue L).take (min m i)) (rdDue (toDue L) i).c (rdDue (toDue L) i).a = 0)) (cntD ((toDue L).take m) (rdDue (toDue L) i).c (rdDue (toDue L) i).a) 0 (m : Int)) r
 | 0, m, hd => by
  obtain rfl : m = L.length := by omega
  rw [show (toDue L).take L.length = toDue L from List.take_of_length_le (by rw [toDue_len]; exact Nat.le_refl _), show min L.length i = i by omega]; refine Ev.up ?_; simp only [lw_FeeOnce.l2, if_neg (show ¬ (L.length : Int) < (L.length : Int) by omega)]; exact h
 | d + 1, m, hd => by
  have hm : m < L.length := by omega
  have ih := on_l2 hL i hi le ov r h d (m + 1) (by omega)
  have hnn : ∀ k, 0 ≤ cntD ((toDue L).take k) (rdDue (toDue L) i).c (rdDue (toDue L) i).a := fun k => (cntD_bd _ _ _).1
  have hq : cntD ((toDue L).take m) (rdDue (toDue L) i).c (rdDue (toDue L) i).a ≤ 8 := by
   have h1 := (cntD_bd ((toDue L).take m) (rdDue (toDue L) i).c (rdDue (toDue L) i).a).2; have h2 := List.length_take_le m (toDue L); omega
  have hE : (((rd_T58 L (m : Int)).f0 == (rd_T58 L (i : Int)).f0 && ((rd_T58 L (m : Int)).f1 == (rd_T58 L (i : Int)).f1)) = true) ↔ ((rdDue (toDue L) m).c = (rdDue (toDue L) i).c ∧ (rdDue (toDue L) m).a = (rdDue (toDue L) i).a) := by
   rw [due_rd L m hm, due_rd L i hi]
   simp
  have hstep := cntD_tk (toDue L) m (by rw [toDue_len]; exact hm) (rdDue (toDue L) i).c (rdDue (toDue L) i).a; rw [hstep] at ih
  have hmin : m < i → min (m + 1) i = m + 1 ∧ min m i = m := fun q => by omega
  have hmax : i ≤ m → min (m + 1) i = i ∧ min m i = i := fun q => by omega
  have hn1 := hnn m; have hn2 := hnn (min m i); refine Ev.up ?_; simp only [lw_FeeOnce.l2, if_pos (show (m : Int) < (L.length : Int) by omega), if_pos (show (0 : Int) ≤ (m : Int) by omega), if_pos (show (0 : Int) ≤ (i : Int) by omega), if_pos (show (i : Int) < (L.length : Int) by omega), wi m (by omega)]
  by_cases c : (rdDue (toDue L) m).c = (rdDue (toDue L) i).c ∧ (rdDue (toDue L) m).a = (rdDue (toDue L) i).a
  ·rw [if_pos c] at ih hstep
   simp only [if_pos (hE.2 c), wr (x := cntD ((toDue L).take m) (rdDue (toDue L) i).c (rdDue (toDue L) i).a + 1) (by omega)]
   by_cases c3 : m < i
   ·rw [(hmin c3).1, hstep, decide_eq_false (by omega)] at ih
    rw [(hmin c3).2]
    by_cases c4 : cntD ((toDue L).take m) (rdDue (toDue L) i).c (rdDue (toDue L) i).a = 0
    ·simp only [decide_eq_true c4, if_true, decide_eq_false (show ¬ (m : Int) ≥ (i : Int) by omega)]
     exact ih
    ·simp only [decide_eq_false c4, Bool.false_eq_true, if_false]
     exact ih
   ·rw [(hmax (by omega)).1] at ih
    rw [(hmax (by omega)).2]
    by_cases c4 : cntD ((toDue L).take i) (rdDue (toDue L) i).c (rdDue (toDue L) i).a = 0
    ·rw [decide_eq_true c4] at ih
     simp only [decide_eq_true c4, if_true, decide_eq_true (show (m : Int) ≥ (i : Int) by omega)]; exact ih
    ·rw [decide_eq_false c4] at ih
     simp only [decide_eq_false c4, Bool.false_eq_true, if_false]; exact ih
  ·rw [if_neg c, Int.add_zero] at ih
   rw [if_neg c, Int.add_zero] at hstep; simp only [if_neg (fun q => c (hE.1 q))]
   by_cases c3 : m < i
   ·rw [(hmin c3).1, hstep] at ih
    rw [(hmin c3).2]; exact ih
   ·rw [(hmax (by omega)).1] at ih
    rw [(hmax (by omega)).2]; exact ih
def seenU (ds : List Due) (f : Cnt) (i : Nat) : Int := U (fun a b => if 0 < cntD (ds.take i) a b then f a b else 0)
theorem seenU_succ (ds : List Due) (hd : ∀ d ∈ ds, dueT d) (f : Cnt) (i : Nat) (hi : i < ds.length) : seenU ds f (i + 1) = seenU ds f i + (if cntD (ds.take i) (rdDue ds i).c (rdDue ds i).a = 0 then f (rdDue ds i).c (rdDue ds i).a else 0) := by
 have ht := cntD_tk ds i hi; have hx := hd _ (rdDue_mem ds i hi)
 unfold dueT at hx
 generalize rdDue ds i = x at *
 have hxx := ht x.c x.a; rw [if_pos ⟨rfl, rfl⟩] at hxx; have hnn : 0 ≤ cntD (ds.take i) x.c x.a := (cntD_bd _ _ _).1
 unfold seenU
 rw [U_one (f := fun a b => if 0 < cntD (ds.take (i + 1)) a b then f a b else 0) (g := fun a b => if 0 < cntD (ds.take i) a b then f a b else 0) (a := x.c) (b := x.a) (by omega) (by omega) (fun a b e => by
  have e9 := ht a b; rw [if_neg (fun q => e ⟨q.1.symm, q.2.symm⟩), Int.add_zero] at e9
  rw [e9])]
 try simp only
 rw [hxx, if_pos (by omega)]
 by_cases c : cntD (ds.take i) x.c x.a = 0
 ·rw [if_neg (by omega), if_pos c]
  omega
 ·rw [if_pos (by omega), if_neg c]
  omega
theorem on_l1 (hL : L.length ≤ 8) (hB : B.length ≤ 12) (hd : ∀ d ∈ toDue L, dueT d) (hsm : ∀ i, i ≤ L.length → (0 ≤ seenU (toDue L) (fun a b => max 0 (cntD (toDue L) a b - cntE (toEnt B) a b)) i ∧ seenU (toDue L) (fun a b => max 0 (cntD (toDue L) a b - cntE (toEnt B) a b)) i ≤ 1000) ∧ (0 ≤ seenU (toDue L) (fun a b => max 0 (cntE (toEnt B) a b - cntD (toDue L) a b)) i ∧ seenU (toDue L) (fun a b => max 0 (cntE (toEnt B) a b - cntD (toDue L) a b)) i ≤ 1000))
  (h : Ev (fun k => lw_FeeOnce.l1 k L B fg tw M X (seenU (toDue L) (fun a b => max 0 (cntD (toDue L) a b - cntE (toEnt B) a b)) L.length) (seenU (toDue L) (fun a b => max 0 (cntE (toEnt B) a b - cntD (toDue L) a b)) L.length) (L.length : Int)) true) :
  ∀ (d i : Nat), i + d = L.length → Ev (fun k => lw_FeeOnce.l1 k L B fg tw M X (seenU (toDue L) (fun a b => max 0 (cntD (toDue L) a b - cntE (toEnt B) a b)) i) (seenU (toDue L) (fun a b => max 0 (cntE (toEnt B) a b - cntD (toDue L) a b)) i) (i : Int)) true
 | 0, i, hdd => by
  obtain rfl : i = L.length := by omega
  exact h
 | d + 1, i, hdd => by
  have hi : i < L.length := by omega
  have ih := on_l1 hL hB hd hsm h d (i + 1) (by omega); rw [seenU_succ _ hd _ i (by rw [toDue_len]; exact hi), seenU_succ _ hd _ i (by rw [toDue_len]; exact hi)] at ih; obtain ⟨s1, s2⟩ := hsm i (by omega); have hdue := cntD_bd (toDue L) (rdDue (toDue L) i).c (rdDue (toDue L) i).a; rw [toDue_len] at hdue; refine Ev.up ?_; simp only [lw_FeeOnce.l1, if_pos (show (i : Int) < (L.length : Int) by omega)]
  have h3 := on_l3 L B fg tw M X hL hB i hi _ _ (cntD (toDue L) (rdDue (toDue L) i).c (rdDue (toDue L) i).a) (decide (cntD ((toDue L).take i) (rdDue (toDue L) i).c (rdDue (toDue L) i).a = 0)) (by omega) s1 s2 true (by
   by_cases c : cntD ((toDue L).take i) (rdDue (toDue L) i).c (rdDue (toDue L) i).a = 0
   ·simp only [if_pos c] at ih
    simp only [decide_eq_true c, if_true]; exact ih
   ·simp only [if_neg c, Int.add_zero] at ih
    simp only [decide_eq_false c, Bool.false_eq_true, if_false]
    exact ih) B.length 0 (by omega)
  have h2 := on_l2 L B fg tw M X hL i hi _ _ true h3 L.length 0 (by omega)
  have e0 : min 0 i = 0 := by omega
  have e1 : cntD ((toDue L).take 0) (rdDue (toDue L) i).c (rdDue (toDue L) i).a = 0 := rfl; rw [e0, e1] at h2; exact h2
theorem on_l5 (hX : Asc X B.length) (hB : B.length ≤ 12) (hxl : X.length ≤ 1000) : ∀ (d m : Nat), m + d = X.length → Ev (fun k => lw_FeeOnce.l5 k B X (m : Int)) true
 | 0, m, hd => by
  refine Ev.up ?_; simp only [lw_FeeOnce.l5, if_neg (show ¬ (m : Int) < (X.length : Int) by omega), known_f, Option.bind_some]; exact Ev.now _
 | d + 1, m, hd => by
  have ih := on_l5 hX hB hxl d (m + 1) (by omega); have h1 := hX.1 X[m] (List.getElem_mem (by omega)); refine Ev.up ?_; simp only [lw_FeeOnce.l5, if_pos (show (m : Int) < (X.length : Int) by omega), if_pos (show (0 : Int) ≤ (m : Int) by omega), rdI X m (by omega), if_neg (show ¬ X[m] < 0 by omega), if_neg (show ¬ X[m] ≥ (B.length : Int) by omega), wi m (by omega)]
  by_cases c : (m : Int) > 0
  ·obtain ⟨j, rfl⟩ : ∃ j, m = j + 1 := ⟨m - 1, by omega⟩
   have ew : wrap64 (((j + 1 : Nat) : Int) - 1) = (j : Int) := by rw [wr (by omega)]; omega
   have := List.pairwise_iff_getElem.1 hX.2 j (j + 1) (by omega) (by omega) (by omega); simp only [if_pos c, ew, if_pos (show (0 : Int) ≤ (j : Int) by omega), if_pos (show (j : Int) < (X.length : Int) by omega), rdI X j (by omega), if_neg (show ¬ X[j + 1] ≤ X[j] by omega)]; exact ih
  ·simp only [if_neg c]
   exact ih
theorem on_l4 (hM : Asc M L.length) (hX : Asc X B.length) (hL : L.length ≤ 8) (hB : B.length ≤ 12) (hml : M.length ≤ 1000) (hxl : X.length ≤ 1000) : ∀ (d m : Nat), m + d = M.length → Ev (fun k => lw_FeeOnce.l4 k L B M X (m : Int)) true
 | 0, m, hd => by
  refine Ev.up ?_; simp only [lw_FeeOnce.l4, if_neg (show ¬ (m : Int) < (M.length : Int) by omega)]; exact on_l5 B X hX hB hxl X.length 0 (by omega)
 | d + 1, m, hd => by
  have ih := on_l4 hM hX hL hB hml hxl d (m + 1) (by omega); have h1 := hM.1 M[m] (List.getElem_mem (by omega)); refine Ev.up ?_; simp only [lw_FeeOnce.l4, if_pos (show (m : Int) < (M.length : Int) by omega), if_pos (show (0 : Int) ≤ (m : Int) by omega), rdI M m (by omega), if_neg (show ¬ M[m] < 0 by omega), if_neg (show ¬ M[m] ≥ (L.length : Int) by omega), wi m (by omega)]
  by_cases c : (m : Int) > 0
  ·obtain ⟨j, rfl⟩ : ∃ j, m = j + 1 := ⟨m - 1, by omega⟩
   have ew : wrap64 (((j + 1 : Nat) : Int) - 1) = (j : Int) := by rw [wr (by omega)]; omega
   have := List.pairwise_iff_getElem.1 hM.2 j (j + 1) (by omega) (by omega) (by omega); simp only [if_pos c, ew, if_pos (show (0 : Int) ≤ (j : Int) by omega), if_pos (show (j : Int) < (M.length : Int) by omega), rdI M j (by omega), if_neg (show ¬ M[j + 1] ≤ M[j] by omega)]; exact ih
  ·simp only [if_neg c]
   exact ih
theorem on_end (i : Nat) (h : BkI i L B fg tw) (hi : i ≤ 8) (own : ∀ l : List S101, l.length ≤ 1000 → lw_own.f l = some l) (x0 : List S105) (x1 : List Int) (x9 : Int) : Ev (fun k => lw_FeeOnce.j1 k x0 x1 L B fg tw x9 false) true := by
 obtain ⟨h1, h2, h3, h4, h5, h6, ⟨F, T, k1, k2, k3⟩, h8⟩ := h
 have hL : L.length ≤ 8 := by omega
 have hB : B.length ≤ 12 := by omega
 have hre : readE (toEnt B) = 0 := by
  have a1 : ((toEnt B).any fun x => !entB x) = false := by
   rw [List.any_eq_false]; intro x hx; have := h3 x hx
   unfold entT at this
   have : entB x = true := (entB_iff x).2 (by omega)
   simp [this]
  have a2 : ((toEnt B).any fun x => x.a == -1) = false := by
   rw [List.any_eq_false]; intro x hx; have := h3 x hx
   unfold entT at this
   simp only [beq_iff_eq]; omega
  have a3 : chkE (toEnt B) = 0 := by
   unfold chkE
   rw [if_neg (by rw [toEnt_len]; omega), a1]; rfl
  unfold readE
  rw [if_pos a3, a2]; rfl
 have hbe : bookE (toDue L) (toEnt B) = 0 := by
  have a1 : ((toDue L).any fun x => !dueB x) = false := by
   rw [List.any_eq_false]; intro x hx; have := h2 x hx
   unfold dueT at this
   have : dueB x = true := by
    unfold dueB
    rw [Bool.and_eq_true, inB_iff, inB_iff]
    simp
    omega
   simp [this]
  rw [bookE, if_pos hre, if_neg (by rw [toDue_len]; omega), a1]; rfl
 have o0 : ∀ a b, 0 ≤ cntD (toDue L) a b := fun a b => (cntD_bd _ _ _).1
 obtain ⟨b1, b2⟩ := book_is (cntD (toDue L)) (toEnt B) h3 o0 (toEnt B).length (Nat.le_refl _); rw [List.take_of_length_le (Nat.le_refl _)] at b1 b2
 have g0 : ∀ a b, 0 ≤ (bookS (toDue L) (toEnt B)).g a b := fun a b => by
  have := b1 a b; have := o0 a b; have := cntE_nn (toEnt B) a b
  show 0 ≤ (bookTo (cntD (toDue L)) (toEnt B) (toEnt B).length).g a b
  omega
 have m1 := miss_is (bookS (toDue L) (toEnt B)).g (toDue L) h2 g0 (toDue L).length (Nat.le_refl _); rw [List.take_of_length_le (Nat.le_refl _)] at m1
 have hM : bookM (toDue L) (toEnt B) = (missTo (bookS (toDue L) (toEnt B)).g (toDue L) (toDue L).length).x := by rw [bookM, if_pos hbe]
 have hX : bookX (toDue L) (toEnt B) = (bookTo (cntD (toDue L)) (toEnt B) (toEnt B).length).x := by rw [bookX, if_pos hbe]; rfl
 have aM := miss_asc (bookS (toDue L) (toEnt B)).g (toDue L) (toDue L).length; have aX := book_asc (cntD (toDue L)) (toEnt B) (toEnt B).length; rw [← hM] at aM m1; rw [← hX] at aX b2; rw [toDue_len] at aM; rw [toEnt_len] at aX
 have lM : ((bookM (toDue L) (toEnt B)).length : Int) = U (fun a b => max 0 (cntD (toDue L) a b - cntE (toEnt B) a b)) := by
  rw [m1]
  refine U_congr fun a b => ?_
  have := b1 a b
  show max 0 (cntD (toDue L) a b - (bookTo (cntD (toDue L)) (toEnt B) (toEnt B).length).g a b) = _
  have := o0 a b; omega
 have lX := b2
 have bdM : (bookM (toDue L) (toEnt B)).length ≤ 8 := by
  rw [hM]
  have := (missTo_bd (bookS (toDue L) (toEnt B)).g 1000 (fun a b => ⟨g0 a b, by
   have q1 := b1 a b; have q2 := (cntD_bd (toDue L) a b).2; rw [toDue_len] at q2
   show (bookTo (cntD (toDue L)) (toEnt B) (toEnt B).length).g a b ≤ _
   omega⟩) (toDue L) (toDue L).length).2
  have e := toDue_len L; omega
 have bdX : (bookX (toDue L) (toEnt B)).length ≤ 12 := by
  rw [hX]; have := (bookTo_bd (cntD (toDue L)) (toEnt B) (toEnt B).length).2; have e := toEnt_len B; omega
 -- what is seen at last is all
 have full : (toDue L).take L.length = toDue L := List.take_of_length_le (by rw [toDue_len]; exact Nat.le_refl _)
 have s1 : seenU (toDue L) (fun a b => max 0 (cntD (toDue L) a b - cntE (toEnt B) a b)) L.length = ((bookM (toDue L) (toEnt B)).length : Int) := by
  rw [lM]
  unfold seenU
  refine U_congr fun a b => ?_
  rw [full]; have := o0 a b; have := cntE_nn (toEnt B) a b; simp only
  split <;> omega
 have s2 : seenU (toDue L) (fun a b => max 0 (cntE (toEnt B) a b - cntD (toDue L) a b)) L.length = ((bookX (toDue L) (toEnt B)).length : Int) := by
  rw [lX]
  unfold seenU
  refine U_congr fun a b => ?_
  rw [full]; have := o0 a b; have := cntE_nn (toEnt B) a b; have := h8 a b; simp only
  split <;> omega
 have up : ∀ (f : Cnt) (j : Nat), (∀ a b, 0 ≤ f a b) → 0 ≤ seenU (toDue L) f j ∧ seenU (toDue L) f j ≤ U f := by
  intro f j hf
  constructor
  ·have : U (fun _ _ => 0) ≤ seenU (toDue L) f j := U_le fun a b => by
    have := hf a b
    split <;> omega
   rw [U_zero] at this; exact this
  ·exact U_le fun a b => by
    have := hf a b
    split <;> omega
 have e1 : U (fun a b => max 0 (cntD (toDue L) a b - cntE (toEnt B) a b)) - U (fun a b => max 0 (cntE (toEnt B) a b - cntD (toDue L) a b)) = fg - tw := by
  rw [← U_sub, ← k2, ← k3, ← U_sub]
  refine U_congr fun a b => ?_
  have := k1 a b; omega
 have e2 : U (fun a b => max 0 (cntD (toDue L) a b - cntE (toEnt B) a b)) ≤ fg := by
  rw [← k2]
  refine U_le fun a b => ?_
  have := k1 a b; omega
 have e3 : U (fun a b => max 0 (cntE (toEnt B) a b - cntD (toDue L) a b)) ≤ tw := by
  rw [← k3]
  refine U_le fun a b => ?_
  have := k1 a b; omega
 rw [← lM] at e1 e2; rw [← lX] at e1 e3
 have fin : Ev (fun k => lw_FeeOnce.l1 k L B fg tw (bookM (toDue L) (toEnt B)) (bookX (toDue L) (toEnt B)) ((bookM (toDue L) (toEnt B)).length : Int) ((bookX (toDue L) (toEnt B)).length : Int) (L.length : Int)) true := by
  have h4' := on_l4 L B (bookM (toDue L) (toEnt B)) (bookX (toDue L) (toEnt B)) aM aX hL hB (by omega) (by omega) (bookM (toDue L) (toEnt B)).length 0 (by omega)
  generalize bookM (toDue L) (toEnt B) = M at *
  generalize bookX (toDue L) (toEnt B) = X at *
  refine Ev.up ?_; simp only [lw_FeeOnce.l1, if_neg (show ¬ (L.length : Int) < (L.length : Int) by omega), if_true]; rw [wr (x := (M.length : Int) - X.length) (by omega), wr (x := fg - tw) (by omega)]; simp only [if_pos (show (M.length : Int) - X.length = fg - tw by omega), if_neg (show ¬ (M.length : Int) > fg by omega), decide_eq_false (show ¬ (X.length : Int) > tw by omega)]; refine Ev.up ?_; simp only [lw_FeeOnce.j7, Bool.false_eq_true, if_false]; exact h4'
 rw [← s1, ← s2] at fin
 have h0 := on_l1 L B fg tw (bookM (toDue L) (toEnt B)) (bookX (toDue L) (toEnt B)) hL hB h2 (fun j hj => by
  have u1 := up (fun a b => max 0 (cntD (toDue L) a b - cntE (toEnt B) a b)) j (fun a b => by omega); have u2 := up (fun a b => max 0 (cntE (toEnt B) a b - cntD (toDue L) a b)) j (fun a b => by omega); rw [← lM] at u1; rw [← lX] at u2
  exact ⟨⟨u1.1, by omega⟩, u2.1, by omega⟩) fin L.length 0 (by omega)
 have z : ∀ f : Cnt, seenU (toDue L) f 0 = 0 := fun f => by
  unfold seenU
  rw [U_congr (g := fun _ _ => 0) (fun a b => by rw [if_neg (by show ¬ (0 : Int) < 0; omega)]), U_zero]
 rw [z, z] at h0; refine Ev.up ?_; simp only [lw_FeeOnce.j1, Bool.false_eq_true, if_false, Option.bind_some, List.length_nil, List.nil_append, if_pos (show 0 + L.length < 8796093022208 by omega), own B (by omega), fee_Booked.f, hbe, if_true]; exact h0
end
def ub2 (x : Int) : Prop := 0 ≤ x ∧ x ≤ 255
theorem on_l0 (x0 : List S105) (x1 : List Int) (h0 : ∀ x ∈ x0, ub2 x.f0 ∧ ub2 x.f1) (h1 : ∀ x ∈ x1, ub2 x) (own : ∀ l : List S101, l.length ≤ 1000 → lw_own.f l = some l) : ∀ (d i : Nat) (L : List S58) (B : List S101) (fg tw : Int), i + d = 8 → BkI i L B fg tw → Ev (fun k => lw_FeeOnce.l0 k x0 x1 L B fg tw (i : Int)) true
 | 0, i, L, B, fg, tw, hd, h => by
  have he := on_end L B fg tw i h (by omega) own x0 x1 (i : Int); refine Ev.up ?_; simp only [lw_FeeOnce.l0, decide_eq_false (show ¬ (i : Int) < 8 by omega)]
  by_cases c : (i : Int) < (x0.length : Int)
  ·simp only [if_pos c]; exact he
  ·simp only [if_neg c]; exact he
 | d + 1, i, L, B, fg, tw, hd, h => by
  by_cases hi : i < x0.length
  ·have hm : rd_T105 x0 (i : Int) ∈ x0 := by
    have e : rd_T105 x0 (i : Int) = x0[i] := by simp [rd_T105, hi]
    rw [e]; exact List.getElem_mem _
   obtain ⟨⟨a1, a2⟩, a3, a4⟩ := h0 _ hm; have hli := h.li; have hbl := h.bl; have hfg := h.fg0; have htw := h.tw0
   generalize hx : rd_T105 x0 (i : Int) = x at *
   have hc : 1 ≤ 1 + x.f0 % 5 ∧ 1 + x.f0 % 5 ≤ 5 := by omega
   have ha : 0 ≤ x.f1 % 101 ∧ x.f1 % 101 ≤ 100 := by omega
   generalize hcg : 1 + x.f0 % 5 = c at *
   generalize hag : x.f1 % 101 = a at *
   have e1 : toEnt [(⟨c, 0, a⟩ : S101)] = [⟨c, 0, a⟩] := rfl; have et : entT ⟨c, 0, a⟩ := ⟨hc, rfl, ha⟩
   have nx := fun (n : Int) (hn : 0 ≤ n ∧ n ≤ 2) B' hB hbe hl ht => on_l0 x0 x1 h0 h1 own d (i + 1) (L ++ [⟨c, a⟩]) B' _ _ (by omega) (h.step c a hc ha n hn B' hB hbe hl ht)
   have go0 : Ev (fun k => lw_FeeOnce.l0 k x0 x1 (L ++ [⟨c, a⟩]) B (fg + 1) tw ((i + 1 : Nat) : Int)) true := by
    have := nx 0 (by omega) B (fun x y => by simp) h.be (by omega) (fun e => by omega)
    simpa using this
   have single : ∀ B' : List S101, (∀ x y, cntE (toEnt B') x y = cntE (toEnt B) x y + (if c = x ∧ a = y then 1 else 0)) → (∀ e ∈ toEnt B', entT e) → (B'.length : Int) = B.length + 1 → Ev (fun k => lw_FeeOnce.l0 k x0 x1 (L ++ [⟨c, a⟩]) B' fg tw ((i + 1 : Nat) : Int)) true := by
    intro B' q1 q2 q3; have := nx 1 (by omega) B' q1 q2 q3 (fun e => by omega)
    simpa using this
   have goF : Ev (fun k => lw_FeeOnce.l0 k x0 x1 (L ++ [⟨c, a⟩]) ([⟨c, 0, a⟩] ++ B) fg tw ((i + 1 : Nat) : Int)) true := by
    refine single _ (fun x y => ?_) (fun e he => ?_) (by simp <;> omega)
    ·rw [toEnt_app, cntE_append, e1, cntE_one]
     simp only; omega
    ·rw [toEnt_app, List.mem_append, e1, List.mem_singleton] at he
     rcases he with he | he
     ·rw [he]; exact et
     ·exact h.be e he
   have goB : Ev (fun k => lw_FeeOnce.l0 k x0 x1 (L ++ [⟨c, a⟩]) (B ++ [⟨c, 0, a⟩]) fg tw ((i + 1 : Nat) : Int)) true := by
    refine single _ (fun x y => ?_) (fun e he => ?_) (by simp)
    ·rw [toEnt_app, cntE_append, e1, cntE_one]
    ·rw [toEnt_app, List.mem_append, e1, List.mem_singleton] at he
     rcases he with he | he
     ·exact h.be e he
     ·rw [he]; exact et
   have go2 : tw < 4 → Ev (fun k => lw_FeeOnce.l0 k x0 x1 (L ++ [⟨c, a⟩]) ([⟨c, 0, a⟩] ++ (B ++ [⟨c, 0, a⟩])) fg (tw + 1) ((i + 1 : Nat) : Int)) true := by
    intro h4
    have := nx 2 (by omega) ([⟨c, 0, a⟩] ++ (B ++ [⟨c, 0, a⟩])) (fun x y => by
     rw [toEnt_app, toEnt_app, cntE_append, cntE_append, e1, cntE_one]; simp only
     split <;> omega) (fun e he => by
     rw [toEnt_app, toEnt_app, List.mem_append, List.mem_append, e1, List.mem_singleton] at he
     rcases he with he | he | he
     ·rw [he]; exact et
     ·exact h.be e he
     ·rw [he]; exact et) (by simp <;> omega) (fun _ => h4)
    simpa using this
   have kind : ∀ q : Int, 0 ≤ q ∧ q ≤ 255 → Ev (fun k => lw_FeeOnce.j2 k x0 x1 (L ++ [⟨c, a⟩]) B fg tw (i : Int) q c a) true := by
    intro q hq
    have bl1 : B.length ≤ 100 := by omega
    have one : Ev (fun k => lw_FeeOnce.j3 k x0 x1 (L ++ [⟨c, a⟩]) B fg tw (i : Int) q false c 0 a) true := by
     refine Ev.up ?_; simp only [lw_FeeOnce.j3, Bool.false_eq_true, if_false, Option.bind_some, List.length_cons, List.length_nil, if_pos (show 0 + 1 + B.length < 5864062014805 by omega), if_pos (show B.length + (0 + 1) < 5864062014805 by omega), wi i (by omega)]
     by_cases c2 : Int.tmod q 2 = 0
     ·simp only [if_pos c2]; exact goF
     ·simp only [if_neg c2]; exact goB
    refine Ev.up ?_; simp only [lw_FeeOnce.j2, Int.tmod_eq_emod_of_nonneg hq.1]
    by_cases c0 : q % 8 = 0
    ·simp only [if_pos c0, wr (x := fg + 1) (by omega), wi i (by omega)]
     exact go0
    ·simp only [if_neg c0]
     by_cases c7 : q % 8 = 7
     ·simp only [if_pos c7]
      by_cases c4 : tw < 4
      ·simp only [decide_eq_true c4]
       refine Ev.up ?_; simp only [lw_FeeOnce.j3, if_true, Option.bind_some, List.length_cons, List.length_nil, List.length_append, if_pos (show B.length + (0 + 1) < 5864062014805 by omega), if_pos (show 0 + 1 + (B.length + (0 + 1)) < 5864062014805 by omega), wr (x := tw + 1) (by omega), wi i (by omega)]; exact go2 c4
      ·simp only [decide_eq_false c4]
       exact one
     ·simp only [if_neg c7]
      exact one
   refine Ev.up ?_; simp only [lw_FeeOnce.l0, if_pos (show (i : Int) < (x0.length : Int) by omega), decide_eq_true (show (i : Int) < 8 by omega)]; refine Ev.up ?_; simp only [lw_FeeOnce.j1, if_true, if_pos (show (0 : Int) ≤ (i : Int) by omega), if_pos (show (i : Int) < (x0.length : Int) by omega), hx, Option.bind_some, List.length_cons, List.length_nil, if_pos (show L.length + (0 + 1) < 8796093022208 by omega), wr (x := x.f0) (by omega), wr (x := x.f1) (by omega), Int.tmod_eq_emod_of_nonneg a1, Int.tmod_eq_emod_of_nonneg a3, hcg, hag, wr (x := c) (by omega)]
   by_cases c1 : (i : Int) < (x1.length : Int)
   ·have hq : rd x1 (i : Int) ∈ x1 := by
     rw [rdI x1 i (by omega)]; exact List.getElem_mem _
    simp only [if_pos c1]; exact kind _ (h1 _ hq)
   ·simp only [if_neg c1]
    exact kind 1 (by omega)
  ·have he := on_end L B fg tw i h (by omega) own x0 x1 (i : Int)
   refine Ev.up ?_; simp only [lw_FeeOnce.l0, if_neg (show ¬ (i : Int) < (x0.length : Int) by omega)]; exact he
theorem FeeOnce_pure (l0 : List (S105)) (l1 : List Int) (w0 : ∀ x_ ∈ l0, ((Lit.int .u8 x_.f0).wf = true) ∧ ((Lit.int .u8 x_.f1).wf = true)) (w1 : ∀ x_ ∈ l1, (Lit.int .u8 x_).wf = true) : ∃ k, lw_FeeOnce.f k l0 l1 = some true := by
 have u : ∀ x : Int, (Lit.int .u8 x).wf = true → ub2 x := fun x h => by
  simp only [Lit.wf, Bool.and_eq_true, decide_eq_true_eq] at h; exact h
 have own : ∀ l : List S101, l.length ≤ 1000 → lw_own.f l = some l := fun l h => by
  unfold lw_own.f
  simp only [Option.bind_some, List.length_nil, List.nil_append]; rw [if_pos (by omega)]
 have hI : BkI 0 [] [] 0 0 := ⟨rfl, fun d hd => absurd hd List.not_mem_nil, fun d hd => absurd hd List.not_mem_nil, rfl, by omega, by omega, ⟨fun _ _ => 0, fun _ _ => 0, fun a b => ⟨Int.le_refl _, Int.le_refl _, rfl⟩, U_zero, U_zero⟩, fun a b h => by cases h⟩; exact (on_l0 l0 l1 (fun x h => ⟨u _ (w0 x h).1, u _ (w0 x h).2⟩) (fun x h => u _ (w1 x h)) own 8 0 [] [] 0 0 (by omega) hI).rounds
end Go.Proofs.Ytdlekcdedahbhaa.Q
