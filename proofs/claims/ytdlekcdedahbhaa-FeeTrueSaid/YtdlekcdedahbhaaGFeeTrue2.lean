/- Functions printed by the kit's printer over these walks, and the plain law. No condition. -/
import Derived.Test.YtdlekcdedahbhaaX0
import Derived.WalkKit
import Derived.ProofKit
import Derived.OpenShut
import Derived.ShutString
import Derived.ChangeOld
import Derived.Below
import Derived.SizedLaws
import Derived.ChangeArms
import Derived.WideShapes
import Derived.Carry
import Derived.Test.YtdlekcdedahbhaaGFeeTrue0
import Derived.Test.YtdlekcdedahbhaaGFeeTrue1
set_option linter.unusedVariables false
set_option linter.unusedSimpArgs false
namespace Go.Proofs.Ytdlekcdedahbhaa.Rw
open Go.RowKit Go.Proofs.YtdlekcdedahbhaaW.PrintWords
set_option linter.unusedVariables false
set_option linter.unusedSimpArgs false
theorem add_two (a : Addr) (x y : Nat) : (a.add x).add y = a.add (x + y) := by
 unfold Addr.add
 by_cases h1 : x = 0
 ·subst h1; simp
 ·by_cases h2 : y = 0
  ·subst h2; simp
  ·have h3 : ¬ x + y = 0 := by omega
   simp [h1, h2, Nat.add_assoc]
structure Opens {α : Type} (P : Program) (t : TypeId) (d : Kd α) (good : α → Prop) : Prop where
 size : d.sz = P.cellsOf t
 read : ∀ {H : Type} {enc : TypeId × Value → H} {w : World} {base : Nat} {sp : Nat → Bool} {held : Bool} {fuel : Nat} {cs : List Value} {x : DataW H × List MemPlace}, DataW.trod enc P w base sp held fuel t cs = some x → ∃ y : α, d.K w y cs ∧ good y
theorem Opens.int {P : Program} {t : TypeId} {k : IntKind} (ht : P.underlying t = some (.int k)) (hc : 1 = P.cellsOf t) : Opens P t (Kd.int k) (fun n => (Lit.int k n).wf = true) := ⟨hc, fun h => by
 obtain ⟨n, rfl, rfl, hw⟩ := DataW.trod_int ht h
 exact ⟨n, rfl, hw⟩⟩
theorem Opens.slice {α : Type} {P : Program} {t e : TypeId} {d : Kd α} {good : α → Prop} (ht : P.underlying t = some (.slice e)) (hc : 1 = P.cellsOf t) (h : Opens P e d good) : Opens P t (Kd.slice e d) (fun l => ∀ x ∈ l, good x) := ⟨hc, fun {H enc w base sp held fuel cs x} hx => by
 rcases DataW.trod_slice ht hx with ⟨rfl, _⟩ | ⟨a, len, cap, elems, rest, n, _, rfl, _, hb, hl, hm, hlen, hel, _, _⟩
 ·exact ⟨[], ⟨none, 0, rfl, Nat.le_refl _, Kd.C_nil _ _⟩, fun x hx => by cases hx⟩
 ·have key : ∀ m, m ≤ len → ∃ l : List α, l.length = m ∧ ∀ i z, l[i]? = some z → good z ∧ ∃ c, c.length = d.sz ∧ d.K w z c ∧ ∀ j u, c[j]? = some u → w.cell? (a.add (i * d.sz + j)) = some u := by
   intro m
   induction m with
   | zero => intro _; exact ⟨[], rfl, fun i z hz => by simp at hz⟩
   | succ m ih =>
    intro hle; obtain ⟨l, hll, hl2⟩ := ih (by omega); have h1 := hel m (by omega); rw [List.getElem?_eq_getElem (by omega), Option.bind_eq_some_iff] at h1; obtain ⟨c, hc1, hc2⟩ := h1; obtain ⟨z, hz, hg⟩ := h.read hc2; obtain ⟨_, hcl, hcc⟩ := World.cells?_some hc1; refine ⟨l ++ [z], by simp [hll], fun i z' hz' => ?_⟩
    rcases Nat.lt_or_ge i l.length with hlt | hge
    ·rw [List.getElem?_append_left hlt] at hz'
     exact hl2 i z' hz'
    ·rw [List.getElem?_append_right hge] at hz'
     have e : i = m := by
      rcases Nat.eq_zero_or_pos (i - l.length) with e | e
      ·omega
      ·rw [List.getElem?_eq_none (by simp; omega)] at hz'; cases hz'
     subst e; rw [show i - l.length = 0 by omega] at hz'; simp only [List.getElem?_cons_zero, Option.some.injEq] at hz'; subst hz'; refine ⟨hg, c, by rw [hcl, h.size], hz, fun j u hu => ?_⟩
     have hj : j < P.cellsOf e := by rw [← hcl]; exact (List.getElem?_eq_some_iff.1 hu).1
     have := hcc j hj; rw [hu] at this; rw [h.size, ← this, add_two]
  obtain ⟨l, hll, hl2⟩ := key len (Nat.le_refl _); refine ⟨l, ⟨some a, cap, by rw [hll], by omega, rfl, by unfold maxLen at hm; omega, fun _ => ⟨a, rfl, fun j p hj => ?_⟩⟩, fun x hx => ?_⟩
  ·obtain ⟨_, c, h1, h2, h3⟩ := hl2 j p hj
   exact ⟨c, h1, h2, h3⟩
  ·obtain ⟨i, hi⟩ := List.getElem?_of_mem hx
   exact (hl2 i x hi).1⟩
structure FOpens {α : Type} (P : Program) (fs : List Field) (off : Nat) (d : Kd α) (good : α → Prop) : Prop where
 read : ∀ {H : Type} {enc : TypeId × Value → H} {w : World} {base : Nat} {sp : Nat → Bool} {held : Bool} {fuel : Nat} {cs : List Value},
 (∀ (i : Nat) (f : Field), fs[i]? = some f → ∃ y, DataW.trod enc P w base sp held fuel f.type ((cs.drop f.offset).take (P.cellsOf f.type)) = some y) → cs.length = off + d.sz → ∃ y : α, d.K w y (cs.drop off) ∧ good y
theorem FOpens.one {α : Type} {P : Program} {f : Field} {off : Nat} {d : Kd α} {good : α → Prop} (h : Opens P f.type d good) (ho : f.offset = off) : FOpens P [f] off d good := ⟨fun {H enc w base sp held fuel cs} hf hl => by
 obtain ⟨y, hy⟩ := hf 0 f rfl; rw [ho, ← h.size, List.take_of_length_le (by rw [List.length_drop]; omega)] at hy
 exact h.read hy⟩
theorem FOpens.cons {α β : Type} {P : Program} {f : Field} {fs : List Field} {off : Nat} {d1 : Kd α} {d2 : Kd β} {g1 : α → Prop} {g2 : β → Prop} (h1 : Opens P f.type d1 g1) (ho : f.offset = off) (h2 : FOpens P fs (off + d1.sz) d2 g2) : FOpens P (f :: fs) off (Kd.pair d1 d2) (fun x => g1 x.1 ∧ g2 x.2) := ⟨fun {H enc w base sp held fuel cs} hf hl => by
 have hsz : (Kd.pair d1 d2).sz = d1.sz + d2.sz := rfl; obtain ⟨y1, hy1⟩ := hf 0 f rfl; rw [ho, ← h1.size] at hy1; obtain ⟨x1, hk1, hg1⟩ := h1.read hy1; obtain ⟨x2, hk2, hg2⟩ := h2.read (cs := cs) (fun i g hg => hf (i + 1) g (by simpa using hg)) (by omega); refine ⟨(x1, x2), ⟨_, _, ?_, hk1, hk2⟩, hg1, hg2⟩
 rw [← List.drop_drop, List.take_append_drop]⟩
theorem Opens.struct {α : Type} {P : Program} {t : TypeId} {fs : Array Field} {d : Kd α} {good : α → Prop} (ht : P.underlying t = some (.struct fs)) (hs : d.sz = P.cellsOf t) (h : FOpens P fs.toList 0 d good) : Opens P t d good := ⟨hs, fun {H enc w base sp held fuel cs x} hx => by
 obtain ⟨xs, n, _, _, hcl, hxl, hf⟩ := DataW.trod_struct ht hx
 have := h.read (enc := enc) (w := w) (base := base) (sp := sp) (held := held) (fuel := n) (cs := cs) (fun i f hi => by
  rw [Array.getElem?_toList] at hi; have hlt := (Array.getElem?_eq_some_iff.1 hi).1
  exact ⟨xs[i]'(by omega), by rw [hf i f hi, List.getElem?_eq_getElem]⟩) (by omega)
 simpa using this⟩
def fld (e : TypeId) (off : Nat) : Field := { name := "", type := e, offset := off, embedded := false, tag := "", pkgPath := "", byteOffset := 0 }
theorem Opens.array {α : Type} {P : Program} {t e : TypeId} {n : Nat} {d : Kd α} {good : α → Prop} (c : Nat) (ht : P.underlying t = some (.array n e)) (hs : d.sz = P.cellsOf t) (hc : c = P.cellsOf e) (h : FOpens P ((List.range n).map fun i => fld e (i * c)) 0 d good) : Opens P t d good := ⟨hs, fun {H enc w base sp held fuel cs x} hx => by
 subst hc; obtain ⟨xs, m, _, _, hcl, hxl, hf⟩ := DataW.trod_array ht hx
 have := h.read (enc := enc) (w := w) (base := base) (sp := sp) (held := held) (fuel := m) (cs := cs) (fun i f hi => by
  rw [List.getElem?_map, Option.map_eq_some_iff] at hi; obtain ⟨j, hj, rfl⟩ := hi; have hlt := (List.getElem?_eq_some_iff.1 hj).1; rw [List.length_range] at hlt; rw [List.getElem?_range hlt] at hj
  cases hj
  exact ⟨xs[i]'(by omega), (hf i hlt).trans (List.getElem?_eq_getElem (by omega))⟩) (by omega)
 simpa using this⟩
theorem Opens.iso {α β : Type} {P : Program} {t : TypeId} {d : Kd α} {good : α → Prop} (f : β → α) (g : α → β) (hfg : ∀ x, f (g x) = x) (h : Opens P t d good) : Opens P t (Kd.iso d f) (fun y => good (f y)) := ⟨h.size, fun hx => by
 obtain ⟨y, hk, hg⟩ := h.read hx
 exact ⟨g y, by show d.K _ (f (g y)) _; rw [hfg]; exact hk, by rw [hfg]; exact hg⟩⟩
end Go.Proofs.Ytdlekcdedahbhaa.Rw
namespace Go.Proofs.Ytdlekcdedahbhaa.Q
open Go.RowKit Go.Proofs.YtdlekcdedahbhaaW.PrintWords Go.Proofs.YtdlekcdedahbhaaW.PrintLast Go.Proofs.YtdlekcdedahbhaaW.PrintMore
attribute [local go_sem] max2_int min2_int max_two min_two max_three min_three max_four min_four   -- for this text's walks alone
set_option linter.unusedVariables false
set_option linter.unusedSimpArgs false
end Go.Proofs.Ytdlekcdedahbhaa.Q
namespace Go.Proofs.Ytdlekcdedahbhaa.Q
open Go.RowKit Go.Proofs.YtdlekcdedahbhaaW.PrintWords Go.Proofs.YtdlekcdedahbhaaW.PrintLast Go.Proofs.YtdlekcdedahbhaaW.PrintMore
attribute [local go_sem] max2_int min2_int max_two min_two max_three min_three max_four min_four   -- for this text's walks alone
set_option linter.unusedVariables false
set_option linter.unusedSimpArgs false
end Go.Proofs.Ytdlekcdedahbhaa.Q
namespace Go.Proofs.Ytdlekcdedahbhaa.Q
open Go.RowKit Go.Proofs.YtdlekcdedahbhaaW.PrintWords Go.Proofs.YtdlekcdedahbhaaW.PrintLast Go.Proofs.YtdlekcdedahbhaaW.PrintMore
attribute [local go_sem] max2_int min2_int max_two min_two max_three min_three max_four min_four   -- for this text's walks alone
set_option linter.unusedVariables false
set_option linter.unusedSimpArgs false
theorem eqA101 (d : Nat) (w : World) (x0 y0 : Int) (x1 y1 : Int) (x2 y2 : Int) :
  (Op.equalIn (d + 2) 101 (.agg #[.int .i64 x0, .int .i64 x1, .int .i64 x2]) (.agg #[.int .i64 y0, .int .i64 y1, .int .i64 y2])).run Try.prog w = .ok (x0 == y0 && (x1 == y1 && (x2 == y2))) w := by
 refine eqA_of Try.underlying101 sqF ?_; refine eqf_cons (by rfl) (by go_simp; rfl) (by go_simp; rfl) (by go_simp) ?_; refine eqf_cons (by rfl) (by go_simp; rfl) (by go_simp; rfl) (by go_simp) ?_; exact eqf_last (by rfl) (by go_simp; rfl) (by go_simp; rfl) (by go_simp)
end Go.Proofs.Ytdlekcdedahbhaa.Q
namespace Go.Proofs.Ytdlekcdedahbhaa.Q
open Go.RowKit Go.Proofs.YtdlekcdedahbhaaW.PrintWords Go.Proofs.YtdlekcdedahbhaaW.PrintLast Go.Proofs.YtdlekcdedahbhaaW.PrintMore
attribute [local go_sem] max2_int min2_int max_two min_two max_three min_three max_four min_four   -- for this text's walks alone
set_option linter.unusedVariables false
set_option linter.unusedSimpArgs false
attribute [local go_sem high] eqA101
end Go.Proofs.Ytdlekcdedahbhaa.Q
namespace Go.Proofs.Ytdlekcdedahbhaa.Q
open Go.RowKit Go.Proofs.YtdlekcdedahbhaaW.PrintWords Go.Proofs.YtdlekcdedahbhaaW.PrintLast Go.Proofs.YtdlekcdedahbhaaW.PrintMore
attribute [local go_sem] max2_int min2_int max_two min_two max_three min_three max_four min_four   -- for this text's walks alone
set_option linter.unusedVariables false
set_option linter.unusedSimpArgs false
end Go.Proofs.Ytdlekcdedahbhaa.Q
namespace Go.Proofs.Ytdlekcdedahbhaa.Q
open Go.RowKit Go.Proofs.YtdlekcdedahbhaaW.PrintWords Go.Proofs.YtdlekcdedahbhaaW.PrintLast Go.Proofs.YtdlekcdedahbhaaW.PrintMore
attribute [local go_sem] max2_int min2_int max_two min_two max_three min_three max_four min_four   -- for this text's walks alone
set_option linter.unusedVariables false
set_option linter.unusedSimpArgs false
end Go.Proofs.Ytdlekcdedahbhaa.Q
namespace Go.Proofs.Ytdlekcdedahbhaa.Q
open Go.RowKit Go.Proofs.YtdlekcdedahbhaaW.PrintWords
set_option linter.unusedVariables false
set_option linter.unusedSimpArgs false
theorem Ev.up {α : Type} {g : Nat → Option α} {r : α} (h : Ev (fun k => g (k + 1)) r) : Ev g r := by
 obtain ⟨K, hK⟩ := h; refine ⟨K + 1, fun k hk => ?_⟩; obtain ⟨m, rfl⟩ : ∃ m, k = m + 1 := ⟨k - 1, by omega⟩; exact hK m (by omega)
theorem wr {x : Int} (h : -9223372036854775808 ≤ x ∧ x ≤ 9223372036854775807) : wrap64 x = x := by unfold wrap64; omega
theorem wi (i : Nat) (h : i ≤ 100000) : wrap64 ((i : Int) + 1) = ((i + 1 : Nat) : Int) := by rw [wr (by omega)]; omega
theorem known_f : lw_known.f = some true := rfl
end Go.Proofs.Ytdlekcdedahbhaa.Q
namespace Go.Proofs.Ytdlekcdedahbhaa.Q
open Go.RowKit Go.Proofs.YtdlekcdedahbhaaW.PrintWords Go.Proofs.YtdlekcdedahbhaaW.PrintLast Go.Proofs.YtdlekcdedahbhaaW.PrintMore
attribute [local go_sem] max2_int min2_int max_two min_two max_three min_three max_four min_four   -- for this text's walks alone
set_option linter.unusedVariables false
set_option linter.unusedSimpArgs false
end Go.Proofs.Ytdlekcdedahbhaa.Q
namespace Go.Proofs.Ytdlekcdedahbhaa.Q
open Go.RowKit Go.Proofs.YtdlekcdedahbhaaW.PrintWords Go.Proofs.YtdlekcdedahbhaaW.PrintLast Go.Proofs.YtdlekcdedahbhaaW.PrintMore
attribute [local go_sem] max2_int min2_int max_two min_two max_three min_three max_four min_four   -- for this text's walks alone
set_option linter.unusedVariables false
set_option linter.unusedSimpArgs false
end Go.Proofs.Ytdlekcdedahbhaa.Q
namespace Go.Proofs.Ytdlekcdedahbhaa.Q
open Go.RowKit Go.Proofs.YtdlekcdedahbhaaW.PrintWords Go.Proofs.YtdlekcdedahbhaaW.PrintLast Go.Proofs.YtdlekcdedahbhaaW.PrintMore
attribute [local go_sem] max2_int min2_int max_two min_two max_three min_three max_four min_four   -- for this text's walks alone
set_option linter.unusedVariables false
set_option linter.unusedSimpArgs false
theorem eqA25 (d : Nat) (w : World) (x0 y0 : Int) (x1 y1 : Int) (x2 y2 : Int) :
  (Op.equalIn (d + 2) 25 (.agg #[.int .i64 x0, .int .i64 x1, .int .i64 x2]) (.agg #[.int .i64 y0, .int .i64 y1, .int .i64 y2])).run Try.prog w = .ok (x0 == y0 && (x1 == y1 && (x2 == y2))) w := by
 refine eqA_of Try.underlying25 sqF ?_; refine eqf_cons (by rfl) (by go_simp; rfl) (by go_simp; rfl) (by go_simp) ?_; refine eqf_cons (by rfl) (by go_simp; rfl) (by go_simp; rfl) (by go_simp) ?_; exact eqf_last (by rfl) (by go_simp; rfl) (by go_simp; rfl) (by go_simp)
end Go.Proofs.Ytdlekcdedahbhaa.Q
namespace Go.Proofs.Ytdlekcdedahbhaa.Q
open Go.RowKit Go.Proofs.YtdlekcdedahbhaaW.PrintWords Go.Proofs.YtdlekcdedahbhaaW.PrintLast Go.Proofs.YtdlekcdedahbhaaW.PrintMore
attribute [local go_sem] max2_int min2_int max_two min_two max_three min_three max_four min_four   -- for this text's walks alone
set_option linter.unusedVariables false
set_option linter.unusedSimpArgs false
theorem eqA44 (d : Nat) (w : World) (x0 y0 : Int) (x1 y1 : Int) :
  (Op.equalIn (d + 2) 44 (.agg #[.int .i64 x0, .int .i64 x1]) (.agg #[.int .i64 y0, .int .i64 y1])).run Try.prog w = .ok (x0 == y0 && (x1 == y1)) w := by
 refine eqA_of Try.underlying44 sqF ?_; refine eqf_cons (by rfl) (by go_simp; rfl) (by go_simp; rfl) (by go_simp) ?_; exact eqf_last (by rfl) (by go_simp; rfl) (by go_simp; rfl) (by go_simp)
end Go.Proofs.Ytdlekcdedahbhaa.Q
namespace Go.Proofs.Ytdlekcdedahbhaa.Q
open Go.RowKit Go.Proofs.YtdlekcdedahbhaaW.PrintWords Go.Proofs.YtdlekcdedahbhaaW.PrintLast Go.Proofs.YtdlekcdedahbhaaW.PrintMore
attribute [local go_sem] max2_int min2_int max_two min_two max_three min_three max_four min_four   -- for this text's walks alone
set_option linter.unusedVariables false
set_option linter.unusedSimpArgs false
attribute [local go_sem high] eqA25 eqA44
end Go.Proofs.Ytdlekcdedahbhaa.Q
namespace Go.Proofs.Ytdlekcdedahbhaa.Q
open Go.RowKit Go.Proofs.YtdlekcdedahbhaaW.PrintWords Go.Proofs.YtdlekcdedahbhaaW.PrintMore
set_option linter.unusedVariables false
set_option linter.unusedSimpArgs false
theorem wrapI (x : Int) : IntKind.i64.wrap x = x ∨ (x < -9223372036854775808 ∧ x ≥ -27670116110564327424 ∧ IntKind.i64.wrap x = x + 18446744073709551616) ∨ x > 9223372036854775807 ∨ x < -27670116110564327424 := by
 have e : IntKind.i64.wrap x = wrap64 x := by simp only [wrap64, IntKind.wrap_i64]
 rw [e]
 unfold wrap64
 omega
def okx (t : Tar) (h p c : Int) (x : Wk) (f : Int) : Bool := max t.l (c + h * hrs x + p * pds x) + t.f * x.l == f
def okL (t : Tar) (h p c : Int) : List Wk → List Int → Bool
 | x :: xs, f :: fs => okx t h p c x f && okL t h p c xs fs
 | _, _ => true
theorem cloth1 (t : Tar) (ht : tarB t = true) (h p c : Int) (hh : 0 ≤ h ∧ h ≤ 60) (hp : 0 ≤ p ∧ p ≤ 60) (hc : 0 ≤ c ∧ c ≤ 60) (x : Wk) (hx : wkB x = true) (f : Int) (hf : -9223372036854775808 ≤ f ∧ f ≤ 9223372036854775807) :
  (dueW t x f < t.l → okx t h p c x f = false) ∧ (¬ dueW t x f < t.l → ((if t.l < dueW t x f then restW t h p x f else 0) ≤ c ∧ c ≤ restW t h p x f ↔ okx t h p c x f = true)) := by
 have h1 := (tarB_iff _).1 ht; have h2 := (wkB_iff _).1 hx; have h3 := hrs_bd _ hx; have h4 := pds_bd _ hx; have h5 := mul_bd hh h3; have h6 := mul_bd hp h4; have h7 := mul_bd h1.2.2.2.1 h2.2.2
 unfold okx restW dueW
 generalize h * hrs x = a at *
 generalize p * pds x = b at *
 generalize t.f * x.l = d at *
 rw [beq_eq_false_iff_ne, beq_iff_eq]; have w1 := wrapI (f - d)
 generalize IntKind.i64.wrap (f - d) = due at *
 have w2 := wrapI (due - a)
 generalize IntKind.i64.wrap (due - a) = r1 at *
 have w3 := wrapI (r1 - b)
 generalize IntKind.i64.wrap (r1 - b) = r2 at *
 by_cases hq : t.l < due
 ·rw [if_pos hq]
  omega
 ·rw [if_neg hq]
  omega
theorem cloths_iff (t : Tar) (ht : tarB t = true) (h p c : Int) (hh : 0 ≤ h ∧ h ≤ 60) (hp : 0 ≤ p ∧ p ≤ 60) (hc : 0 ≤ c ∧ c ≤ 60) :
  ∀ (xs : List Wk) (fs : List Int) (lo hi : Int), (∀ x ∈ xs, wkB x = true) → (∀ f ∈ fs, -9223372036854775808 ≤ f ∧ f ≤ 9223372036854775807) → 0 ≤ lo → ((clothsL t h p xs fs lo hi).1 ≤ c ∧ c ≤ (clothsL t h p xs fs lo hi).2 ↔ (lo ≤ c ∧ c ≤ hi) ∧ okL t h p c xs fs = true)
 | [], fs, lo, hi, hx, hf, h0 => by simp [clothsL, okL]
 | x :: xs, [], lo, hi, hx, hf, h0 => by simp [clothsL, okL]
 | x :: xs, f :: fs, lo, hi, hx, hf, h0 => by
  obtain ⟨k1, k2⟩ := cloth1 t ht h p c hh hp hc x (hx x (List.mem_cons_self ..)) f (hf f (List.mem_cons_self ..)); rw [clothsL, okL, Bool.and_eq_true]
  by_cases hd : dueW t x f < t.l
  ·rw [if_pos hd, k1 hd]
   simp only [Bool.false_eq_true, false_and, and_false, iff_false]; omega
  ·rw [if_neg hd, ← k2 hd]
   have ih := fun lo hi h0 => cloths_iff t ht h p c hh hp hc xs fs lo hi (fun y hy => hx y (List.mem_cons_of_mem _ hy)) (fun y hy => hf y (List.mem_cons_of_mem _ hy)) h0
   by_cases hq : t.l < dueW t x f
   ·simp only [if_pos hq]
    rw [ih _ _ (by omega)]
    constructor
    ·rintro ⟨h1, h2⟩; exact ⟨by omega, by omega, h2⟩
    ·rintro ⟨h1, h2, h3⟩; exact ⟨by omega, h3⟩
   ·simp only [if_neg hq]
    rw [ih _ _ h0]
    constructor
    ·rintro ⟨h1, h2⟩; exact ⟨by omega, by omega, h2⟩
    ·rintro ⟨h1, h2, h3⟩; exact ⟨by omega, h3⟩
theorem cloths_bd (t : Tar) (h p : Int) : ∀ (xs : List Wk) (fs : List Int) (lo hi : Int), 0 ≤ lo → hi ≤ 60 → 0 ≤ (clothsL t h p xs fs lo hi).1 ∧ (clothsL t h p xs fs lo hi).2 ≤ 60
 | [], fs, lo, hi, h0, h1 => by simp [clothsL]; omega
 | x :: xs, [], lo, hi, h0, h1 => by simp [clothsL]; omega
 | x :: xs, f :: fs, lo, hi, h0, h1 => by
  rw [clothsL]
  split
  ·simp
  ·exact cloths_bd t h p xs fs _ _ (by split <;> omega) (by omega)
def S : Nat → (Nat → Int) → Int
 | 0, _ => 0
 | n + 1, f => S n f + f n
theorem S0 (f : Nat → Int) : S 0 f = 0 := rfl
theorem S1 (n : Nat) (f : Nat → Int) : S (n + 1) f = S n f + f n := rfl
theorem S_congr (f g : Nat → Int) : ∀ n, (∀ i, i < n → f i = g i) → S n f = S n g
 | 0, _ => rfl
 | n + 1, h => by rw [S, S, S_congr f g n (fun i hi => h i (by omega)), h n (by omega)]
theorem S_ivl (lo hi : Int) (h0 : 0 ≤ lo) : ∀ n : Nat, S n (fun c => if lo ≤ (c : Int) ∧ (c : Int) ≤ hi then 1 else 0) = max 0 (min hi ((n : Int) - 1) - lo + 1)
 | 0 => by simp only [S]; omega
 | n + 1 => by
  rw [S, S_ivl lo hi h0 n]
  split <;> omega
def Ext (V : Int → Prop) (x : Sp) : Prop := (V x.lo ∧ V x.hi) ∧ ∀ v, V v → x.lo ≤ v ∧ v ≤ x.hi
theorem Ext.congr {V W : Int → Prop} {x : Sp} (h : Ext V x) (e : ∀ v, W v ↔ V v) : Ext W x := ⟨⟨(e _).2 h.1.1, (e _).2 h.1.2⟩, fun v hv => h.2 v ((e v).1 hv)⟩
theorem Ext.join {V W U : Int → Prop} {x y : Sp} (h : Ext V x) (k : Ext W y) (e : ∀ v, U v ↔ V v ∨ W v) : Ext U ⟨min x.lo y.lo, max x.hi y.hi⟩ := by
 refine ⟨⟨(e _).2 ?_, (e _).2 ?_⟩, fun v hv => ?_⟩
 ·rcases Int.le_total x.lo y.lo with q | q
  ·simp only [Int.min_eq_left q]; exact Or.inl h.1.1
  ·simp only [Int.min_eq_right q]; exact Or.inr k.1.1
 ·rcases Int.le_total x.hi y.hi with q | q
  ·simp only [Int.max_eq_right q]; exact Or.inr k.1.2
  ·simp only [Int.max_eq_left q]; exact Or.inl h.1.2
 ·simp only
  rcases (e v).1 hv with q | q
  ·have := h.2 v q; omega
  ·have := k.2 v q; omega
def Ext3 (Q : Nat → Nat → Nat → Prop) (s : List Sp) : Prop := ∃ x y z, s = [x, y, z] ∧ Ext (fun v => ∃ c h p : Nat, Q c h p ∧ v = c) x ∧ Ext (fun v => ∃ c h p : Nat, Q c h p ∧ v = h) y ∧ Ext (fun v => ∃ c h p : Nat, Q c h p ∧ v = p) z
theorem Ext3.congr {Q R : Nat → Nat → Nat → Prop} {s} (h : Ext3 Q s) (e : ∀ c h p, R c h p ↔ Q c h p) : Ext3 R s := by
 have : R = Q := by funext c h p; exact propext (e c h p)
 rw [this]; exact h
def St (nl : List Sp) (Q : Nat → Nat → Nat → Prop) (m : Int) (s : List Sp) : Prop := (m = 0 ∧ s = nl ∧ ∀ c h p, ¬ Q c h p) ∨ (0 < m ∧ Ext3 Q s)
theorem St.congr {nl Q R m s} (h : St nl Q m s) (e : ∀ c h p, R c h p ↔ Q c h p) : St nl R m s := by
 have : R = Q := by funext c h p; exact propext (e c h p)
 rw [this]; exact h
theorem ext_ivl (lo hi : Nat) (h : lo ≤ hi) (V : Int → Prop) (e : ∀ v, V v ↔ ∃ c : Nat, v = c ∧ lo ≤ c ∧ c ≤ hi) : Ext V ⟨lo, hi⟩ := by
 refine ⟨⟨(e _).2 ⟨lo, rfl, by omega, by omega⟩, (e _).2 ⟨hi, rfl, by omega, by omega⟩⟩, fun v hv => ?_⟩; obtain ⟨c, rfl, h1, h2⟩ := (e v).1 hv; simp only; omega
theorem ext3_new (lo hi h0 p0 : Nat) (hl : lo ≤ hi) (Q : Nat → Nat → Nat → Prop) (e : ∀ c h p, Q c h p ↔ ((lo ≤ c ∧ c ≤ hi) ∧ h = h0 ∧ p = p0)) : Ext3 Q [⟨lo, hi⟩, ⟨h0, h0⟩, ⟨p0, p0⟩] := by
 refine ⟨_, _, _, rfl, ext_ivl lo hi hl _ fun v => ⟨?_, ?_⟩, ext_ivl h0 h0 (by omega) _ fun v => ⟨?_, ?_⟩, ext_ivl p0 p0 (by omega) _ fun v => ⟨?_, ?_⟩⟩
 ·rintro ⟨c, h, p, hq, rfl⟩; have := (e c h p).1 hq; exact ⟨c, rfl, this.1.1, this.1.2⟩
 ·rintro ⟨c, rfl, h1, h2⟩; exact ⟨c, h0, p0, (e _ _ _).2 ⟨⟨h1, h2⟩, rfl, rfl⟩, rfl⟩
 ·rintro ⟨c, h, p, hq, rfl⟩; have := (e c h p).1 hq; exact ⟨h, rfl, by omega, by omega⟩
 ·rintro ⟨c, rfl, h1, h2⟩; exact ⟨lo, h0, p0, (e _ _ _).2 ⟨⟨by omega, hl⟩, rfl, rfl⟩, by omega⟩
 ·rintro ⟨c, h, p, hq, rfl⟩; have := (e c h p).1 hq; exact ⟨p, rfl, by omega, by omega⟩
 ·rintro ⟨c, rfl, h1, h2⟩; exact ⟨lo, h0, p0, (e _ _ _).2 ⟨⟨by omega, hl⟩, rfl, rfl⟩, by omega⟩
theorem ext3_join {Q R U : Nat → Nat → Nat → Prop} {x y z a b c : Sp} (h : Ext3 Q [x, y, z]) (k : Ext3 R [a, b, c]) (e : ∀ c h p, U c h p ↔ Q c h p ∨ R c h p) : Ext3 U (joinS [x, y, z] a b c) := by
 obtain ⟨x', y', z', hs, h1, h2, h3⟩ := h; obtain ⟨a', b', c', ks, k1, k2, k3⟩ := k; simp only [List.cons.injEq, and_true] at hs ks; obtain ⟨rfl, rfl, rfl⟩ := hs; obtain ⟨rfl, rfl, rfl⟩ := ks
 have key : ∀ g : Nat → Nat → Nat → Int, ∀ v, (∃ c h p : Nat, U c h p ∧ v = g c h p) ↔ (∃ c h p : Nat, Q c h p ∧ v = g c h p) ∨ (∃ c h p : Nat, R c h p ∧ v = g c h p) := fun g v => by
  constructor
  ·rintro ⟨c, h, p, hu, rfl⟩
   rcases (e c h p).1 hu with q | q
   ·exact Or.inl ⟨c, h, p, q, rfl⟩
   ·exact Or.inr ⟨c, h, p, q, rfl⟩
  ·rintro (⟨c, h, p, q, rfl⟩ | ⟨c, h, p, q, rfl⟩)
   ·exact ⟨c, h, p, (e _ _ _).2 (Or.inl q), rfl⟩
   ·exact ⟨c, h, p, (e _ _ _).2 (Or.inr q), rfl⟩
 exact ⟨_, _, _, rfl, h1.join k1 (key fun c h p => c), h2.join k2 (key fun c h p => h), h3.join k3 (key fun c h p => p)⟩
def gd (t : Tar) (xs : List Wk) (fs : List Int) (c h p : Nat) : Bool := okL t h p c xs fs
def g1 (t : Tar) (xs : List Wk) (fs : List Int) (c h p : Nat) : Int := if gd t xs fs c h p = true then 1 else 0
def QL (t : Tar) (xs : List Wk) (fs : List Int) (h0 p0 c h p : Nat) : Prop := gd t xs fs c h p = true ∧ c < 61 ∧ h < 61 ∧ p < 61 ∧ (h < h0 ∨ (h = h0 ∧ p < p0))
def mL (t : Tar) (xs : List Wk) (fs : List Int) (h0 p0 : Nat) : Int := S h0 (fun h => S 61 fun p => S 61 fun c => g1 t xs fs c h p) + S p0 (fun p => S 61 fun c => g1 t xs fs c h0 p)
structure Ok (t : Tar) (xs : List Wk) (fs : List Int) : Prop where
 t : tarB t = true
 x : ∀ x ∈ xs, wkB x = true
 f : ∀ f ∈ fs, -9223372036854775808 ≤ f ∧ f ≤ 9223372036854775807
theorem law_step (t : Tar) (xs : List Wk) (fs : List Int) (ok : Ok t xs fs) (h p : Nat) (hh : h < 61) (hp : p < 61) (q : PS) (hq : q.m = mL t xs fs h p ∧ St [] (QL t xs fs h p) q.m q.s) :
  (psStep t xs fs h p q).m = mL t xs fs h (p + 1) ∧ St [] (QL t xs fs h (p + 1)) (psStep t xs fs h p q).m (psStep t xs fs h p q).s := by
 obtain ⟨hm, hs⟩ := hq; have hb := cloths_bd t h p xs fs 0 60 (by omega) (by omega)
 have hi : ∀ c : Nat, c < 61 → ((clothsL t h p xs fs 0 60).1 ≤ (c : Int) ∧ (c : Int) ≤ (clothsL t h p xs fs 0 60).2 ↔ gd t xs fs c h p = true) := fun c hc => by
  rw [cloths_iff t ok.t h p c (by omega) (by omega) (by omega) xs fs 0 60 ok.x ok.f (by omega)]
  unfold gd
  constructor
  ·rintro ⟨_, k⟩; exact k
  ·intro k; exact ⟨by omega, k⟩
 have e1 : S 61 (fun c => g1 t xs fs c h p) = max 0 (min (clothsL t h p xs fs 0 60).2 60 - (clothsL t h p xs fs 0 60).1 + 1) := by
  have := S_ivl (clothsL t h p xs fs 0 60).1 (clothsL t h p xs fs 0 60).2 hb.1 61; rw [show (((61 : Nat) : Int) - 1) = 60 by rfl] at this; rw [← this]
  refine S_congr _ _ _ fun c hc => ?_
  unfold g1
  by_cases k : gd t xs fs c h p = true
  ·rw [if_pos k, if_pos ((hi c hc).2 k)]
  ·rw [if_neg k, if_neg (fun k2 => k ((hi c hc).1 k2))]
 have e2 : mL t xs fs h (p + 1) = mL t xs fs h p + S 61 (fun c => g1 t xs fs c h p) := by unfold mL; rw [S1 p]; omega
 rw [e2, e1]
 generalize hlo : (clothsL t h p xs fs 0 60).1 = lo at *
 generalize hhi : (clothsL t h p xs fs 0 60).2 = hi2 at *
 unfold psStep
 rw [hlo, hhi]
 by_cases hlt : hi2 < lo
 ·rw [if_pos hlt]
  refine ⟨by omega, hs.congr fun c h' p' => ?_⟩
  unfold QL
  constructor
  ·rintro ⟨k1, k2, k3, k4, k5⟩
   refine ⟨k1, k2, k3, k4, ?_⟩
   rcases k5 with k5 | ⟨rfl, k5⟩
   ·exact Or.inl k5
   ·by_cases e : p' = p
    ·subst e
     have := (hi c k2).2 k1; omega
    ·exact Or.inr ⟨rfl, by omega⟩
  ·rintro ⟨k1, k2, k3, k4, k5⟩
   exact ⟨k1, k2, k3, k4, by omega⟩
 ·rw [if_neg hlt]
  obtain ⟨lo', rfl⟩ : ∃ n : Nat, lo = (n : Int) := ⟨lo.toNat, by omega⟩; obtain ⟨hi', rfl⟩ : ∃ n : Nat, hi2 = (n : Int) := ⟨hi2.toNat, by omega⟩; have hnew := ext3_new lo' hi' h p (by omega) (fun c h' p' => (lo' ≤ c ∧ c ≤ hi') ∧ h' = h ∧ p' = p) (fun c h' p' => Iff.rfl)
  have hU : ∀ c h' p', QL t xs fs h (p + 1) c h' p' ↔ QL t xs fs h p c h' p' ∨ ((lo' ≤ c ∧ c ≤ hi') ∧ h' = h ∧ p' = p) := fun c h' p' => by
   unfold QL
   constructor
   ·rintro ⟨k1, k2, k3, k4, k5⟩
    by_cases e : h' = h ∧ p' = p
    ·obtain ⟨rfl, rfl⟩ := e
     have := (hi c k2).2 k1; exact Or.inr ⟨by omega, rfl, rfl⟩
    ·exact Or.inl ⟨k1, k2, k3, k4, by omega⟩
   ·rintro (⟨k1, k2, k3, k4, k5⟩ | ⟨k1, rfl, rfl⟩)
    ·exact ⟨k1, k2, k3, k4, by omega⟩
    ·exact ⟨(hi c (by omega)).1 (by omega), by omega, hh, hp, Or.inr ⟨rfl, by omega⟩⟩
  simp only; refine ⟨by omega, Or.inr ?_⟩
  rcases hs with ⟨s1, s2, s3⟩ | ⟨s1, s2⟩
  ·refine ⟨by omega, ?_⟩
   rw [s2]
   exact hnew.congr fun c h' p' => by rw [hU]; exact ⟨fun k => k.resolve_left (s3 _ _ _), Or.inr⟩
  ·refine ⟨by omega, ?_⟩
   obtain ⟨x, y, z, hx, _⟩ := id s2; rw [hx] at s2 ⊢; exact ext3_join s2 hnew hU
theorem law_in (t : Tar) (xs : List Wk) (fs : List Int) (ok : Ok t xs fs) (h : Nat) (hh : h < 61) (q : PS) (hq : q.m = mL t xs fs h 0 ∧ St [] (QL t xs fs h 0) q.m q.s) : ∀ n, n ≤ 61 →
  (psIn t xs fs h q n).m = mL t xs fs h n ∧ St [] (QL t xs fs h n) (psIn t xs fs h q n).m (psIn t xs fs h q n).s
 | 0, _ => hq
 | n + 1, hn => by
  rw [psIn_succ]; exact law_step t xs fs ok h n hh (by omega) _ (law_in t xs fs ok h hh q hq n (by omega))
theorem law_out (t : Tar) (xs : List Wk) (fs : List Int) (ok : Ok t xs fs) : ∀ n, n ≤ 61 →
  (psOut t xs fs n).m = mL t xs fs n 0 ∧ St [] (QL t xs fs n 0) (psOut t xs fs n).m (psOut t xs fs n).s
 | 0, _ => by
  refine ⟨rfl, Or.inl ⟨rfl, rfl, fun c h p => ?_⟩⟩
  unfold QL
  omega
 | n + 1, hn => by
  rw [psOut_succ]; have k := law_in t xs fs ok n (by omega) _ (law_out t xs fs ok n (by omega)) 61 (by omega)
  have e : mL t xs fs (n + 1) 0 = mL t xs fs n 61 := by unfold mL; rw [S1 n, S0]; omega
  refine ⟨by rw [e]; exact k.1, k.2.congr fun c h p => ?_⟩
  unfold QL
  constructor
  ·rintro ⟨k1, k2, k3, k4, k5⟩; exact ⟨k1, k2, k3, k4, by omega⟩
  ·rintro ⟨k1, k2, k3, k4, k5⟩; exact ⟨k1, k2, k3, k4, by omega⟩
end Go.Proofs.Ytdlekcdedahbhaa.Q
namespace Go.Proofs.Ytdlekcdedahbhaa.Q
open Go.RowKit Go.Proofs.YtdlekcdedahbhaaW.PrintWords Go.Proofs.YtdlekcdedahbhaaW.PrintMore
set_option linter.unusedVariables false
set_option linter.unusedSimpArgs false
def ub (x : Int) : Prop := 0 ≤ x ∧ x ≤ 255
theorem ub_wf {x : Int} (h : (Lit.int .u8 x).wf = true) : ub x := by
 simp only [Lit.wf, Bool.and_eq_true, decide_eq_true_eq] at h; exact h
theorem tmI {x m : Int} (h : 0 ≤ x) : Int.tmod x m = x % m := Int.tmod_eq_emod_of_nonneg h
def wkT (x : Wk) : Prop := (0 ≤ x.q ∧ x.q ≤ 200) ∧ (0 ≤ x.o ∧ x.o ≤ 1785) ∧ (0 ≤ x.l ∧ x.l ≤ 60)
theorem wkT_B {x : Wk} (h : wkT x) : wkB x = true := (wkB_iff x).2 (by unfold wkT at h; omega)
theorem hworks_l0 (a0 a1 a2 a3 a4 : Int) (l : List S107) (hb : ∀ x ∈ l, ub x.f0 ∧ ub x.f1 ∧ ub x.f2) : ∀ (d i : Nat) (acc : List S25), i + d = 6 → acc.length = i → (∀ x ∈ toWk acc, wkT x) → ∃ W : List S25, Ev (fun k => lw_House_works.l0 k acc (i : Int) a0 a1 a2 a3 a4 l) W ∧ W.length ≤ 6 ∧ ∀ x ∈ toWk W, wkT x
 | 0, i, acc, hd, hl, hw => by
  refine ⟨acc, ?_, by omega, hw⟩; refine Ev.up ?_
  by_cases h : (i : Int) < (l.length : Int)
  ·simp only [lw_House_works.l0, if_pos h, if_neg (show ¬ (i : Int) < 6 by omega)]
   exact Ev.now _
  ·simp only [lw_House_works.l0, if_neg h]
   exact Ev.now _
 | d + 1, i, acc, hd, hl, hw => by
  by_cases h : (i : Int) < (l.length : Int)
  ·have hi : i < l.length := by omega
   have er : rd_T107 l (i : Int) = l[i] := by simp [rd_T107, hi]
   obtain ⟨⟨h0, h0'⟩, ⟨h1, h1'⟩, h2, h2'⟩ := hb l[i] (List.getElem_mem hi)
   obtain ⟨W, w1, w2⟩ := hworks_l0 a0 a1 a2 a3 a4 l hb d (i + 1) (acc ++ [⟨l[i].f0 % 201, 7 * l[i].f1, l[i].f2 % 61⟩]) (by omega) (by simp [hl]) (by
    intro x hx; simp only [toWk, List.map_append, List.map_cons, List.map_nil, List.mem_append, List.mem_singleton] at hx
    rcases hx with hx | hx
    ·exact hw x hx
    ·rw [hx]
     unfold wkT
     simp only
     omega)
   refine ⟨W, ?_, w2⟩; refine Ev.up ?_; simp only [lw_House_works.l0, if_pos h, if_pos (show (i : Int) < 6 by omega), if_pos (show (0 : Int) ≤ (i : Int) by omega), if_pos (show acc.length < 5864062014805 by omega), er, wr (x := l[i].f0) (by omega), wr (x := l[i].f1) (by omega), wr (x := l[i].f2) (by omega), wr (x := 7 * l[i].f1) (by omega), tmI h0, tmI h2, wi i (by omega)]; exact w1
  ·refine ⟨acc, ?_, by omega, hw⟩
   refine Ev.up ?_; simp only [lw_House_works.l0, if_neg h]; exact Ev.now _
theorem hworks_f (a0 a1 a2 a3 a4 : Int) (l : List S107) (hb : ∀ x ∈ l, ub x.f0 ∧ ub x.f1 ∧ ub x.f2) : ∃ W : List S25, Ev (fun k => lw_House_works.f k a0 a1 a2 a3 a4 l) W ∧ W.length ≤ 6 ∧ ∀ x ∈ toWk W, wkT x :=
 hworks_l0 a0 a1 a2 a3 a4 l hb 6 0 [] (by omega) rfl (fun x h => absurd h List.not_mem_nil)
theorem fee_ge (t : Tar) (ht : tarB t = true) (x : Wk) (hx : wkB x = true) : t.l ≤ feeV t x ∧ t.f * x.l ≤ feeV t x ∧ 0 ≤ t.f * x.l ∧ t.f * x.l ≤ 3600 ∧ feeV t x ≤ 20000 ∧ 0 ≤ t.l := by
 have h1 := (tarB_iff _).1 ht; have h2 := (wkB_iff _).1 hx; have h3 := hrs_bd _ hx; have h4 := pds_bd _ hx; have h5 := mul_bd h1.2.1 h3; have h6 := mul_bd h1.2.2.1 h4; have h7 := mul_bd h1.2.2.2.1 h2.2.2
 unfold feeV
 omega
theorem fee_mono (t : Tar) (ht : tarB t = true) (x y : Wk) (hq : x.q ≤ y.q) (ho : x.o ≤ y.o) (hl : x.l ≤ y.l) : feeV t x ≤ feeV t y := by
 have h1 := (tarB_iff _).1 ht; have a1 : t.h * hrs x ≤ t.h * hrs y := Int.mul_le_mul_of_nonneg_left (by unfold hrs; omega) h1.2.1.1; have a2 : t.p * pds x ≤ t.p * pds y := Int.mul_le_mul_of_nonneg_left (by unfold pds; omega) h1.2.2.1.1; have a3 : t.f * x.l ≤ t.f * y.l := Int.mul_le_mul_of_nonneg_left hl h1.2.2.2.1.1
 unfold feeV
 omega
theorem fee_f {t0 t1 t2 t3 t4 a b c : Int} (ht : tarB ⟨t0, t1, t2, t3, t4⟩ = true) (hx : wkB ⟨a, b, c⟩ = true) : fee_Fee.f t0 t1 t2 t3 t4 a b c = some (feeV ⟨t0, t1, t2, t3, t4⟩ ⟨a, b, c⟩, 0) := by
 have e : feeE ⟨t0, t1, t2, t3, t4⟩ ⟨a, b, c⟩ = 0 := by rw [feeE, if_pos ((tarE_zero _).2 ht), hx]; rfl
 rw [fee_Fee.f, feeI, e, if_pos rfl]
theorem S_le (f g : Nat → Int) : ∀ n, (∀ i, i < n → f i ≤ g i) → S n f ≤ S n g
 | 0, _ => Int.le_refl _
 | n + 1, h => by
  rw [S, S]; have := S_le f g n (fun i hi => h i (by omega)); have := h n (by omega); omega
theorem S_mul (k : Int) (f : Nat → Int) : ∀ n, S n (fun i => k * f i) = k * S n f
 | 0 => by simp [S]
 | n + 1 => by rw [S, S, S_mul k f n, Int.mul_add]
def i1 (x : Sp) (c : Nat) : Int := if x.lo ≤ (c : Int) ∧ (c : Int) ≤ x.hi then 1 else 0
theorem i1_bd (x : Sp) (c : Nat) : 0 ≤ i1 x c ∧ i1 x c ≤ 1 := by unfold i1; split <;> omega
theorem S_i1 (x : Sp) (h0 : 0 ≤ x.lo) (h1 : x.lo ≤ x.hi) (h2 : x.hi ≤ 60) : S 61 (i1 x) = x.hi - x.lo + 1 := by
 have h := S_ivl x.lo x.hi h0 61
 show S 61 (fun c => if x.lo ≤ (c : Int) ∧ (c : Int) ≤ x.hi then 1 else 0) = _
 rw [h]; omega
def QT (t : Tar) (xs : List Wk) (fs : List Int) (c h p : Nat) : Prop := gd t xs fs c h p = true ∧ c < 61 ∧ h < 61 ∧ p < 61
theorem pr_spec (t : Tar) (xs : List Wk) (fs : List Int) (ok : Ok t xs fs) (hg : ∃ c h p, QT t xs fs c h p) : (psOut t xs fs 61).m = S 61 (fun h => S 61 fun p => S 61 fun c => g1 t xs fs c h p) ∧ 0 < (psOut t xs fs 61).m ∧ Ext3 (QT t xs fs) (psOut t xs fs 61).s := by
 obtain ⟨h1, h2⟩ := law_out t xs fs ok 61 (Nat.le_refl _)
 have e : mL t xs fs 61 0 = S 61 (fun h => S 61 fun p => S 61 fun c => g1 t xs fs c h p) := by
  unfold mL
  rw [S0]; omega
 have h3 := h2.congr (R := QT t xs fs) (fun c h p => by unfold QT QL; constructor <;> (rintro ⟨k1, k2⟩; first | exact ⟨k1, k2.1, k2.2.1, k2.2.2, by omega⟩ | exact ⟨k1, k2.1, k2.2.1, k2.2.2.1⟩))
 rcases h3 with ⟨_, _, hno⟩ | ⟨hm, hs⟩
 ·obtain ⟨c, h, p, hq⟩ := hg
  exact absurd hq (hno c h p)
 ·exact ⟨by rw [h1, e], hm, hs⟩
theorem ext_bd {Q : Nat → Nat → Nat → Prop} {s : List Sp} (h : Ext3 Q s) (hq : ∀ c h p, Q c h p → c < 61 ∧ h < 61 ∧ p < 61) : ∃ x y z, s = [x, y, z] ∧ (0 ≤ x.lo ∧ x.lo ≤ x.hi ∧ x.hi ≤ 60) ∧ (0 ≤ y.lo ∧ y.lo ≤ y.hi ∧ y.hi ≤ 60) ∧ (0 ≤ z.lo ∧ z.lo ≤ z.hi ∧ z.hi ≤ 60) ∧ ∀ c h p, Q c h p → (x.lo ≤ c ∧ (c : Int) ≤ x.hi) ∧ (y.lo ≤ h ∧ (h : Int) ≤ y.hi) ∧ (z.lo ≤ p ∧ (p : Int) ≤ z.hi) := by
 obtain ⟨x, y, z, e, ⟨⟨⟨c1, h1, p1, q1, e1⟩, c2, h2, p2, q2, e2⟩, hx⟩, ⟨⟨⟨c3, h3, p3, q3, e3⟩, c4, h4, p4, q4, e4⟩, hy⟩, ⟨⟨c5, h5, p5, q5, e5⟩, c6, h6, p6, q6, e6⟩, hz⟩ := h; have b1 := hq _ _ _ q1; have b2 := hq _ _ _ q2; have b3 := hq _ _ _ q3; have b4 := hq _ _ _ q4; have b5 := hq _ _ _ q5; have b6 := hq _ _ _ q6; have x1 := hx _ ⟨c1, h1, p1, q1, rfl⟩; have y1 := hy _ ⟨c3, h3, p3, q3, rfl⟩; have z1 := hz _ ⟨c5, h5, p5, q5, rfl⟩; exact ⟨x, y, z, e, by omega, by omega, by omega, fun c h p q => ⟨hx _ ⟨c, h, p, q, rfl⟩, hy _ ⟨c, h, p, q, rfl⟩, hz _ ⟨c, h, p, q, rfl⟩⟩⟩
theorem vol (t : Tar) (xs : List Wk) (fs : List Int) (x y z : Sp) (hx : 0 ≤ x.lo ∧ x.lo ≤ x.hi ∧ x.hi ≤ 60) (hy : 0 ≤ y.lo ∧ y.lo ≤ y.hi ∧ y.hi ≤ 60) (hz : 0 ≤ z.lo ∧ z.lo ≤ z.hi ∧ z.hi ≤ 60)
  (h : ∀ c h p, QT t xs fs c h p → (x.lo ≤ c ∧ (c : Int) ≤ x.hi) ∧ (y.lo ≤ h ∧ (h : Int) ≤ y.hi) ∧ (z.lo ≤ p ∧ (p : Int) ≤ z.hi)) : S 61 (fun h => S 61 fun p => S 61 fun c => g1 t xs fs c h p) ≤ (x.hi - x.lo + 1) * (y.hi - y.lo + 1) * (z.hi - z.lo + 1) := by
 have e1 : ∀ c h' p, c < 61 → h' < 61 → p < 61 → g1 t xs fs c h' p ≤ i1 y h' * (i1 z p * i1 x c) := by
  intro c h' p hc hh hp
  unfold g1
  by_cases hg : gd t xs fs c h' p = true
  ·obtain ⟨a1, a2, a3⟩ := h c h' p ⟨hg, hc, hh, hp⟩
   rw [if_pos hg, i1, if_pos a2, i1, if_pos a3, i1, if_pos a1]
   decide
  ·rw [if_neg hg]
   have b1 := i1_bd x c; have b2 := i1_bd y h'; have b3 := i1_bd z p; exact Int.mul_nonneg b2.1 (Int.mul_nonneg b3.1 b1.1)
 have e2 : S 61 (fun h => S 61 fun p => S 61 fun c => g1 t xs fs c h p) ≤ S 61 (fun h => S 61 fun p => S 61 fun c => i1 y h * (i1 z p * i1 x c)) :=
  S_le _ _ 61 fun h' hh => S_le _ _ 61 fun p hp => S_le _ _ 61 fun c hc => e1 c h' p hc hh hp
 have e3 : S 61 (fun h => S 61 fun p => S 61 fun c => i1 y h * (i1 z p * i1 x c)) = S 61 (i1 y) * (S 61 (i1 z) * S 61 (i1 x)) := by
  have f1 : ∀ h p, S 61 (fun c => i1 y h * (i1 z p * i1 x c)) = (i1 y h * S 61 (i1 x)) * i1 z p := by
   intro h p; rw [S_mul, S_mul]; rw [Int.mul_assoc, Int.mul_comm (S 61 (i1 x))]
  have f2 : ∀ h, S 61 (fun p => S 61 fun c => i1 y h * (i1 z p * i1 x c)) = (S 61 (i1 x) * S 61 (i1 z)) * i1 y h := by
   intro h; rw [S_congr _ (fun p => (i1 y h * S 61 (i1 x)) * i1 z p) 61 (fun p _ => f1 h p), S_mul]; rw [Int.mul_assoc, Int.mul_comm]
  rw [S_congr _ (fun h => (S 61 (i1 x) * S 61 (i1 z)) * i1 y h) 61 (fun h _ => f2 h), S_mul]; rw [Int.mul_comm (S 61 (i1 x)), Int.mul_comm]
 rw [e3, S_i1 x hx.1 hx.2.1 hx.2.2, S_i1 y hy.1 hy.2.1 hy.2.2, S_i1 z hz.1 hz.2.1 hz.2.2] at e2
 have e4 : (y.hi - y.lo + 1) * ((z.hi - z.lo + 1) * (x.hi - x.lo + 1)) = (x.hi - x.lo + 1) * (y.hi - y.lo + 1) * (z.hi - z.lo + 1) := by
  rw [Int.mul_comm (z.hi - z.lo + 1), ← Int.mul_assoc, Int.mul_comm (y.hi - y.lo + 1) (x.hi - x.lo + 1)]
 omega
theorem ok_true (t : Tar) (ht : tarB t = true) : ∀ xs : List Wk, okL t t.h t.p t.c xs (xs.map (feeV t)) = true
 | [] => rfl
 | x :: xs => by
  rw [List.map_cons, okL, ok_true t ht xs, Bool.and_true]
  unfold okx feeV
  exact beq_self_eq_true _
theorem ok_tail (t : Tar) (h p c : Int) (x : Wk) (xs : List Wk) (f : Int) (fs : List Int) (hk : okL t h p c (x :: xs) (f :: fs) = true) : okL t h p c xs fs = true := by
 rw [okL, Bool.and_eq_true] at hk; exact hk.2
theorem tr_rd (W : List S25) (i : Nat) (h : i < W.length) : rd_T25 W (i : Int) = W[i] := by simp [rd_T25, h]
section
variable (t0 t1 t2 t3 t4 : Int) (W : List S25) (ht : tarB ⟨t0, t1, t2, t3, t4⟩ = true) (hW : ∀ x ∈ toWk W, wkT x)
theorem tr_j3 (ht : tarB ⟨t0, t1, t2, t3, t4⟩ = true) (F : List Int) (i k : Nat) (hk : k < 3) (n : Int) (hn : 0 ≤ n ∧ n ≤ 20000) (a b c : Int) (ha : 0 ≤ a ∧ a ≤ 201) (hb : 0 ≤ b ∧ b ≤ 1786) (hc : 0 ≤ c ∧ c ≤ 61)
  (hge : wkB ⟨a, b, c⟩ = true → n ≤ feeV ⟨t0, t1, t2, t3, t4⟩ ⟨a, b, c⟩ ∧ (k = 2 → feeV ⟨t0, t1, t2, t3, t4⟩ ⟨a, b, c⟩ = n + t4))
  (next : Ev (fun q => lw_FeeTrue.l1 q W F (i : Int) n ((k + 1 : Nat) : Int) t0 t1 t2 t3 t4) true) : Ev (fun q => lw_FeeTrue.j3 q W F (i : Int) n (k : Int) t0 t1 t2 t3 t4 a b c) true := by
 have h1 := (tarB_iff _).1 ht
 have skip : Ev (fun q => lw_FeeTrue.j4 q W F (i : Int) n (k : Int) true t0 t1 t2 t3 t4 a b c) true := by
  refine Ev.up ?_; simp only [lw_FeeTrue.j4, if_true, wi k (by omega)]; exact next
 refine Ev.up ?_; simp only [lw_FeeTrue.j3]
 by_cases ca : a > 200
 ·simp only [if_pos ca]
  exact skip
 ·simp only [if_neg ca]
  by_cases cc : c > 60
  ·simp only [decide_eq_true cc]
   exact skip
  ·have hw : wkB ⟨a, b, c⟩ = true := (wkB_iff _).2 (by simp only; omega)
   obtain ⟨g1, g2⟩ := hge hw; simp only [decide_eq_false cc]; refine Ev.up ?_; simp only [lw_FeeTrue.j4, Bool.false_eq_true, if_false, fee_f ht hw, Option.bind_some, if_true, if_neg (show ¬ feeV ⟨t0, t1, t2, t3, t4⟩ ⟨a, b, c⟩ < n by omega)]
   by_cases ck : (k : Int) = 2
   ·simp only at h1
    simp only [if_pos ck, wr (x := n + t4) (by omega), if_pos (g2 (by omega)), wi k (by omega)]; exact next
   ·simp only [if_neg ck, wi k (by omega)]
    exact next
theorem tr_l0 (ht : tarB ⟨t0, t1, t2, t3, t4⟩ = true) (hn : W.length ≤ 6) (hW : ∀ x ∈ toWk W, wkT x)
  (h : Ev (fun q => lw_FeeTrue.l0 q W ((toWk W).map (feeV ⟨t0, t1, t2, t3, t4⟩)) (W.length : Int) t0 t1 t2 t3 t4) true) : ∀ (d i : Nat), i + d = W.length → Ev (fun q => lw_FeeTrue.l0 q W (((toWk W).take i).map (feeV ⟨t0, t1, t2, t3, t4⟩)) (i : Int) t0 t1 t2 t3 t4) true
 | 0, i, hd => by
  obtain rfl : i = W.length := by omega
  rw [List.take_of_length_le (by rw [toWk_len]; exact Nat.le_refl _)]; exact h
 | d + 1, i, hd => by
  have hi : i < W.length := by omega
  have ih := tr_l0 ht hn hW h d (i + 1) (by omega)
  have hlen : i < (toWk W).length := by rw [toWk_len]; exact hi
  rw [List.take_succ_eq_append_getElem hlen, List.map_append, List.map_cons, List.map_nil] at ih; have hx := hW _ (List.getElem_mem hlen)
  have ex : (toWk W)[i] = ⟨W[i].f0, W[i].f1, W[i].f2⟩ := by simp [toWk]
  rw [ex] at ih hx; have hwB := wkT_B hx; have hg := fee_ge _ ht _ hwB
  unfold wkT at hx
  simp only at hx hg; have h1 := (tarB_iff _).1 ht
  have key : ∀ k : Nat, k ≤ 3 → Ev (fun q => lw_FeeTrue.l1 q W (((toWk W).take i).map (feeV ⟨t0, t1, t2, t3, t4⟩) ++ [feeV ⟨t0, t1, t2, t3, t4⟩ ⟨W[i].f0, W[i].f1, W[i].f2⟩]) (i : Int) (feeV ⟨t0, t1, t2, t3, t4⟩ ⟨W[i].f0, W[i].f1, W[i].f2⟩) (k : Int) t0 t1 t2 t3 t4) true := by
   have k3 : Ev (fun q => lw_FeeTrue.l1 q W (((toWk W).take i).map (feeV ⟨t0, t1, t2, t3, t4⟩) ++ [feeV ⟨t0, t1, t2, t3, t4⟩ ⟨W[i].f0, W[i].f1, W[i].f2⟩]) (i : Int) (feeV ⟨t0, t1, t2, t3, t4⟩ ⟨W[i].f0, W[i].f1, W[i].f2⟩) ((3 : Nat) : Int) t0 t1 t2 t3 t4) true := by
    refine Ev.up ?_; simp only [lw_FeeTrue.l1, if_neg (show ¬ ((3 : Nat) : Int) < 3 by omega), wi i (by omega)]; exact ih
   have go : ∀ k : Nat, k < 3 → ∀ a b c : Int, (0 ≤ a ∧ a ≤ 201) → (0 ≤ b ∧ b ≤ 1786) → (0 ≤ c ∧ c ≤ 61) → (W[i].f0 ≤ a ∧ W[i].f1 ≤ b ∧ W[i].f2 ≤ c) → (k = 2 → a = W[i].f0 ∧ b = W[i].f1 ∧ c = W[i].f2 + 1) →
     Ev (fun q => lw_FeeTrue.l1 q W (((toWk W).take i).map (feeV ⟨t0, t1, t2, t3, t4⟩) ++ [feeV ⟨t0, t1, t2, t3, t4⟩ ⟨W[i].f0, W[i].f1, W[i].f2⟩]) (i : Int) (feeV ⟨t0, t1, t2, t3, t4⟩ ⟨W[i].f0, W[i].f1, W[i].f2⟩) ((k + 1 : Nat) : Int) t0 t1 t2 t3 t4) true →
     Ev (fun q => lw_FeeTrue.j3 q W (((toWk W).take i).map (feeV ⟨t0, t1, t2, t3, t4⟩) ++ [feeV ⟨t0, t1, t2, t3, t4⟩ ⟨W[i].f0, W[i].f1, W[i].f2⟩]) (i : Int) (feeV ⟨t0, t1, t2, t3, t4⟩ ⟨W[i].f0, W[i].f1, W[i].f2⟩) (k : Int) t0 t1 t2 t3 t4 a b c) true := by
    intro k hk a b c ha hb hc hle h2 hnext; refine tr_j3 t0 t1 t2 t3 t4 W ht _ i k hk _ ⟨by omega, by omega⟩ a b c ha hb hc (fun hw => ⟨fee_mono _ ht _ _ hle.1 hle.2.1 hle.2.2, fun e => ?_⟩) hnext; obtain ⟨e1, e2, e3⟩ := h2 e; rw [e1, e2, e3]
    unfold feeV hrs pds
    simp only; rw [Int.mul_add]; omega
   have k2 : Ev (fun q => lw_FeeTrue.l1 q W (((toWk W).take i).map (feeV ⟨t0, t1, t2, t3, t4⟩) ++ [feeV ⟨t0, t1, t2, t3, t4⟩ ⟨W[i].f0, W[i].f1, W[i].f2⟩]) (i : Int) (feeV ⟨t0, t1, t2, t3, t4⟩ ⟨W[i].f0, W[i].f1, W[i].f2⟩) ((2 : Nat) : Int) t0 t1 t2 t3 t4) true := by
    refine Ev.up ?_; simp only [lw_FeeTrue.l1, if_pos (show ((2 : Nat) : Int) < 3 by omega), if_pos (show (0 : Int) ≤ (i : Int) by omega), if_pos (show (i : Int) < (W.length : Int) by omega), if_neg (show ¬ ((2 : Nat) : Int) = 0 by omega), if_neg (show ¬ ((2 : Nat) : Int) = 1 by omega), if_pos (show ((2 : Nat) : Int) = 2 by omega), tr_rd W i hi, wr (x := W[i].f2 + 1) (by omega)]; exact go 2 (by omega) _ _ _ (by omega) (by omega) (by omega) (by omega) (fun _ => ⟨rfl, rfl, rfl⟩) k3
   have k1 : Ev (fun q => lw_FeeTrue.l1 q W (((toWk W).take i).map (feeV ⟨t0, t1, t2, t3, t4⟩) ++ [feeV ⟨t0, t1, t2, t3, t4⟩ ⟨W[i].f0, W[i].f1, W[i].f2⟩]) (i : Int) (feeV ⟨t0, t1, t2, t3, t4⟩ ⟨W[i].f0, W[i].f1, W[i].f2⟩) ((1 : Nat) : Int) t0 t1 t2 t3 t4) true := by
    refine Ev.up ?_; simp only [lw_FeeTrue.l1, if_pos (show ((1 : Nat) : Int) < 3 by omega), if_pos (show (0 : Int) ≤ (i : Int) by omega), if_pos (show (i : Int) < (W.length : Int) by omega), if_neg (show ¬ ((1 : Nat) : Int) = 0 by omega), if_pos (show ((1 : Nat) : Int) = 1 by omega), tr_rd W i hi, wr (x := W[i].f1 + 1) (by omega)]; exact go 1 (by omega) _ _ _ (by omega) (by omega) (by omega) (by omega) (fun e => by omega) k2
   have k0 : Ev (fun q => lw_FeeTrue.l1 q W (((toWk W).take i).map (feeV ⟨t0, t1, t2, t3, t4⟩) ++ [feeV ⟨t0, t1, t2, t3, t4⟩ ⟨W[i].f0, W[i].f1, W[i].f2⟩]) (i : Int) (feeV ⟨t0, t1, t2, t3, t4⟩ ⟨W[i].f0, W[i].f1, W[i].f2⟩) ((0 : Nat) : Int) t0 t1 t2 t3 t4) true := by
    refine Ev.up ?_; simp only [lw_FeeTrue.l1, if_pos (show ((0 : Nat) : Int) < 3 by omega), if_pos (show (0 : Int) ≤ (i : Int) by omega), if_pos (show (i : Int) < (W.length : Int) by omega), if_pos (show ((0 : Nat) : Int) = 0 by omega), tr_rd W i hi, wr (x := W[i].f0 + 1) (by omega)]; exact go 0 (by omega) _ _ _ (by omega) (by omega) (by omega) (by omega) (fun e => by omega) k1
   intro k hk
   obtain rfl | rfl | rfl | rfl : k = 0 ∨ k = 1 ∨ k = 2 ∨ k = 3 := by omega
   ·exact k0
   ·exact k1
   ·exact k2
   ·exact k3
  have hfl : (((toWk W).take i).map (feeV ⟨t0, t1, t2, t3, t4⟩)).length < 17592186044416 := by simp; omega
  refine Ev.up ?_; simp only [lw_FeeTrue.l0, if_pos (show (i : Int) < (W.length : Int) by omega), if_pos (show (0 : Int) ≤ (i : Int) by omega), tr_rd W i hi, fee_f ht hwB, Option.bind_some, if_true, if_neg (show ¬ feeV ⟨t0, t1, t2, t3, t4⟩ ⟨W[i].f0, W[i].f1, W[i].f2⟩ < t3 by omega), wr (x := t4 * W[i].f2) (by omega), decide_eq_false (show ¬ feeV ⟨t0, t1, t2, t3, t4⟩ ⟨W[i].f0, W[i].f1, W[i].f2⟩ < t4 * W[i].f2 by omega)]; refine Ev.up ?_; simp only [lw_FeeTrue.j1, Bool.false_eq_true, if_false, if_pos hfl]; exact key 0 (by omega)
end
theorem tr_l3 (x y z x' y' z' : Sp) (hx : x'.lo ≤ x.lo ∧ x.hi ≤ x'.hi) (hy : y'.lo ≤ y.lo ∧ y.hi ≤ y'.hi) (hz : z'.lo ≤ z.lo ∧ z.hi ≤ z'.hi) : Ev (fun q => lw_FeeTrue.l3 q (ofSp [x, y, z]) (ofSp [x', y', z']) 0) true := by
 have e : ∀ (a b c : Sp), (rd_T44 (ofSp [a, b, c]) ((0 : Nat) : Int) = ⟨a.lo, a.hi⟩) ∧ (rd_T44 (ofSp [a, b, c]) ((1 : Nat) : Int) = ⟨b.lo, b.hi⟩) ∧ (rd_T44 (ofSp [a, b, c]) ((2 : Nat) : Int) = ⟨c.lo, c.hi⟩) := fun a b c => ⟨rfl, rfl, rfl⟩
 obtain ⟨a1, a2, a3⟩ := e x y z; obtain ⟨b1, b2, b3⟩ := e x' y' z'
 have l3 : ∀ (a b c : Sp), (ofSp [a, b, c]).length = 3 := fun _ _ _ => rfl
 have s3 : Ev (fun q => lw_FeeTrue.l3 q (ofSp [x, y, z]) (ofSp [x', y', z']) ((3 : Nat) : Int)) true := by
  refine Ev.up ?_; simp only [lw_FeeTrue.l3, if_neg (show ¬ ((3 : Nat) : Int) < 3 by omega), known_f, Option.bind_some]; exact Ev.now _
 have s2 : Ev (fun q => lw_FeeTrue.l3 q (ofSp [x, y, z]) (ofSp [x', y', z']) ((2 : Nat) : Int)) true := by
  refine Ev.up ?_; simp only [lw_FeeTrue.l3, l3, a3, b3, if_pos (show ((2 : Nat) : Int) < 3 by omega), if_pos (show (0 : Int) ≤ ((2 : Nat) : Int) by omega), if_pos (show ((2 : Nat) : Int) < ((3 : Nat) : Int) by omega), if_neg (show ¬ z'.lo > z.lo by omega), if_neg (show ¬ z'.hi < z.hi by omega), wi 2 (by omega)]; exact s3
 have s1 : Ev (fun q => lw_FeeTrue.l3 q (ofSp [x, y, z]) (ofSp [x', y', z']) ((1 : Nat) : Int)) true := by
  refine Ev.up ?_; simp only [lw_FeeTrue.l3, l3, a2, b2, if_pos (show ((1 : Nat) : Int) < 3 by omega), if_pos (show (0 : Int) ≤ ((1 : Nat) : Int) by omega), if_pos (show ((1 : Nat) : Int) < ((3 : Nat) : Int) by omega), if_neg (show ¬ y'.lo > y.lo by omega), if_neg (show ¬ y'.hi < y.hi by omega), wi 1 (by omega)]; exact s2
 have s0 : Ev (fun q => lw_FeeTrue.l3 q (ofSp [x, y, z]) (ofSp [x', y', z']) ((0 : Nat) : Int)) true := by
  refine Ev.up ?_; simp only [lw_FeeTrue.l3, l3, a1, b1, if_pos (show ((0 : Nat) : Int) < 3 by omega), if_pos (show (0 : Int) ≤ ((0 : Nat) : Int) by omega), if_pos (show ((0 : Nat) : Int) < ((3 : Nat) : Int) by omega), if_neg (show ¬ x'.lo > x.lo by omega), if_neg (show ¬ x'.hi < x.hi by omega), wi 0 (by omega)]; exact s1
 exact s0
theorem works_f (l : List S25) (h : l.length ≤ 1000) : lw_works.f l = some l := by
 unfold lw_works.f
 simp only [Option.bind_some, List.length_nil, List.nil_append]; rw [if_pos (by omega)]
theorem ints_f (l : List Int) (h : l.length ≤ 1000) : lw_ints.f l = some l := by
 unfold lw_ints.f
 simp only [Option.bind_some, List.length_nil, List.nil_append]; rw [if_pos (by omega)]
theorem pr_true (t : Tar) (ht : tarB t = true) (X : List Wk) (hn : X.length ≤ 6) (hX : ∀ x ∈ X, wkT x) : Ok t X (X.map (feeV t)) ∧ pricesE0 t X (X.map (feeV t)) = 0 ∧ QT t X (X.map (feeV t)) t.c.toNat t.h.toNat t.p.toNat ∧ (((t.c.toNat : Nat) : Int) = t.c ∧ ((t.h.toNat : Nat) : Int) = t.h ∧ ((t.p.toNat : Nat) : Int) = t.p) := by
 have h1 := (tarB_iff _).1 ht
 have hB : ∀ x ∈ X, wkB x = true := fun x hx => wkT_B (hX x hx)
 have e : (((t.c.toNat : Nat) : Int) = t.c ∧ ((t.h.toNat : Nat) : Int) = t.h ∧ ((t.p.toNat : Nat) : Int) = t.p) := by omega
 refine ⟨⟨ht, hB, fun f hf => ?_⟩, ?_, ⟨?_, by omega, by omega, by omega⟩, e⟩
 ·obtain ⟨x, hx, rfl⟩ := List.mem_map.1 hf
  have := fee_ge t ht x (hB x hx); omega
 ·have ha : X.any (fun x => !wkB x) = false := by
   rw [List.any_eq_false]; intro x hx
   simp [hB x hx]
  rw [pricesE0, if_pos ((tarE_zero t).2 ht), if_neg (by omega), ha]
  simp
 ·unfold gd
  rw [e.1, e.2.1, e.2.2]; exact ok_true t ht X
theorem FeeTrue_ev (a0 a1 a2 a3 a4 : Int) (l : List S107) (h0 : ub a0) (h1 : ub a1) (h2 : ub a2) (h3 : ub a3) (h4 : ub a4) (hb : ∀ x ∈ l, ub x.f0 ∧ ub x.f1 ∧ ub x.f2) : Ev (fun k => lw_FeeTrue.f k a0 a1 a2 a3 a4 l) true := by
 obtain ⟨W, hr, hn, hW⟩ := hworks_f a0 a1 a2 a3 a4 l hb
 unfold ub at h0 h1 h2 h3 h4
 have ht : tarB ⟨a0 % 61, a1 % 61, a2 % 61, a3, a4 % 61⟩ = true := (tarB_iff _).2 (by simp only; omega)
 unfold lw_FeeTrue.f
 simp only [lw_House_tariff.f, wr (x := a0) (by omega), wr (x := a1) (by omega), wr (x := a2) (by omega), wr (x := a3) (by omega), wr (x := a4) (by omega), tmI h0.1, tmI h1.1, tmI h2.1, tmI h4.1, Option.bind_some]
 have b0 : 0 ≤ a0 % 61 ∧ a0 % 61 ≤ 60 := by omega
 have b1 : 0 ≤ a1 % 61 ∧ a1 % 61 ≤ 60 := by omega
 have b2 : 0 ≤ a2 % 61 ∧ a2 % 61 ≤ 60 := by omega
 have b4 : 0 ≤ a4 % 61 ∧ a4 % 61 ≤ 60 := by omega
 generalize a0 % 61 = t0 at *
 generalize a1 % 61 = t1 at *
 generalize a2 % 61 = t2 at *
 generalize a4 % 61 = t4 at *
 refine Ev.bind hr ?_
 have hXn : (toWk W).length ≤ 6 := by rw [toWk_len]; exact hn
 obtain ⟨ok, e0, hq, hc1, hc2, hc3⟩ := pr_true ⟨t0, t1, t2, a3, t4⟩ ht (toWk W) hXn hW; obtain ⟨m1, m2, m3⟩ := pr_spec _ _ _ ok ⟨_, _, _, hq⟩; obtain ⟨x, y, z, e3, hx, hy, hz, hin⟩ := ext_bd m3 (fun c h p q => q.2); have hv := vol _ _ _ x y z hx hy hz hin; rw [← m1] at hv; have hin0 := hin _ _ _ hq; simp only at hc1 hc2 hc3; rw [hc1, hc2, hc3] at hin0
 have e1 : pricesE ⟨t0, t1, t2, a3, t4⟩ (toWk W) ((toWk W).map (feeV ⟨t0, t1, t2, a3, t4⟩)) = 0 := by rw [pricesE, if_pos e0, if_neg (by omega)]
 have e2 : pricesM ⟨t0, t1, t2, a3, t4⟩ (toWk W) ((toWk W).map (feeV ⟨t0, t1, t2, a3, t4⟩)) = (psOut ⟨t0, t1, t2, a3, t4⟩ (toWk W) ((toWk W).map (feeV ⟨t0, t1, t2, a3, t4⟩)) 61).m := by rw [pricesM, if_pos e0]
 have e4 : pricesS ⟨t0, t1, t2, a3, t4⟩ (toWk W) ((toWk W).map (feeV ⟨t0, t1, t2, a3, t4⟩)) = [x, y, z] := by rw [pricesS, if_pos e1, e3]
 refine tr_l0 t0 t1 t2 a3 t4 W ht hn hW ?_ W.length 0 (by omega)
 have hfl : ((toWk W).map (feeV ⟨t0, t1, t2, a3, t4⟩)).length = W.length := by rw [List.length_map, toWk_len]
 refine Ev.up ?_; simp only [lw_FeeTrue.l0, if_neg (show ¬ (W.length : Int) < (W.length : Int) by omega), works_f W (by omega), ints_f _ (show ((toWk W).map (feeV ⟨t0, t1, t2, a3, t4⟩)).length ≤ 1000 by omega), Option.bind_some, fee_Prices.f, e1, e2, e4, if_true]
 generalize hM : (psOut ⟨t0, t1, t2, a3, t4⟩ (toWk W) ((toWk W).map (feeV ⟨t0, t1, t2, a3, t4⟩)) 61).m = M at *
 have l3 : ∀ (a b c : Sp), (ofSp [a, b, c]).length = 3 := fun _ _ _ => rfl
 simp only [if_neg (show ¬ M < 1 by omega), l3]; refine Ev.up ?_; simp only [lw_FeeTrue.j5, show (((3 : Nat) : Int) != 3) = false from rfl, Bool.false_eq_true, if_false]; have a1' : rd_T44 (ofSp [x, y, z]) 0 = ⟨x.lo, x.hi⟩ := rfl; have a2' : rd_T44 (ofSp [x, y, z]) 1 = ⟨y.lo, y.hi⟩ := rfl; have a3' : rd_T44 (ofSp [x, y, z]) 2 = ⟨z.lo, z.hi⟩ := rfl; have v1 : 0 ≤ (x.hi - x.lo + 1) * (y.hi - y.lo + 1) ∧ (x.hi - x.lo + 1) * (y.hi - y.lo + 1) ≤ 61 * 61 := mul_bd ⟨by omega, by omega⟩ ⟨by omega, by omega⟩; have v2 : 0 ≤ (x.hi - x.lo + 1) * (y.hi - y.lo + 1) * (z.hi - z.lo + 1) ∧ (x.hi - x.lo + 1) * (y.hi - y.lo + 1) * (z.hi - z.lo + 1) ≤ (61 * 61) * 61 := mul_bd v1 ⟨by omega, by omega⟩
 -- the rest, once the three spans are looked at
 refine Ev.up ?_; simp only [lw_FeeTrue.l2, l3, a1', if_pos (show (0 : Int) < 3 by omega), if_true, if_pos (show (0 : Int) ≤ 0 by omega), if_pos (show (0 : Int) < ((3 : Nat) : Int) by omega), if_neg (show ¬ t0 < x.lo by omega), if_neg (show ¬ t0 > x.hi by omega), if_neg (show ¬ x.lo < 0 by omega), if_neg (show ¬ x.hi > 60 by omega), wr (x := x.hi - x.lo) (by omega), wr (x := x.hi - x.lo + 1) (by omega), Int.one_mul, wr (x := (0 : Int) + 1) (by omega)]; refine Ev.up ?_; simp only [lw_FeeTrue.l2, l3, a2', show (0 : Int) + 1 = 1 from rfl, if_pos (show (1 : Int) < 3 by omega), if_neg (show ¬ (1 : Int) = 0 by omega), if_true, if_pos (show (0 : Int) ≤ 1 by omega), if_pos (show (1 : Int) < ((3 : Nat) : Int) by omega), if_neg (show ¬ t1 < y.lo by omega), if_neg (show ¬ t1 > y.hi by omega), if_neg (show ¬ y.lo < 0 by omega), if_neg (show ¬ y.hi > 60 by omega), wr (x := y.hi - y.lo) (by omega), wr (x := y.hi - y.lo + 1) (by omega), wr (x := (x.hi - x.lo + 1) * (y.hi - y.lo + 1)) (by omega), wr (x := (1 : Int) + 1) (by omega)]; refine Ev.up ?_; simp only [lw_FeeTrue.l2, l3, a3', show (1 : Int) + 1 = 2 from rfl, if_pos (show (2 : Int) < 3 by omega), if_neg (show ¬ (2 : Int) = 0 by omega), if_neg (show ¬ (2 : Int) = 1 by omega), if_true, if_pos (show (0 : Int) ≤ 2 by omega), if_pos (show (2 : Int) < ((3 : Nat) : Int) by omega), if_neg (show ¬ t2 < z.lo by omega), if_neg (show ¬ t2 > z.hi by omega), if_neg (show ¬ z.lo < 0 by omega), if_neg (show ¬ z.hi > 60 by omega), wr (x := z.hi - z.lo) (by omega), wr (x := z.hi - z.lo + 1) (by omega), wr (x := (x.hi - x.lo + 1) * (y.hi - y.lo + 1) * (z.hi - z.lo + 1)) (by omega), wr (x := (2 : Int) + 1) (by omega)]; refine Ev.up ?_; simp only [lw_FeeTrue.l2, show (2 : Int) + 1 = 3 from rfl, if_neg (show ¬ (3 : Int) < 3 by omega), if_neg (show ¬ M > (x.hi - x.lo + 1) * (y.hi - y.lo + 1) * (z.hi - z.lo + 1) by omega)]
 by_cases hpos : (W.length : Int) > 0
 ·clear hr h0 h1 h2 h3 h4 hb e0 e1 e2 e4 a1' a2' a3' v1 v2 hv hin0 hc1 hc2 hc3
  cases W with
  | nil => simp at hpos
  | cons w W' =>
   have hX' : ∀ x ∈ toWk W', wkT x := fun x hx => hW x (List.mem_cons_of_mem _ hx)
   have hn' : (toWk W').length ≤ 6 := by rw [toWk_len]; simp at hn; omega
   obtain ⟨ok', e0', hq', _⟩ := pr_true ⟨t0, t1, t2, a3, t4⟩ ht (toWk W') hn' hX'; obtain ⟨m1', m2', m3'⟩ := pr_spec _ _ _ ok' ⟨_, _, _, hq'⟩; obtain ⟨x', y', z', e3', hx', hy', hz', hin'⟩ := ext_bd m3' (fun c h p q => q.2)
   have up : ∀ c h p, gd ⟨t0, t1, t2, a3, t4⟩ (toWk (w :: W')) ((toWk (w :: W')).map (feeV ⟨t0, t1, t2, a3, t4⟩)) c h p = true → gd ⟨t0, t1, t2, a3, t4⟩ (toWk W') ((toWk W').map (feeV ⟨t0, t1, t2, a3, t4⟩)) c h p = true := fun c h p hk => ok_tail _ _ _ _ _ _ _ _ hk
   have hle : M ≤ (psOut ⟨t0, t1, t2, a3, t4⟩ (toWk W') ((toWk W').map (feeV ⟨t0, t1, t2, a3, t4⟩)) 61).m := by
    rw [m1, m1']
    refine S_le _ _ 61 fun h hh => S_le _ _ 61 fun p hp => S_le _ _ 61 fun c hc => ?_
    unfold g1
    by_cases hk : gd ⟨t0, t1, t2, a3, t4⟩ (toWk (w :: W')) ((toWk (w :: W')).map (feeV ⟨t0, t1, t2, a3, t4⟩)) c h p = true
    ·rw [if_pos hk, if_pos (up _ _ _ hk)]
     exact Int.le_refl _
    ·rw [if_neg hk]
     split <;> omega
   obtain ⟨X, Y, Z, eX, ⟨⟨⟨c1, h1, p1, q1, f1⟩, c2, h2, p2, q2, f2⟩, _⟩, ⟨⟨⟨c3, h3, p3, q3, f3⟩, c4, h4, p4, q4, f4⟩, _⟩, ⟨⟨c5, h5, p5, q5, f5⟩, c6, h6, p6, q6, f6⟩, _⟩ := m3; rw [e3] at eX; simp only [List.cons.injEq, and_true] at eX; obtain ⟨rfl, rfl, rfl⟩ := eX; have w1 := hin' _ _ _ (⟨up _ _ _ q1.1, q1.2⟩ : QT _ _ _ c1 h1 p1); have w2 := hin' _ _ _ (⟨up _ _ _ q2.1, q2.2⟩ : QT _ _ _ c2 h2 p2); have w3 := hin' _ _ _ (⟨up _ _ _ q3.1, q3.2⟩ : QT _ _ _ c3 h3 p3); have w4 := hin' _ _ _ (⟨up _ _ _ q4.1, q4.2⟩ : QT _ _ _ c4 h4 p4); have w5 := hin' _ _ _ (⟨up _ _ _ q5.1, q5.2⟩ : QT _ _ _ c5 h5 p5); have w6 := hin' _ _ _ (⟨up _ _ _ q6.1, q6.2⟩ : QT _ _ _ c6 h6 p6)
   have g1' : pricesE ⟨t0, t1, t2, a3, t4⟩ (toWk W') ((toWk W').map (feeV ⟨t0, t1, t2, a3, t4⟩)) = 0 := by rw [pricesE, if_pos e0', if_neg (by omega)]
   have g2' : pricesM ⟨t0, t1, t2, a3, t4⟩ (toWk W') ((toWk W').map (feeV ⟨t0, t1, t2, a3, t4⟩)) = (psOut ⟨t0, t1, t2, a3, t4⟩ (toWk W') ((toWk W').map (feeV ⟨t0, t1, t2, a3, t4⟩)) 61).m := by rw [pricesM, if_pos e0']
   have g4' : pricesS ⟨t0, t1, t2, a3, t4⟩ (toWk W') ((toWk W').map (feeV ⟨t0, t1, t2, a3, t4⟩)) = [x', y', z'] := by rw [pricesS, if_pos g1', e3']
   have d1 : (w :: W').drop 1 = W' := rfl; have d2 : ((toWk (w :: W')).map (feeV ⟨t0, t1, t2, a3, t4⟩)).drop 1 = (toWk W').map (feeV ⟨t0, t1, t2, a3, t4⟩) := rfl
   have hn2 : W'.length ≤ 1000 := by rw [toWk_len] at hn'; omega
   simp only [if_pos hpos, if_pos (show 1 ≤ (((w :: W').length : Nat) : Int) by omega), hfl, d1, d2, works_f W' hn2, ints_f _ (show ((toWk W').map (feeV ⟨t0, t1, t2, a3, t4⟩)).length ≤ 1000 by rw [List.length_map, toWk_len]; exact hn2), Option.bind_some, fee_Prices.f, g1', g2', g4', if_true, l3]; simp only [if_neg (show ¬ (psOut ⟨t0, t1, t2, a3, t4⟩ (toWk W') ((toWk W').map (feeV ⟨t0, t1, t2, a3, t4⟩)) 61).m < M by omega)]; refine Ev.up ?_; simp only [lw_FeeTrue.j7, show (((3 : Nat) : Int) != 3) = false from rfl, Bool.false_eq_true, if_false]; exact tr_l3 x y z x' y' z' (by omega) (by omega) (by omega)
 ·simp only [if_neg hpos, known_f, Option.bind_some]
  exact Ev.now _
theorem FeeTrue_pure (a0_0 a0_1 a0_2 a0_3 a0_4 : Int) (l0_5 : List (S107)) (w0 : (((Lit.int .u8 a0_0).wf = true) ∧ (((Lit.int .u8 a0_1).wf = true) ∧ (((Lit.int .u8 a0_2).wf = true) ∧ (((Lit.int .u8 a0_3).wf = true) ∧ ((Lit.int .u8 a0_4).wf = true))))) ∧ (∀ x_ ∈ l0_5, ((Lit.int .u8 x_.f0).wf = true) ∧ (((Lit.int .u8 x_.f1).wf = true) ∧ ((Lit.int .u8 x_.f2).wf = true)))) : ∃ k, lw_FeeTrue.f k a0_0 a0_1 a0_2 a0_3 a0_4 l0_5 = some true :=
 (FeeTrue_ev a0_0 a0_1 a0_2 a0_3 a0_4 l0_5 (ub_wf w0.1.1) (ub_wf w0.1.2.1) (ub_wf w0.1.2.2.1) (ub_wf w0.1.2.2.2.1) (ub_wf w0.1.2.2.2.2) (fun x h => ⟨ub_wf (w0.2 x h).1, ub_wf (w0.2 x h).2.1, ub_wf (w0.2 x h).2.2⟩)).rounds
end Go.Proofs.Ytdlekcdedahbhaa.Q
