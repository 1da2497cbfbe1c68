/- The walks of this program's functions. No condition. -/
import Derived.Test.YtdlekcdedahbhaaX0
import Derived.Laws.StructEq
import Derived.WideKeyEntry
import Derived.ChangeKeysEq
import Derived.Stop.RegionWithIn
import Derived.Sort.CutIn
import Derived.OrdersIn
import Derived.StillTailTactics
import Derived.Laws.MakeOwn
set_option linter.unusedVariables false
set_option linter.unusedSimpArgs false
namespace Go.Proofs.Ytdlekcdedahbhaa
open Go.RowKit Go.Shelf Go.Proofs.YtdlekcdedahbhaaW.PrintWords
set_option linter.unusedVariables false
set_option linter.unusedSimpArgs false
structure Bst where
  b : List Int
  m : Int
def addAt (s : List Int) (k : Nat) (n : Int) : List Int := if k = s.length then s ++ [n] else s.set k (rd s k + n)
def partL : List Int → List Int → List Int → Bst → Bst
  | [], g, s, b => if b.m < s.length ∧ (s.any fun n => n != 0) = false then ⟨g, s.length⟩ else b
  | n :: ns, g, s, b => if n = 0 then partL ns (g ++ [-1]) s b else (List.range (s.length + 1)).foldl (fun (b : Bst) (k : Nat) => partL ns (g ++ [(k : Int)]) (addAt s k n) b) b
def partI (n : Int) (ns g s : List Int) (b : Bst) (j : Nat) : Bst := (List.range j).foldl (fun (b : Bst) (k : Nat) => partL ns (g ++ [(k : Int)]) (addAt s k n) b) b
theorem partI_succ (n ns g s b j) : partI n ns g s b (j + 1) = partL ns (g ++ [(j : Int)]) (addAt s j n) (partI n ns g s b j) := by
  simp only [partI, List.range_succ, List.foldl_append, List.foldl_cons, List.foldl_nil]
theorem addAt_len (s : List Int) (k : Nat) (n : Int) : (addAt s k n).length ≤ s.length + 1 ∧ s.length ≤ (addAt s k n).length := by
  unfold addAt
  split <;> simp
def SumB (m : Int) (s : List Int) : Prop := ∀ x ∈ s, -m ≤ x ∧ x ≤ m
theorem sumB_rd {m : Int} {s : List Int} (h : SumB m s) (k : Nat) (hk : k < s.length) : -m ≤ rd s k ∧ rd s k ≤ m := by
  have : rd s k = s[k] := by simp [rd, hk]
  rw [this]; exact h _ (List.getElem_mem _)
theorem sumB_addAt {m d : Int} {s : List Int} (h : SumB m s) (k : Nat) (hk : k ≤ s.length) (n : Int) (hn : -d ≤ n ∧ n ≤ d) (hm : 0 ≤ m) : SumB (m + d) (addAt s k n) := by
  intro x hx
  unfold addAt at hx
  split at hx
  · rcases List.mem_append.1 hx with h1 | h1
    · have := h x h1; omega
    · simp at h1; omega
  · rename_i hne
    rcases List.mem_or_eq_of_mem_set hx with h1 | h1
    · have := h x h1; omega
    · have := sumB_rd h k (by omega); omega
def StB (β : Nat) (w : World) (r : Nat) (a : Acc) (b : Bst) : Prop := ∃ vb, Bx w r #[.int .i64 a.a0, .int .i64 a.a1, .int .i64 a.a2, .int .i64 a.a3, .int .i64 a.a4, .int .i64 a.a5, vb, .int .i64 b.m] 153 ∧ w.ownsRow β 3 1 vb b.b.length (nums .i64 b.b) ∧ -1 ≤ b.m ∧ b.m ≤ 100
theorem StB.up {β w w' r a b} (h : StB β w r a b) (hu : Up w w') : StB β w' r a b := by
  obtain ⟨vb, h1, h2, h3, h4⟩ := h; exact ⟨vb, h1.up hu, own_up h2 hu, h3, h4⟩
theorem part1 (n : Int) (w : World) : Calls Try.prog 94 #[.int .i64 n] w fun e w' => e = .returned (.bool (n != 0)) ∧ Up w w' := by
  go_enter Try.func94, Try.ntmps94
  go_wp2_with fail
  go_ret
  exact ⟨rfl, upA⟩
theorem containsNz (v : Value) (base : Nat) (l : List Int) (w : World) (h : w.ownsRow base 3 1 v l.length (nums .i64 l)) (hl : l.length ≤ 1000) :
    Calls Try.prog 84 #[v, .func (.func 94) #[] #[]] w fun e w' => e = .returned (.bool (l.any fun n => n != 0)) ∧ Up w w' := by
  obtain ⟨A, c, rfl, hc, hC⟩ := own_C_int h (by omega); exact contains_int 94 #[] (fun n => n != 0) A c l w hC hc (by intro a w; kernel_rfl) (by intro x W hb; exact part1 _ _)
theorem partL_m : ∀ (ns g s : List Int) (b : Bst), s.length + ns.length ≤ 50 → -1 ≤ b.m → b.m ≤ 100 → -1 ≤ (partL ns g s b).m ∧ (partL ns g s b).m ≤ 100
  | [], g, s, b, h, h0, h1 => by
    rw [partL]
    split
    · simp at h ⊢; omega
    · exact ⟨h0, h1⟩
  | n :: ns, g, s, b, h, h0, h1 => by
    rw [partL]; simp only [List.length_cons] at h
    split
    · exact partL_m ns _ s b (by omega) h0 h1
    · have : ∀ j : Nat, j ≤ s.length + 1 → -1 ≤ (partI n ns g s b j).m ∧ (partI n ns g s b j).m ≤ 100 := by
        intro j
        induction j with
        | zero => intro _; exact ⟨h0, h1⟩
        | succ j ih =>
          intro hj; have h2 := ih (by omega); rw [partI_succ]; have h3 := addAt_len s j n; exact partL_m ns _ _ _ (by omega) h2.1 h2.2
      exact this _ (Nat.le_refl _)
theorem st_get (a : Acc) (v x : Value) (i : Nat) (h : i < 6) : (#[.int .i64 a.a0, .int .i64 a.a1, .int .i64 a.a2, .int .i64 a.a3, .int .i64 a.a4, .int .i64 a.a5, v, x] : Array Value)[i]? = some (.int .i64 (a.get i)) := by
  obtain rfl | rfl | rfl | rfl | rfl | rfl : i = 0 ∨ i = 1 ∨ i = 2 ∨ i = 3 ∨ i = 4 ∨ i = 5 := by omega
  all_goals rfl
theorem accL_drop (a : Acc) (i : Nat) (n : Int) (ns : List Int) (h : n :: ns = (accL a).drop i) : i < 6 ∧ n = a.get i ∧ ns = (accL a).drop (i + 1) := by
  have hl := congrArg List.length h
  simp [accL] at hl
  have hi : i < 6 := by omega
  refine ⟨hi, ?_, ?_⟩
  · obtain rfl | rfl | rfl | rfl | rfl | rfl : i = 0 ∨ i = 1 ∨ i = 2 ∨ i = 3 ∨ i = 4 ∨ i = 5 := by omega
    all_goals (simp [accL] at h; simp [Acc.get, h.1])
  · rw [← List.drop_drop, ← h]
    rfl
theorem ofGrown {w w' : World} (h : w.grownBy w' none) : Up w w' := Below.grown (Below.refl _ w) h (Nat.le_refl _) (fun k hk => nomatch hk)
set_option maxRecDepth 100000 in
set_option maxHeartbeats 2000000 in
theorem part_ (a : Acc) (ha : AccB 100000 a) (r β : Nat) : ∀ (ns g s : List Int) (b : Bst) (w : World) (vg vs : Value), β ≤ w.heap.size → ns = (accL a).drop g.length → g.length ≤ 6 → s.length ≤ g.length → SumB (100000 * (g.length : Int)) s →
    w.ownsRow 0 3 1 vg g.length (nums .i64 g) → w.ownsRow 0 3 1 vs s.length (nums .i64 s) → StB β w r a b →
    Calls Try.prog 81 #[.pointer (some ⟨r, 0, none⟩), vg, vs] w fun e w' => e = .returned (.tuple #[]) ∧ Wr r w w' ∧ StB β w' r a (partL ns g s b) := by
  intro ns
  induction ns with
  | nil =>
    intro g s b w vg vs hβ hns hg hs hsb hog hos hst
    have hg6 : g.length = 6 := by
      have h1 := congrArg List.length hns
      simp [accL] at h1
      omega
    obtain ⟨Ag, cg, rfl, hcg, _⟩ := own_cells hog; obtain ⟨As, cs, rfl, hcs, _⟩ := own_cells hos; have HST := Aside0.mk hst; obtain ⟨vb, hB, hvb, hm1, hm2⟩ := hst; have HOG := Aside0.mk hog; have HOS := Aside0.mk hos; have HB := Aside0.mk hB
    have hbg : ((g.length : Int) == 6) = true := by simp; omega
    have hq := hB.cell
    have hsl : s.length ≤ 6 := by omega
    have HG6 := Aside0.mk hg6; clear hog hos hB hvb hsb hns hg6 hg hs
    by_cases hlt : b.m < s.length
    · have hd : decide (b.m < (s.length : Int)) = true := by simpa using hlt
      cases hany : (s.any fun n => n != 0)
      · have HA := Aside0.mk hany
        have HP : Aside0 (partL [] g s b = ⟨g, s.length⟩) := ⟨by simp [partL, hlt, hany]⟩; clear hany hlt
        go_enter Try.func81, Try.ntmps81
        go_wp2_with (first | (go_at_call 84; (with_reducible refine ((HA.out ▸ containsNz _ _ _ _ HOS.out (by omega))).mono ?_); rintro e w' ⟨rfl, hb⟩; have hq2 := (HB.out.up hb).cell; have hbA := Aside0.mk hb; clear hb) | (go_at_call 95; (with_reducible refine (clone_ _ _ g _ (own_up HOG.out hbA.out) (by have := HG6.out; omega)).mono ?_); rintro e w2 ⟨v', rfl, ho, hb2⟩; obtain ⟨A', c', rfl, _, _⟩ := own_cells ho; have hB2 := (HB.out.up hbA.out).up hb2; have hq3 := hB2.cell; have hf3 := hB2.frozen; have HB2 := Aside0.mk hB2; have HO := Aside0.mk ho; have hbB := Aside0.mk hb2; clear hb2 ho hB2))
        refine bodyPost_ret (results_none rfl _ _ _) rfl ⟨rfl, ?_, ?_⟩
        · exact ((Wr.ofUp (hbA.out.then hbB.out)).then ((Wr.refl _ _).setAt _ _)).then ((Wr.refl _ _).setAt _ _)
        · rw [HP.out]
          have h9 := (HB2.out.set 6 (.slice A' g.length c')).set 7 (.int .i64 (s.length : Int)); exact ⟨.slice A' g.length c', h9, own_far (own_far (own_mono HO.out (by have := hbA.out.le; omega)) HB2.out (by decide) _ _) (HB2.out.set _ _) (by decide) _ _, by simp only; omega, by simp only; omega⟩
      · have HA := Aside0.mk hany
        have HP : Aside0 (partL [] g s b = b) := ⟨by simp [partL, hany]⟩; clear hany hlt
        go_enter Try.func81, Try.ntmps81
        go_wp2_with (first | (go_at_call 84; (with_reducible refine ((HA.out ▸ containsNz _ _ _ _ HOS.out (by omega))).mono ?_); rintro e w' ⟨rfl, hb⟩; have hbA := Aside0.mk hb; clear hb) | fail)
        refine bodyPost_ret (results_none rfl _ _ _) rfl ⟨rfl, Wr.ofUp hbA.out, ?_⟩; rw [HP.out]; exact HST.out.up hbA.out
    · have hd : decide (b.m < (s.length : Int)) = false := by simpa using hlt
      have HP : Aside0 (partL [] g s b = b) := ⟨by simp [partL, hlt]⟩; clear hlt
      go_enter Try.func81, Try.ntmps81
      go_wp2_with fail
      refine bodyPost_ret (results_none rfl _ _ _) rfl ⟨rfl, Wr.refl _ _, ?_⟩; rw [HP.out]; exact HST.out
  | cons n ns ih =>
    intro g s b w vg vs hβ hns hg hs hsb hog hos hst; obtain ⟨hgl, hn, hns2⟩ := accL_drop a g.length n ns hns; have hnb := ha.get (by omega) g.length; rw [← hn] at hnb; obtain ⟨Ag, cg, rfl, hcg, hAn, hAc⟩ := own_cells hog; obtain ⟨As, cs, rfl, hcs, _⟩ := own_cells hos; have HST := Aside0.mk hst; obtain ⟨vb, hB, hvb, hm1, hm2⟩ := hst
    have hcell : w.cell? ⟨r, g.length, none⟩ = some (.int .i64 n) := by rw [hB.cell, hn]; exact st_get a _ _ _ hgl
    obtain ⟨i0, hi, hz0, hz1, hz2⟩ := info_parts info_int
    have hgl2 : (g.length : Int) < 6 := by omega
    have hg0 : 0 ≤ (g.length : Int) := by omega
    have hbg : ((g.length : Int) == 6) = false := by simp; omega
    have hmlg := (show cg ≤ 9223372036854775807 by
      rcases hog.2 with ⟨e, _⟩ | ⟨g2, cap, cur, e, _, _, _, h, _⟩
      · simp at e; omega
      · simp at e; unfold maxLen at h; omega)
    have HOG := Aside0.mk hog; have HOS := Aside0.mk hos; have HB := Aside0.mk hB; have HAN := Aside0.mk hAn; have HAC := Aside0.mk hAc; have HSB := Aside0.mk hsb; have HNS := Aside0.mk hns2; have IH := Aside0.mk ih; clear hog hos hB hvb hsb hns hn hns2 hAn hAc ih
    by_cases hz : n = 0
    · subst hz
      have HP : Aside0 (partL (0 :: ns) g s b = partL ns (g ++ [-1]) s b) := ⟨by simp [partL]⟩
      go_enter Try.func81, Try.ntmps81
      go_wp2_with (first | (go_at_call 96; (with_reducible refine (clip_ _ _ _ _ hcg hmlg).mono ?_); rintro e w' ⟨rfl, hb⟩; have hbA := Aside0.mk hb; obtain ⟨hcA, hfA⟩ := hb.old; have hz := hb.le; (try simp at hz); (try have hz0 : w.heap.size < w'.heap.size := by omega); (try have hzb : w.heap.size + 1 < w'.heap.size := by omega); (try have hzc : w.heap.size + 2 < w'.heap.size := by omega); clear hb) | (at_builtin; refine wpList_append_grows _ rfl _ _ 35 rfl 3 i0 _ 1 8 Try.underlying35 hi hz0 hz1 hz2 rfl (by decide) Ag g.length g.length (nums .i64 g) rfl (fun e => ⟨HAN.out e, HAN.out e⟩) (by simp [nums]) ?hcells ⟨w'.heap.size, 0, none⟩ 1 1 [.int .i64 (-1)] (by first | rfl | go_simp) rfl ?hnews ?hone (by omega) ?b1 ?b2 ?_))
      case hcells =>
        intro ad e j u hu; exact (hbA.out.alloc _).cell (HAC.out ad e j u hu)
      case hnews =>
        intro j u hu
        match j, hu with
        | 0, hu => simp at hu; subst hu; simp [go_sem]
      case hone => intro u hu; simp at hu; subst hu; rfl
      case b1 => unfold maxLen; omega
      case b2 => omega
      intro v1 w1 hown hgrow
      have hU1 : Up w w1 := (hbA.out.alloc _).then (ofGrown hgrow)
      have hown2 : w1.ownsRow 0 3 1 v1 (g ++ [-1]).length (nums .i64 (g ++ [-1])) := by
        have h9 := own_mono hown (Nat.zero_le _)
        simpa [nums] using h9
      obtain ⟨A1, c1, rfl, _, _⟩ := own_cells hown2; have hcall := IH.out (g ++ [-1]) s b w1 _ (.slice As s.length cs) (by have := hU1.le; omega) (by simpa using HNS.out) (by simp; omega) (by simp; omega) (fun x hx => by have := HSB.out x hx; simp; omega) hown2 (own_up HOS.out hU1) (HST.out.up hU1); rw [show (g ++ [(-1 : Int)]).length = g.length + 1 by simp] at hcall; have HU1 := Aside0.mk hU1; clear hown hgrow hown2 hU1
      repeat clear hcA hfA
      go_wp2_with fail
      with_reducible refine hcall.mono ?_
      clear hcall; rintro e w2 ⟨rfl, hw2, hst2⟩; have HW2 := Aside0.mk ((Wr.ofUp HU1.out).then hw2); have HS2 := Aside0.mk hst2; clear hw2 hst2
      go_wp2_with fail
      refine bodyPost_ret (results_none rfl _ _ _) rfl ⟨rfl, HW2.out, ?_⟩; rw [HP.out]; exact HS2.out
    · have hbz : (n == 0) = false := by simp [hz]
      have HP : Aside0 (partL (n :: ns) g s b = partI n ns g s b (s.length + 1)) := ⟨by simp [partL, hz, partI]⟩; clear hz
      go_enter Try.func81, Try.ntmps81
      go_wp2_with fail
      go_loopw [53] (fun i wr => ∃ k : Nat, k ≤ s.length + 1 ∧ i = .int .i64 k ∧ Aside0 (Wr r w wr) ∧ Aside0 (StB β wr r a (partI n ns g s b k))) (fun i _ => s.length + 1 - (intOf i).toNat)
      case atStart => exact ⟨0, by omega, rfl, ⟨Wr.refl _ _⟩, HST⟩
      case round =>
        obtain ⟨k, hk, rfl, hW, hST⟩ := hrel
        by_cases hlt : k < s.length + 1
        · have hOSr := own_wr2 HOS.out HB.out (by decide) hW.out
          have hOGr := own_wr2 HOG.out HB.out (by decide) hW.out; obtain ⟨Ag', cg', hvg, _, _, hACr⟩ := own_cells hOGr
          have hagg : Ag = Ag' := by simp at hvg; exact hvg.1
          subst hagg; have HACr := Aside0.mk hACr; have hclone := clone_ (.slice As s.length cs) 0 s wr hOSr (by omega)
          have hdl : decide ((k : Int) < (s.length : Int) + 1) = true := by simp; omega
          clear hOSr hOGr hvg hACr
          by_cases hks : k = s.length
          · have hbk : ((k : Int) == (s.length : Int)) = true := by simp [hks]
            have HKS := Aside0.mk hks; clear hks
            go_wp2_with fail
            with_reducible refine hclone.mono ?_
            clear hclone; rintro e wc ⟨v', rfl, ho, hbc⟩; have HOC := Aside0.mk ho; have HUC : Aside0 (Up wr wc) := ⟨hbc⟩; have hzc := hbc.le; clear ho hbc
            go_wp2_with (at_builtin; refine print_append_cells (w0 := wr) wr.heap.size rfl _ _ 35 3 _ 1 8 rfl Try.underlying35 info_int rfl (by decide) (by decide) v' s.length _ [.int .i64 0] rfl (by first | rfl | go_simp) rfl ?q1 HOC.out HUC.out hzc ?q2 ?_)
            case q1 => intro u hu; simp at hu; subst hu; rfl
            case q2 => omega
            intro v3 w3 hown3 hb3 hgrow3 hat3; have HU3 : Aside0 (Up wr w3) := ⟨hb3⟩; have HO3 : Aside0 (w3.ownsRow wr.heap.size 3 1 v3 (s ++ [(0 : Int)]).length (nums .i64 (s ++ [(0 : Int)]))) := ⟨by simpa [nums] using hown3⟩
            have hk3 : k < (s ++ [(0 : Int)]).length := by have := HKS.out; simp; omega
            have hrd : rd (s ++ [(0 : Int)]) k = 0 := by have := HKS.out; subst this; simp [rd]
            have hs3 : Aside0 ((s ++ [(0 : Int)]).set k (rd (s ++ [(0 : Int)]) k + n) = addAt s k n) := ⟨by rw [hrd]; have := HKS.out; subst this; simp [addAt]⟩; have hL : Aside0 ((s ++ [(0 : Int)]).length = s.length + 1) := ⟨by simp⟩; clear hown3 hb3 hgrow3 hat3
            have hrb : -600000 ≤ rd (s ++ [(0 : Int)]) k ∧ rd (s ++ [(0 : Int)]) k ≤ 600000 := by omega
            clear hrd; obtain ⟨g3, c3, hv3, hbase, hlt3, hc3, hf3, _, hput⟩ := own_put HO3.out k hk3; rw [show (s ++ [(0 : Int)]).length = s.length + 1 by simp] at hv3; subst hv3; have hwr1 : IntKind.i64.wrap (rd (s ++ [(0 : Int)]) k + n) = rd (s ++ [(0 : Int)]) k + n := IntWalk.i64_in _ (by omega); have hput2 := hput (rd (s ++ [(0 : Int)]) k + n); rw [hs3.out] at hput2; have HP2 := Aside0.mk hput2
            have hkL : (k : Int) < ((s.length + 1 : Nat) : Int) := by omega
            have hk0 : (0 : Int) ≤ (k : Int) := by omega
            have HUs : Aside0 (Up wr (w3.setCell ⟨g3, k, none⟩ (.int .i64 (rd (s ++ [(0 : Int)]) k + n)))) := ⟨HU3.out.set _ _ hbase⟩; clear hput hput2
            go_wp2_with (first | (go_at_call 96; (with_reducible refine (clip_ _ _ _ _ hcg hmlg).mono ?_); rintro e w' ⟨rfl, hb⟩; have hbA := Aside0.mk hb; obtain ⟨hcA, hfA⟩ := hb.old; have hz := hb.le; (try simp at hz); (try have hz0 : w.heap.size < w'.heap.size := by omega); (try have hzb : w.heap.size + 1 < w'.heap.size := by omega); (try have hzc : w.heap.size + 2 < w'.heap.size := by omega); clear hb) | (at_builtin; refine wpList_append_grows _ rfl _ _ 35 rfl 3 i0 _ 1 8 Try.underlying35 hi hz0 hz1 hz2 rfl (by decide) Ag g.length g.length (nums .i64 g) rfl (fun e => ⟨HAN.out e, HAN.out e⟩) (by simp [nums]) ?hcells ⟨w'.heap.size, 0, none⟩ 1 1 [.int .i64 ((k : Int))] (by first | rfl | go_simp) rfl ?hnews ?hone (by omega) ?b1 ?b2 ?_))
            case hcells =>
              intro ad e j u hu; exact ((HUs.out.then hbA.out).alloc _).cell (HACr.out ad e j u hu)
            case hnews =>
              intro j u hu
              match j, hu with
              | 0, hu => simp at hu; subst hu; simp [go_sem]
            case hone => intro u hu; simp at hu; subst hu; rfl
            case b1 => unfold maxLen; omega
            case b2 => omega
            intro v1 w1 hown hgrow
            have hU1 : Up (w3.setCell ⟨g3, k, none⟩ (.int .i64 (rd (s ++ [(0 : Int)]) k + n))) w1 := (hbA.out.alloc _).then (ofGrown hgrow)
            have hown2 : w1.ownsRow 0 3 1 v1 (g ++ [(k : Int)]).length (nums .i64 (g ++ [(k : Int)])) := by
              have h9 := own_mono hown (Nat.zero_le _)
              simpa [nums] using h9
            obtain ⟨A1, c1, rfl, _, _⟩ := own_cells hown2; have hadd := addAt_len s k n; have hcall := IH.out (g ++ [(k : Int)]) (addAt s k n) (partI n ns g s b k) w1 _ (.slice (some ⟨g3, 0, none⟩) (s.length + 1) c3) (by have h8 := (HUs.out.then hU1).le; have h7 := hW.out.size; omega) (by simpa using HNS.out) (by simp; omega) (by simp; omega) (by have h9 := sumB_addAt HSB.out k (by omega) n hnb (by omega); intro x hx; have := h9 x hx; simp; omega) hown2 (own_up (own_mono HP2.out (Nat.zero_le _)) hU1) (hST.out.up (HUs.out.then hU1)); rw [show (g ++ [(k : Int)]).length = g.length + 1 by simp] at hcall; have HU1 := Aside0.mk (HUs.out.then hU1); clear hown hgrow hown2 hU1 hadd
            repeat clear hcA hfA
            go_wp2_with fail
            with_reducible refine hcall.mono ?_
            clear hcall; rintro e w2 ⟨rfl, hw2, hst2⟩; have HW2 := Aside0.mk ((hW.out.then (Wr.ofUp HU1.out)).then hw2); have HS2 := Aside0.mk hst2; clear hw2 hst2
            go_wp2_with fail
            go_roundw
            case rel => exact ⟨k + 1, by omega, by go_num, HW2, ⟨by rw [partI_succ]; exact HS2.out⟩⟩
            case measure => simp [intOf]; omega
          · have hbk : ((k : Int) == (s.length : Int)) = false := by simp; omega
            have hk3 : k < s.length := by omega
            have hrb : -600000 ≤ rd s k ∧ rd s k ≤ 600000 := by have := sumB_rd HSB.out k hk3; omega
            have hs3 : Aside0 (s.set k (rd s k + n) = addAt s k n) := ⟨by simp [addAt, hks]⟩; have hL : Aside0 (s.length = s.length) := ⟨rfl⟩; clear hks
            go_wp2_with fail
            with_reducible refine hclone.mono ?_
            clear hclone; rintro e w3 ⟨v3, rfl, ho, hbc⟩; have HO3 := Aside0.mk ho; have HU3 : Aside0 (Up wr w3) := ⟨hbc⟩; clear ho hbc; obtain ⟨g3, c3, hv3, hbase, hlt3, hc3, hf3, _, hput⟩ := own_put HO3.out k hk3; rw [show (s).length = s.length by simp] at hv3; subst hv3; have hwr1 : IntKind.i64.wrap (rd (s) k + n) = rd (s) k + n := IntWalk.i64_in _ (by omega); have hput2 := hput (rd (s) k + n); rw [hs3.out] at hput2; have HP2 := Aside0.mk hput2
            have hkL : (k : Int) < ((s.length : Nat) : Int) := by omega
            have hk0 : (0 : Int) ≤ (k : Int) := by omega
            have HUs : Aside0 (Up wr (w3.setCell ⟨g3, k, none⟩ (.int .i64 (rd (s) k + n)))) := ⟨HU3.out.set _ _ hbase⟩; clear hput hput2
            go_wp2_with (first | (go_at_call 96; (with_reducible refine (clip_ _ _ _ _ hcg hmlg).mono ?_); rintro e w' ⟨rfl, hb⟩; have hbA := Aside0.mk hb; obtain ⟨hcA, hfA⟩ := hb.old; have hz := hb.le; (try simp at hz); (try have hz0 : w.heap.size < w'.heap.size := by omega); (try have hzb : w.heap.size + 1 < w'.heap.size := by omega); (try have hzc : w.heap.size + 2 < w'.heap.size := by omega); clear hb) | (at_builtin; refine wpList_append_grows _ rfl _ _ 35 rfl 3 i0 _ 1 8 Try.underlying35 hi hz0 hz1 hz2 rfl (by decide) Ag g.length g.length (nums .i64 g) rfl (fun e => ⟨HAN.out e, HAN.out e⟩) (by simp [nums]) ?hcells ⟨w'.heap.size, 0, none⟩ 1 1 [.int .i64 ((k : Int))] (by first | rfl | go_simp) rfl ?hnews ?hone (by omega) ?b1 ?b2 ?_))
            case hcells =>
              intro ad e j u hu; exact ((HUs.out.then hbA.out).alloc _).cell (HACr.out ad e j u hu)
            case hnews =>
              intro j u hu
              match j, hu with
              | 0, hu => simp at hu; subst hu; simp [go_sem]
            case hone => intro u hu; simp at hu; subst hu; rfl
            case b1 => unfold maxLen; omega
            case b2 => omega
            intro v1 w1 hown hgrow
            have hU1 : Up (w3.setCell ⟨g3, k, none⟩ (.int .i64 (rd (s) k + n))) w1 := (hbA.out.alloc _).then (ofGrown hgrow)
            have hown2 : w1.ownsRow 0 3 1 v1 (g ++ [(k : Int)]).length (nums .i64 (g ++ [(k : Int)])) := by
              have h9 := own_mono hown (Nat.zero_le _)
              simpa [nums] using h9
            obtain ⟨A1, c1, rfl, _, _⟩ := own_cells hown2; have hadd := addAt_len s k n; have hcall := IH.out (g ++ [(k : Int)]) (addAt s k n) (partI n ns g s b k) w1 _ (.slice (some ⟨g3, 0, none⟩) (s.length) c3) (by have h8 := (HUs.out.then hU1).le; have h7 := hW.out.size; omega) (by simpa using HNS.out) (by simp; omega) (by simp; omega) (by have h9 := sumB_addAt HSB.out k (by omega) n hnb (by omega); intro x hx; have := h9 x hx; simp; omega) hown2 (own_up (own_mono HP2.out (Nat.zero_le _)) hU1) (hST.out.up (HUs.out.then hU1)); rw [show (g ++ [(k : Int)]).length = g.length + 1 by simp] at hcall; have HU1 := Aside0.mk (HUs.out.then hU1); clear hown hgrow hown2 hU1 hadd
            repeat clear hcA hfA
            go_wp2_with fail
            with_reducible refine hcall.mono ?_
            clear hcall; rintro e w2 ⟨rfl, hw2, hst2⟩; have HW2 := Aside0.mk ((hW.out.then (Wr.ofUp HU1.out)).then hw2); have HS2 := Aside0.mk hst2; clear hw2 hst2
            go_wp2_with fail
            go_roundw
            case rel => exact ⟨k + 1, by omega, by go_num, HW2, ⟨by rw [partI_succ]; exact HS2.out⟩⟩
            case measure => simp [intOf]; omega
        · obtain rfl : k = s.length + 1 := by omega
          have hdl : decide (((s.length + 1 : Nat) : Int) < (s.length : Int) + 1) = false := by simp
          have hdl2 : decide ((s.length : Int) + 1 < (s.length : Int) + 1) = false := by simp
          go_wp2_with fail
          go_end0
          exact ⟨rfl, hW.out, by rw [HP.out]; exact hST.out⟩
def some_ (a : Acc) : Int := ((accL a).filter (fun n => n != 0)).length
def bestA (a : Acc) : Bst := partL (accL a) [] [] ⟨[], -1⟩
def settleE (b : List Int) : Int := if balB b then (if (accL (balA b)).sum = 0 then 0 else 9) else 4
def settleN (b : List Int) : Int := if settleE b = 0 then some_ (balA b) - (bestA (balA b)).m else 0
def settleG (b : List Int) : List Int := if settleE b = 0 then (bestA (balA b)).b else []
theorem balA_bd (b : List Int) (h : balB b = true) : AccB 100000 (balA b) := by
  unfold balB at h
  rw [Bool.and_eq_true, decide_eq_true_eq, inB_iff] at h; obtain ⟨h6, h7⟩ := h
  have hk : ∀ k : Nat, k < 6 → -100000 ≤ rd b k ∧ rd b k ≤ 100000 := fun k hk => by
    have : rd b k = b[k]'(by omega) := by simp [rd, show k < b.length by omega]
    rw [this]; exact h7 _ (List.getElem_mem _)
  have hb : balB b = true := by unfold balB; rw [Bool.and_eq_true, decide_eq_true_eq, inB_iff]; exact ⟨h6, h7⟩
  unfold balA
  rw [if_pos hb]; exact ⟨hk 0 (by omega), hk 1 (by omega), hk 2 (by omega), hk 3 (by omega), hk 4 (by omega), hk 5 (by omega)⟩
theorem index_acc (a : Acc) (k : Nat) (h : k < 6) (w : World) : (Instr.index 135 (.agg #[.int .i64 (a).a0, .int .i64 (a).a1, .int .i64 (a).a2, .int .i64 (a).a3, .int .i64 (a).a4, .int .i64 (a).a5]) (.int .i64 (k : Int))).run Try.prog w = .ok (.int .i64 (a.get k)) w := by
  obtain rfl | rfl | rfl | rfl | rfl | rfl : k = 0 ∨ k = 1 ∨ k = 2 ∨ k = 3 ∨ k = 4 ∨ k = 5 := by omega
  all_goals kernel_rfl
def sumTo (a : Acc) (k : Nat) : Int := ((accL a).take k).sum
def someTo (a : Acc) (k : Nat) : Int := (((accL a).take k).filter (fun n => n != 0)).length
theorem sumTo_succ (a : Acc) (k : Nat) (h : k < 6) : sumTo a (k + 1) = sumTo a k + a.get k ∧ someTo a (k + 1) = someTo a k + (if a.get k = 0 then 0 else 1) := by
  have hl : (accL a).length = 6 := rfl
  have e : (accL a)[k]'(by omega) = a.get k := by
    obtain rfl | rfl | rfl | rfl | rfl | rfl : k = 0 ∨ k = 1 ∨ k = 2 ∨ k = 3 ∨ k = 4 ∨ k = 5 := by omega
    all_goals rfl
  unfold sumTo someTo
  rw [List.take_succ_eq_append_getElem (by omega), e]; refine ⟨by simp, ?_⟩; rw [List.filter_append, List.length_append]
  by_cases h0 : a.get k = 0
  · simp [h0]
  · simp [h0]
theorem sumTo_bd (a : Acc) (h : AccB 100000 a) : ∀ k : Nat, k ≤ 6 → (-100000 * (k : Int) ≤ sumTo a k ∧ sumTo a k ≤ 100000 * (k : Int)) ∧ 0 ≤ someTo a k ∧ someTo a k ≤ k
  | 0, _ => by simp [sumTo, someTo]
  | k + 1, hk => by
    have h1 := sumTo_bd a h k (by omega); have h2 := sumTo_succ a k (by omega); have h3 := h.get (by omega) k; rw [h2.1, h2.2]
    split <;> omega
set_option maxRecDepth 100000 in
set_option maxHeartbeats 2000000 in
theorem settle_ (A : Option Addr) (c : Nat) (l : List Int) (w : World) (hr : Kd.C (Kd.int .i64) w A l.length l) (hc : l.length ≤ c) :
    Calls Try.prog 42 #[.slice A l.length c] w fun e w' => ∃ v, e = .returned (.tuple #[.int .i64 (settleN l), v, .int .i64 (settleE l)]) ∧ w'.ownsRow w.heap.size 3 1 v (settleG l).length (nums .i64 (settleG l)) ∧ Up w w' := by
  have hm := CF_len hr; have HR := Aside0.mk hr; clear hr
  cases hb : balB l
  · have hE : settleE l = 4 := by simp [settleE, hb]
    have hN : settleN l = 0 := by simp [settleN, hE]
    have hG : settleG l = [] := by simp [settleG, hE]
    have HB := Aside0.mk hb; rw [hE, hN, hG]; clear hE hN hG hb
    go_enter Try.func42, Try.ntmps42
    go_wp2_with (first | (go_at_call 73; (with_reducible refine ((HB.out ▸ bal_ _ _ l _ (C_up HR.out upA) hc)).mono ?_); rintro e w' ⟨rfl, hb⟩; have hbA := Aside0.mk hb; obtain ⟨hcA, hfA⟩ := hb.old; have hz := hb.le; (try simp at hz); (try have hz0 : w.heap.size < w'.heap.size := by omega); (try have hzb : w.heap.size + 1 < w'.heap.size := by omega); (try have hzc : w.heap.size + 2 < w'.heap.size := by omega); clear hb))
    go_ret3
    exact ⟨.slice none 0 0, rfl, ⟨rfl, .inl ⟨rfl, rfl⟩⟩, upA⟩
  · have hbd := balA_bd l hb
    have HBD := Aside0.mk hbd; have HB := Aside0.mk hb; clear hb hbd; obtain ⟨a, ha⟩ : ∃ a, a = balA l := ⟨_, rfl⟩; rw [← ha] at HBD; have HA := Aside0.mk ha; clear ha
    go_enter Try.func42, Try.ntmps42
    go_wp2_with (first | (go_at_call 73; (with_reducible refine ((HB.out ▸ HA.out ▸ bal_ _ _ l _ (C_up HR.out upA) hc)).mono ?_); rintro e w' ⟨rfl, hb⟩; have hbA := Aside0.mk hb; obtain ⟨hcA, hfA⟩ := hb.old; have hz := hb.le; (try simp at hz); (try have hz0 : w.heap.size < w'.heap.size := by omega); (try have hzb : w.heap.size + 1 < w'.heap.size := by omega); (try have hzc : w.heap.size + 2 < w'.heap.size := by omega); clear hb))
    have HU : Aside0 (Up w w') := ⟨upA⟩
    repeat clear hcA hfA
    go_loop [7, 8, 20] (fun v7 v8 i => ∃ (k : Nat), k ≤ 6 ∧ i = .int .i64 k ∧ v7 = .int .i64 (sumTo a k) ∧ v8 = .int .i64 (someTo a k)) (fun _ _ i => 6 - (intOf i).toNat)
    case atStart => exact ⟨0, by omega, rfl, rfl, rfl⟩
    case round =>
      obtain ⟨k, hk, rfl, rfl, rfl⟩ := hrel
      by_cases hlt : k < 6
      · have hsu := sumTo_succ a k hlt
        have hsb := sumTo_bd a HBD.out k hk; have hgb := HBD.out.get (by omega) k; have HS := Aside0.mk hsu
        have hlk : (k : Int) < 6 := by omega
        have hk0 : (0 : Int) ≤ k := by omega
        have hd : decide ((k : Int) < 6) = true := by simp; omega
        have hix : ∀ w : World, (Instr.index 135 (.agg #[.int .i64 (a).a0, .int .i64 (a).a1, .int .i64 (a).a2, .int .i64 (a).a3, .int .i64 (a).a4, .int .i64 (a).a5]) (.int .i64 (k : Int))).run Try.prog w = .ok (.int .i64 (a.get k)) w := index_acc a k hlt; clear hsu
        generalize sumTo a k = S at *
        generalize someTo a k = M at *
        by_cases hz : a.get k = 0
        · have hzb : (a.get k != 0) = false := by simp [hz]
          have HZ := Aside0.mk hz; clear hz
          go_wp2_with fail
          go_round
          case rel => exact ⟨k + 1, by omega, by go_num, by rw [HS.out.1], by rw [HS.out.2, if_pos HZ.out]; simp⟩
          case measure => simp [intOf]; omega
        · have hzb : (a.get k != 0) = true := by simp [hz]
          have HZ := Aside0.mk hz; clear hz
          go_wp2_with fail
          go_round
          case rel => exact ⟨k + 1, by omega, by go_num, by rw [HS.out.1], by rw [HS.out.2, if_neg HZ.out]⟩
          case measure => simp [intOf]; omega
      · obtain rfl : k = 6 := by omega
        have hS6 : sumTo a 6 = (accL a).sum := rfl; have hM6 : someTo a 6 = some_ a := rfl; have hMb := (sumTo_bd a HBD.out 6 (by omega)).2; rw [hS6, hM6]; rw [hM6] at hMb
        by_cases hs0 : (accL a).sum = 0
        · have hsb : ((accL a).sum != 0) = false := by simp [hs0]
          have hE : settleE l = 0 := by simp [settleE, HB.out, ← HA.out, hs0]
          have hN : settleN l = some_ a - (bestA a).m := by simp [settleN, hE, ← HA.out]
          have hG : settleG l = (bestA a).b := by simp [settleG, hE, ← HA.out]
          have HN := Aside0.mk hN; have HG := Aside0.mk hG; have HE := Aside0.mk hE; have hpm := partL_m (accL a) [] [] ⟨[], -1⟩ (by simp [accL]) (by simp) (by simp); have hpb : -1 ≤ (bestA a).m ∧ (bestA a).m ≤ 100 := hpm
          have hst : StB w.heap.size ((w'.alloc (.cells #[.int .i64 (a).a0, .int .i64 (a).a1, .int .i64 (a).a2, .int .i64 (a).a3, .int .i64 (a).a4, .int .i64 (a).a5] 135)).alloc (.cells #[.int .i64 a.a0, .int .i64 a.a1, .int .i64 a.a2, .int .i64 a.a3, .int .i64 a.a4, .int .i64 a.a5, .slice none 0 0, .int .i64 (-1)] 153)) (w'.heap.size + 1) a ⟨[], -1⟩ := by
            refine ⟨.slice none 0 0, ?_, ⟨rfl, .inl ⟨rfl, rfl⟩⟩, by simp, by simp⟩; have h9 := Bx.new (w'.alloc (.cells #[.int .i64 (a).a0, .int .i64 (a).a1, .int .i64 (a).a2, .int .i64 (a).a3, .int .i64 (a).a4, .int .i64 (a).a5] 135)) #[.int .i64 a.a0, .int .i64 a.a1, .int .i64 a.a2, .int .i64 a.a3, .int .i64 a.a4, .int .i64 a.a5, .slice none 0 0, .int .i64 (-1)] 153
            simpa using h9
          have hcall := part_ a HBD.out (w'.heap.size + 1) w.heap.size (accL a) [] [] ⟨[], -1⟩ _ (.slice none 0 0) (.slice none 0 0) (by have := HU.out.le; simp; omega) rfl (by simp) (by simp) (fun x hx => by simp at hx) ⟨rfl, .inl ⟨rfl, rfl⟩⟩ ⟨rfl, .inl ⟨rfl, rfl⟩⟩ hst; have hw := HU.out.le; clear hs0 hE hN hG hpm hst
          go_wp2_with fail
          with_reducible refine hcall.mono ?_
          clear hcall; rintro e w2 ⟨rfl, hw2, vb, hB, hvb, _, _⟩; have hUw : Up w w2 := hw2.up (by omega) ((HU.out.alloc _).alloc _); have hq := hB.cell; have HVB := Aside0.mk hvb; have HUW := Aside0.mk hUw; clear hw2 hB hvb hUw
          go_wp2_with fail
          go_quiet (fail)
          go_wp2_with fail
          go_ret3
          exact ⟨vb, by simp [HN.out, HE.out, bestA], by rw [HG.out]; exact own_up HVB.out ((Up.refl _).drewN _), HUW.out.drewN _⟩
        · have hsb : ((accL a).sum != 0) = true := by simp [hs0]
          have hE : settleE l = 9 := by simp [settleE, HB.out, ← HA.out, hs0]
          have hN : settleN l = 0 := by simp [settleN, hE]
          have hG : settleG l = [] := by simp [settleG, hE]
          have HN := Aside0.mk hN; have HG := Aside0.mk hG; have HE := Aside0.mk hE; clear hs0 hE hN hG
          go_wp2_with fail
          go_ret3
          exact ⟨.slice none 0 0, by simp [HN.out, HE.out], by rw [HG.out]; exact ⟨rfl, .inl ⟨rfl, rfl⟩⟩, upA⟩
end Go.Proofs.Ytdlekcdedahbhaa
namespace Go.Proofs.YtdlekcdedahbhaaW.PrintWords
open Go.RowKit
section
variable {P : Program} {d : Nat} {xs ys : Array Value} {f : Field} {fs : List Field} {a b : Value} {r s : Bool} {w : World}
theorem eqf_last (hn : (f.name == "_") = false) (ha : (part f.type xs f.offset).run P w = .ok a w) (hb : (part f.type ys f.offset).run P w = .ok b w) (he : (Op.equalIn d f.type a b).run P w = .ok r w) : (Op.eqFields d xs ys [f]).run P w = .ok r w := by
  have hn' : f.name ≠ "_" := by simpa using hn
  simp only [Op.eqFields, if_pos hn', Sem.run_bind, ha, hb, he, Result.andThen_ok]
  cases r <;> simp
theorem eqf_cons (hn : (f.name == "_") = false) (ha : (part f.type xs f.offset).run P w = .ok a w) (hb : (part f.type ys f.offset).run P w = .ok b w) (he : (Op.equalIn d f.type a b).run P w = .ok r w) (hr : (Op.eqFields d xs ys fs).run P w = .ok s w) : (Op.eqFields d xs ys (f :: fs)).run P w = .ok (r && s) w := by
  have hn' : f.name ≠ "_" := by simpa using hn
  rw [Op.eqFields]; simp only [if_pos hn', Sem.run_bind, ha, hb, he, Result.andThen_ok]
  cases r
  · simp
  · simpa using hr
theorem eqA_of {t : TypeId} {fs : Array Field} (hu : P.underlying t = some (.struct fs)) (hp : P.stoodInHeld t = false) (h : (Op.eqFields d xs ys fs.toList).run P w = .ok r w) : (Op.equalIn (d + 1) t (.agg xs) (.agg ys)).run P w = .ok r w := by
  have hf : P.fieldsOf t = fs := by simp [Program.fieldsOf, hu]
  rw [run_equalIn_struct (P := P) w d t xs ys (by rw [hf]; exact hu) hp, hf]; exact h
end
end Go.Proofs.YtdlekcdedahbhaaW.PrintWords
namespace Go.Proofs.Ytdlekcdedahbhaa
open Go.RowKit Go.Shelf Go.Proofs.YtdlekcdedahbhaaW.PrintWords
set_option linter.unusedVariables false
set_option linter.unusedSimpArgs false
theorem eq_due (d : Nat) (w : World) (a b x y : Int) : (Op.equalIn (d + 2) 58 (.agg #[.int .i64 a, .int .i64 b]) (.agg #[.int .i64 x, .int .i64 y])).run Try.prog w = .ok (a == x && b == y) w := by
  refine eqA_of Try.underlying58 sqF ?_; refine eqf_cons (by rfl) (by go_simp; rfl) (by go_simp; rfl) (by go_simp) ?_; exact eqf_last (by rfl) (by go_simp; rfl) (by go_simp; rfl) (by go_simp)
def keyV (a b : Int) : Value := .agg #[.int .i64 a, .int .i64 b]
open Classical in
noncomputable def findL (a b : Int) : List MapEntry → Nat → Option (Nat × Value)
  | [], _ => none
  | e :: es, i => if e.key = keyV a b then some (i, e.val) else findL a b es (i + 1)
def AllF (f : Int → Int → Int) (es : List MapEntry) : Prop := ∀ e ∈ es, ∃ a b, e.key = keyV a b ∧ e.val = .int .i64 (f a b)
theorem keyV_inj {a b x y : Int} (h : keyV a b = keyV x y) : a = x ∧ b = y := by
  simp only [keyV, Value.agg.injEq] at h
  simpa using h
theorem findAsking_run (f : Int → Int → Int) (a b : Int) (w : World) : ∀ (es : List MapEntry) (i : Nat), AllF f es → (Instr.findAsking 58 (keyV a b) es i).run Try.prog w = .ok (findL a b es i) w
  | [], i, _ => rfl
  | e :: es, i, h => by
    obtain ⟨x, y, hk, hv⟩ := h e (List.mem_cons_self ..); have ih := findAsking_run f a b w es (i + 1) (fun e' he' => h e' (List.mem_cons_of_mem _ he'))
    have he : (Op.equal 58 (keyV a b) e.key).run Try.prog w = .ok (a == x && b == y) w := by
      rw [hk]; exact eq_due 9998 w a b x y
    have hd : (e.key = keyV a b) ↔ (a == x && b == y) = true := by
      rw [hk]
      constructor
      · intro h; obtain ⟨rfl, rfl⟩ := keyV_inj h; simp
      · intro h; simp at h; rw [h.1, h.2]
    simp only [Instr.findAsking, findL]
    cases hc : (a == x && b == y)
    · rw [hc] at he
      rw [if_neg (by rw [hd, hc]; simp)]
      simp [go_sem, he, ih]
    · rw [hc] at he
      rw [if_pos (hd.2 hc)]
      simp [go_sem, he]
theorem findKey_run (f : Int → Int → Int) (a b : Int) (w : World) (es : List MapEntry) (h : AllF f es) : (Instr.findKey 58 (keyV a b) es).run Try.prog w = .ok (findL a b es 0) w := by
  have hn : ∀ es i, Instr.findNow (.struct #[]) (keyV a b) es i = if es = [] then some none else none := by
    intro es i
    cases es <;> simp [Instr.findNow, Instr.sameNow, keyV]
  have hu := Try.underlying58
  cases es with
  | nil => simp [Instr.findKey, go_sem, run_underlying hu, Instr.findNow, findL]
  | cons e es =>
    simp [Instr.findKey, go_sem, run_underlying hu, Instr.findNow, Instr.sameNow, keyV]
    exact findAsking_run f a b w (e :: es) 0 h
theorem findL_spec (f : Int → Int → Int) (a b : Int) : ∀ (es : List MapEntry) (i : Nat), AllF f es → findL a b es i = none ∨ ∃ j e, findL a b es i = some (i + j, .int .i64 (f a b)) ∧ es[j]? = some e ∧ e.key = keyV a b
  | [], i, _ => .inl rfl
  | e :: es, i, h => by
    obtain ⟨x, y, hk, hv⟩ := h e (List.mem_cons_self ..)
    by_cases hc : e.key = keyV a b
    · refine .inr ⟨0, e, ?_, rfl, hc⟩
      rw [hk] at hc; obtain ⟨rfl, rfl⟩ := keyV_inj hc
      simp [findL, hk, hv]
    · rcases findL_spec f a b es (i + 1) (fun e' he' => h e' (List.mem_cons_of_mem _ he')) with h1 | ⟨j, e1, h1, h2, h3⟩
      · exact .inl (by simp [findL, hc, h1])
      · exact .inr ⟨j + 1, e1, by simp [findL, hc, h1]; omega, by simpa using h2, h3⟩
theorem checkKey_due2 (em : Bool) (n : Nat) (a b : Int) (w : World) : (Instr.checkKey em (n + 2) 58 (keyV a b)).run Try.prog w = .ok () w := by
  have hu := Try.underlying58; have hi := Try.underlying3
  have h1 : ∀ (x : Int), (Instr.checkKey em (n + 1) 3 (.int .i64 x)).run Try.prog w = .ok () w := fun x => by simp [Instr.checkKey, go_sem, run_underlying hi]
  have h2 : ∀ (w : World) (x y : Int), (part 3 #[.int .i64 x, .int .i64 y] 0).run Try.prog w = .ok (.int .i64 x) w := fun w x y => by go_simp
  have h3 : ∀ (w : World) (x y : Int), (part 3 #[.int .i64 x, .int .i64 y] 1).run Try.prog w = .ok (.int .i64 y) w := fun w x y => by go_simp
  rw [Instr.checkKey]
  simp [go_sem, run_underlying hu, keyV, h1, h2, h3]
theorem checkKey_due (em : Bool) (a b : Int) (w : World) : (Instr.checkKey em 10000 58 (keyV a b)).run Try.prog w = .ok () w := checkKey_due2 em 9998 a b w
def MC (f : Int → Int → Int) (w : World) (r : Nat) : Prop := ∃ es clock, w.heap[r]? = some (.map es clock) ∧ AllF f es.toList ∧ (∀ a b, (∀ e ∈ es.toList, e.key ≠ keyV a b) → f a b = 0) ∧ (∀ e ∈ es.toList, e.born < clock) ∧ (es.toList.map (·.born)).Nodup ∧ (es.toList.map (·.key)).Nodup
theorem MC.lt {f w r} (h : MC f w r) : r < w.heap.size := by
  obtain ⟨es, clock, h1, _⟩ := h; exact (Array.getElem?_eq_some_iff.1 h1).1
theorem MC.up {f w r w'} (h : MC f w r) (hu : Up w w') : MC f w' r := by
  have hl := h.lt; obtain ⟨es, clock, h1, h2⟩ := h; exact ⟨es, clock, (hu.block r hl).trans h1, h2⟩
theorem MC.new (w : World) : MC (fun _ _ => 0) (w.alloc (.map #[] 0)) w.heap.size :=
  ⟨#[], 0, World.alloc_heap_new w _, fun e he => by simp at he, fun _ _ _ => rfl, fun e he => by simp at he, by simp, by simp⟩
theorem findL_none (a b : Int) : ∀ (es : List MapEntry) (i : Nat), findL a b es i = none → ∀ e ∈ es, e.key ≠ keyV a b
  | [], _, _, e, he => by simp at he
  | x :: es, i, h, e, he => by
    simp only [findL] at h
    split at h
    · cases h
    · rename_i hne
      rcases List.mem_cons.1 he with rfl | he
      · exact hne
      · exact findL_none a b es (i + 1) h e he
theorem mc_lookup (f : Int → Int → Int) (a b : Int) (w : World) (r : Nat) (h : MC f w r) :
    (Instr.lookup 139 (.map (some r)) (keyV a b) false).run Try.prog w = .ok (.int .i64 (f a b)) w := by
  obtain ⟨es, clock, h1, h2, h3, _⟩ := h; have hu := Try.underlying139
  have hz : ∀ w, (zeroValue 3).run Try.prog w = .ok (.int .i64 0) w := by intro w; kernel_rfl
  have hg : ∀ w : World, w.heap[r]? = some (.map es clock) → (getObj r).run Try.prog w = .ok (.map es clock) w := fun w h => run_getObj_map w r es clock h
  rcases findL_spec f a b es.toList 0 h2 with h4 | ⟨j, e, h4, h5, h6⟩
  · have h0 := h3 a b (findL_none a b _ _ h4)
    simp [Instr.lookup, go_sem, run_underlying hu, hg w h1, checkKey_due, findKey_run f a b w _ h2, h4, hz, h0]
  · simp [Instr.lookup, go_sem, run_underlying hu, hg w h1, checkKey_due, findKey_run f a b w _ h2, h4, hz]
def updF (f : Int → Int → Int) (a b v : Int) : Int → Int → Int := fun x y => if x = a ∧ y = b then v else f x y
theorem mc_entry (f : Int → Int → Int) (a b : Int) (w : World) (r : Nat) (h : MC f w r) :
    ∃ (w1 : World) (st : Int), (Instr.mapEntry 139 (.map (some r)) (keyV a b)).run Try.prog w = .ok (.tuple #[.int .i64 (f a b), .int .i64 st]) w1 ∧ MC f w1 r ∧ Wr r w w1 ∧ w1.heap.size = w.heap.size ∧
      ∀ v : Int, ∃ w2, (Instr.entryStore 139 (.map (some r)) (.int .i64 st) (.int .i64 v)).run Try.prog w1 = .ok () w2 ∧ MC (updF f a b v) w2 r ∧ Wr r w1 w2 ∧ w2.heap.size = w1.heap.size := by
  obtain ⟨es, clock, h1, h2, h3, h4, h5, h6⟩ := h; have hu := Try.underlying139
  have hz : ∀ w, (zeroValue 3).run Try.prog w = .ok (.int .i64 0) w := by intro w; kernel_rfl
  have hlt := (Array.getElem?_eq_some_iff.1 h1).1
  have hset : ∀ (W : World) (es0 : Array MapEntry) (c0 : Nat), W.heap[r]? = some (.map es0 c0) → ∀ es' cl', (setObj r (.map es' cl')).run Try.prog W = .ok () { W with heap := W.heap.setIfInBounds r (.map es' cl') } ∧ ({ W with heap := W.heap.setIfInBounds r (.map es' cl') } : World).heap[r]? = some (.map es' cl') ∧ Wr r W { W with heap := W.heap.setIfInBounds r (.map es' cl') } ∧ (W.heap.setIfInBounds r (.map es' cl')).size = W.heap.size := by
    intro W es0 c0 hW es' cl'; have hl := (Array.getElem?_eq_some_iff.1 hW).1; refine ⟨by simp [setObj, Sem.run, hW], by simp [Array.getElem?_setIfInBounds, hl], ⟨rfl, rfl, rfl, by simp, fun k hk => ?_⟩, by simp⟩
    simp [Array.getElem?_setIfInBounds, Ne.symm hk.2]
  -- the second half: the store at an entry that is there
  have hstore : ∀ (W : World) (es0 : Array MapEntry) (c0 i : Nat) (e0 : MapEntry), W.heap[r]? = some (.map es0 c0) → AllF f es0.toList → (∀ a b, (∀ e ∈ es0.toList, e.key ≠ keyV a b) → f a b = 0) → (∀ e ∈ es0.toList, e.born < c0) → (es0.toList.map (·.born)).Nodup → (es0.toList.map (·.key)).Nodup → es0.toList[i]? = some e0 → e0.key = keyV a b →
      ∀ v : Int, ∃ w2, (Instr.entryStore 139 (.map (some r)) (.int .i64 (e0.born : Int)) (.int .i64 v)).run Try.prog W = .ok () w2 ∧ MC (updF f a b v) w2 r ∧ Wr r W w2 ∧ w2.heap.size = W.heap.size := by
    intro W es0 c0 i e0 g1 g2 g3 g4 g5 g6 g7 g8 v; obtain ⟨k1, k2, k3, k4⟩ := hset W es0 c0 g1 (es0.modify i fun e => { e with val := .int .i64 v }) c0
    have hidx : es0.findIdx? (fun e => ((e.born : Nat) : Int) == ((e0.born : Nat) : Int)) = some i := by
      rw [WideElems.findIdx_arr]; exact WideElems.findIdx_born g5 g7
    have hml : (es0.modify i fun e => { e with val := .int .i64 v }).toList = es0.toList.set i { e0 with val := .int .i64 v } := by
      apply List.ext_getElem?
      intro j; rw [Array.getElem?_toList, Array.getElem?_modify, List.getElem?_set]; have hil := (List.getElem?_eq_some_iff.1 g7).1
      by_cases e : i = j
      · subst e
        rw [Array.getElem?_toList] at g7
        simp [g7]
        simpa using hil
      · simp [e]
    have hb : (es0.toList.set i { e0 with val := Value.int .i64 v }).map (·.born) = es0.toList.map (·.born) := by
      rw [List.map_set]; refine WideElems.set_self _ i _ ?_
      simp [g7]
    have hk : (es0.toList.set i { e0 with val := Value.int .i64 v }).map (·.key) = es0.toList.map (·.key) := by
      rw [List.map_set]; refine WideElems.set_self _ i _ ?_
      simp [g7]
    refine ⟨_, ?_, ⟨_, c0, k2, ?_, ?_, ?_, ?_, ?_⟩, k3, k4⟩
    · simp [Instr.entryStore, go_sem, run_getObj_map W r es0 c0 g1, hidx, k1]
    · rw [hml]
      intro e he; obtain ⟨j, hj⟩ := List.getElem?_of_mem he; rw [List.getElem?_set] at hj
      by_cases hij : i = j
      · subst hij
        rw [if_pos rfl] at hj
        split at hj
        · simp at hj
          subst hj; exact ⟨a, b, g8, by simp [updF]⟩
        · cases hj
      · rw [if_neg hij] at hj
        obtain ⟨x, y, hx, hy⟩ := g2 e (List.mem_of_getElem? hj); refine ⟨x, y, hx, ?_⟩
        have hne : ¬ (x = a ∧ y = b) := by
          rintro ⟨rfl, rfl⟩
          have q1 : (es0.toList.map (·.key))[i]? = some (keyV x y) := by simp [g7, g8]
          have q2 : (es0.toList.map (·.key))[j]? = some (keyV x y) := by simp [hj, hx]
          exact hij ((List.getElem?_inj (List.getElem?_eq_some_iff.1 q1).1 g6).1 (q1.trans q2.symm))
        rw [hy]
        simp [updF, hne]
    · rw [hml]
      intro x y hxy
      have hne : ¬ (x = a ∧ y = b) := by
        rintro ⟨rfl, rfl⟩; have hil := (List.getElem?_eq_some_iff.1 g7).1; refine hxy { e0 with val := .int .i64 v } (List.mem_of_getElem? (i := i) ?_) g8; rw [List.getElem?_set, if_pos rfl, if_pos hil]
      rw [updF, if_neg hne]
      refine g3 x y fun e he hke => ?_
      obtain ⟨j, hj⟩ := List.getElem?_of_mem he
      by_cases hij : i = j
      · subst hij
        rw [g7] at hj
        cases hj
        exact hne (keyV_inj (hke.symm.trans g8))
      · refine hxy e (List.mem_of_getElem? (i := j) ?_) hke
        rw [List.getElem?_set, if_neg hij, hj]
    · rw [hml]
      intro e he; obtain ⟨j, hj⟩ := List.getElem?_of_mem he; rw [List.getElem?_set] at hj
      by_cases hij : i = j
      · subst hij
        rw [if_pos rfl] at hj
        split at hj
        · simp at hj
          subst hj; exact g4 e0 (List.mem_of_getElem? g7)
        · cases hj
      · rw [if_neg hij] at hj
        exact g4 e (List.mem_of_getElem? hj)
    · rw [hml, hb]; exact g5
    · rw [hml, hk]; exact g6
  rcases findL_spec f a b es.toList 0 h2 with h7 | ⟨j, e, h7, h8, h9⟩
  · have h0 := h3 a b (findL_none a b _ _ h7)
    obtain ⟨k1, k2, k3, k4⟩ := hset w es clock h1 (es.push { key := keyV a b, val := .int .i64 0, born := clock }) (clock + 1)
    have m2 : AllF f (es.push { key := keyV a b, val := .int .i64 0, born := clock }).toList := by
      intro e he
      simp at he
      rcases he with he | rfl
      · exact h2 e (by simpa using he)
      · exact ⟨a, b, rfl, by simp [h0]⟩
    have m3 : ∀ x y, (∀ e ∈ (es.push { key := keyV a b, val := .int .i64 0, born := clock }).toList, e.key ≠ keyV x y) → f x y = 0 := fun x y hxy => h3 x y fun e he => hxy e (by simp; exact .inl (by simpa using he))
    have m4 : ∀ e ∈ (es.push { key := keyV a b, val := Value.int .i64 0, born := clock }).toList, e.born < clock + 1 := by
      intro e he
      simp at he
      rcases he with he | rfl
      · have := h4 e (by simpa using he); omega
      · simp
    have m5 : ((es.push { key := keyV a b, val := Value.int .i64 0, born := clock }).toList.map (·.born)).Nodup := by
      simp only [Array.toList_push, List.map_append, List.map_cons, List.map_nil]; refine List.nodup_append.2 ⟨h5, by simp, fun x hx y hy e => ?_⟩
      simp at hy
      obtain ⟨e1, he1, rfl⟩ := List.mem_map.1 hx; have := h4 e1 he1; omega
    have m6 : ((es.push { key := keyV a b, val := Value.int .i64 0, born := clock }).toList.map (·.key)).Nodup := by
      simp only [Array.toList_push, List.map_append, List.map_cons, List.map_nil]; refine List.nodup_append.2 ⟨h6, by simp, fun x hx y hy e => ?_⟩
      simp at hy
      obtain ⟨e1, he1, rfl⟩ := List.mem_map.1 hx; exact findL_none a b _ _ h7 e1 he1 (e.trans hy)
    refine ⟨_, (clock : Int), ?_, ⟨_, _, k2, m2, m3, m4, m5, m6⟩, k3, k4, fun v => hstore _ _ _ es.size { key := keyV a b, val := .int .i64 0, born := clock } k2 m2 m3 m4 m5 m6 (by simp) rfl v⟩
    simp [Instr.mapEntry, go_sem, run_underlying hu, run_getObj_map w r es clock h1, checkKey_due, findKey_run f a b w _ h2, h7, hz, k1, h0, goInt]
  · have hes : (es.modify j fun e => { e with key := keyV a b }) = es := by
      apply Array.ext_getElem?
      intro i; rw [Array.getElem?_modify]
      split
      · rename_i hij
        subst hij; rw [← Array.getElem?_toList, h8]
        simp [← h9]
      · rfl
    obtain ⟨k1, k2, k3, k4⟩ := hset w es clock h1 es clock
    have hst : ∀ w, (Instr.keyThatStays (keyV a b) (keyV a b)).run Try.prog w = .ok (keyV a b) w := fun w => by
      have : Instr.sameBits 10000 (keyV a b) (keyV a b) = true := by
        show Instr.sameBits (9999 + 1) (keyV a b) (keyV a b) = true
        simp [keyV, Instr.sameBits]
      simp [Instr.keyThatStays, this, go_sem]
    have h8a : es[j]? = some e := by rw [← Array.getElem?_toList]; exact h8
    refine ⟨_, (e.born : Int), ?_, ⟨_, _, k2, h2, h3, h4, h5, h6⟩, k3, k4, fun v => hstore _ _ _ j e k2 h2 h3 h4 h5 h6 h8 h9 v⟩
    simp [Instr.mapEntry, go_sem, run_underlying hu, run_getObj_map w r es clock h1, checkKey_due, findKey_run f a b w _ h2, h7, hz, h8a, h9, hst, hes, k1, goInt]
end Go.Proofs.Ytdlekcdedahbhaa
namespace Go.Proofs.Ytdlekcdedahbhaa
open Go.RowKit Go.Shelf Go.Proofs.YtdlekcdedahbhaaW.PrintWords
set_option linter.unusedVariables false
set_option linter.unusedSimpArgs false
theorem idx_Due_drop (p : Due → Bool) (l : List Due) (k : Nat) (h : k < l.length) : idxF p (l.drop k) k = if p (rdDue l k) then (k:Int) else idxF p (l.drop (k+1)) (k+1) := by
  rw [List.drop_eq_getElem_cons h, idxF]; simp [rdDue, List.getD_eq_getElem?_getD, h]
set_option maxRecDepth 100000 in
theorem index_Due (fv : FuncId) (cap : Array Value) (p : Due → Bool) (A : Option Addr) (c : Nat) (l : List Due) (w : World)
    (hr : Kd.C kDue w A l.length l) (hc : l.length ≤ c)
    (hE : ∀ (args : Array Value) (w : World), (callFunc fv args).run Try.prog w = .ok (.enter fv args) w)
    (hf : ∀ x W, Up w W → Calls Try.prog fv (#[.agg #[.int .i64 x.c, .int .i64 x.a]] ++ cap) W fun e W' => e = .returned (.bool (p x)) ∧ Up W W') :
    Calls Try.prog 89 #[.slice A l.length c, .func (.func fv) #[] cap] w fun e w' => e = .returned (.int .i64 (idxF p l 0)) ∧ Up w w' := by
  have HF := Aside0.mk hf; have HR := Aside0.mk hr; have hm := CF_len hr; clear hf hr
  go_enter Try.func89, Try.ntmps89
  go_wp2
  go_loopw [8] (fun i wr => ∃ k : Nat, k ≤ l.length ∧ i = .int .i64 k ∧ Aside0 (idxF p l 0 = idxF p (l.drop k) k) ∧ Aside0 (Up w wr)) (fun i _ => l.length - (intOf i).toNat)
  case atStart => exact ⟨0, Nat.zero_le _, rfl, ⟨rfl⟩, ⟨Up.refl _⟩⟩
  case round =>
    obtain ⟨k, hk, rfl, he, hb⟩ := hrel
    by_cases hlt : k < l.length
    · obtain ⟨ad, e, hx0, hx1⟩ := at_Due (C_up HR.out hb.out) k (by omega) (by omega)
      cases e
      have hu := Try.underlying58; simp only [Int.toNat_natCast] at hx0 hx1; have hcall := HF.out (rdDue l k) _ hb.out
      cases hp : p (rdDue l k)
      all_goals
        rw [hp] at hcall; have he2 := idx_Due_drop p l k hlt; rw [hp] at he2; have he3 := Aside0.mk (he.out.trans he2); clear hp he he2
        go_wp2_with fail
        refine hcall.mono ?_; clear hcall; rintro e w' ⟨rfl, hb'⟩; have hb2 := Aside0.mk (hb.out.then hb'); clear hb' hb
        go_wp2
      · go_roundw
        case rel => exact ⟨k+1, by omega, by go_num, ⟨by simpa using he3.out⟩, hb2⟩
        case measure => simp [intOf]; omega
      · go_ret
        exact ⟨by rw [he3.out]; rfl, hb2.out⟩
    · go_wp2
      go_ret
      exact ⟨by rw [he.out, List.drop_eq_nil_of_le (by omega)]; rfl, hb.out⟩
theorem contains_Due (fv : FuncId) (cap : Array Value) (p : Due → Bool) (A : Option Addr) (c : Nat) (l : List Due) (w : World)
    (hr : Kd.C kDue w A l.length l) (hc : l.length ≤ c)
    (hE : ∀ (args : Array Value) (w : World), (callFunc fv args).run Try.prog w = .ok (.enter fv args) w)
    (hf : ∀ x W, Up w W → Calls Try.prog fv (#[.agg #[.int .i64 x.c, .int .i64 x.a]] ++ cap) W fun e W' => e = .returned (.bool (p x)) ∧ Up W W') :
    Calls Try.prog 72 #[.slice A l.length c, .func (.func fv) #[] cap] w fun e w' => e = .returned (.bool (l.any p)) ∧ Up w w' := by
  have hcall := index_Due fv cap p A c l w hr hc hE hf; clear hr hf; have HD : Aside0 (decide (0 ≤ idxF p l 0) = l.any p) := ⟨idxF_any p l⟩; clear hE
  go_enter Try.func72, Try.ntmps72
  go_wp2_with fail
  refine hcall.mono ?_; clear hcall; rintro e w' ⟨rfl, hb'⟩; have hb2 := Aside0.mk hb'; clear hb'
  go_wp2
  go_ret
  exact ⟨ret_bool HD.out, hb2.out⟩
def dueB (x : Due) : Bool := inB 1 5 [x.c] && inB 0 100 [x.a]
theorem booked1 (x : Due) (w : World) : Calls Try.prog 71 #[.agg #[.int .i64 x.c, .int .i64 x.a]] w fun e w' => e = .returned (.bool (!dueB x)) ∧ Up w w' := by
  go_enter Try.func71, Try.ntmps71
  go_wp2_with (go_at_call 58; (with_reducible refine (withinL1 _ _ _ _ _ (by simp)).mono ?_); rintro e w' ⟨rfl, hb⟩; have hbA := Aside0.mk hb; obtain ⟨hcA, hfA⟩ := hb.old; have hz := hb.le; (try simp at hz); (try have hz0 : w.heap.size < w'.heap.size := by omega); (try have hzb : w.heap.size + 1 < w'.heap.size := by omega); (try have hzc : w.heap.size + 2 < w'.heap.size := by omega); clear hb)
  all_goals
    go_ret
    exact ⟨ret_bool (by unfold dueB; simp_all), upA⟩
theorem containsDue (A : Option Addr) (c : Nat) (l : List Due) (w : World) (hr : Kd.C kDue w A l.length l) (hc : l.length ≤ c) :
    Calls Try.prog 72 #[.slice A l.length c, .func (.func 71) #[] #[]] w fun e w' => e = .returned (.bool (l.any fun x => !dueB x)) ∧ Up w w' :=
  contains_Due 71 #[] (fun x => !dueB x) _ _ l _ hr hc (by intro a w; kernel_rfl) (by intro x W hb; exact booked1 _ _)
abbrev Cnt := Int → Int → Int
def cntD (ds : List Due) : Cnt := fun a b => ((ds.filter fun d => decide (d.c = a ∧ d.a = b)).length : Int)
theorem cntD_take (ds : List Due) (k : Nat) (h : k < ds.length) : cntD (ds.take (k + 1)) = updF (cntD (ds.take k)) (rdDue ds k).c (rdDue ds k).a (cntD (ds.take k) (rdDue ds k).c (rdDue ds k).a + 1) := by
  have e : ds[k] = rdDue ds k := by simp [rdDue, h]
  funext a b
  unfold cntD updF
  rw [List.take_succ_eq_append_getElem h, e, List.filter_append, List.length_append]
  by_cases hc : (rdDue ds k).c = a ∧ (rdDue ds k).a = b
  · obtain ⟨rfl, rfl⟩ := hc
    simp
  · have hc2 : ¬ (a = (rdDue ds k).c ∧ b = (rdDue ds k).a) := fun h => hc ⟨h.1.symm, h.2.symm⟩
    rw [if_neg hc2]; simp only [List.filter_cons, List.filter_nil]; rw [if_neg (by simpa using hc)]
    simp
theorem cntD_bd (ds : List Due) (a b : Int) : 0 ≤ cntD ds a b ∧ cntD ds a b ≤ ds.length := by
  unfold cntD
  have := List.length_filter_le (fun d : Due => decide (d.c = a ∧ d.a = b)) ds; omega
structure BkS where
  g : Cnt
  x : List Int
def bookStep (o : Cnt) (s : BkS) (i : Nat) (x : Ent) : BkS := if x.t = 0 ∧ s.g x.f x.a < o x.f x.a then ⟨updF s.g x.f x.a (s.g x.f x.a + 1), s.x⟩ else ⟨s.g, s.x ++ [(i : Int)]⟩
def bookTo (o : Cnt) (l : List Ent) : Nat → BkS
  | 0 => ⟨fun _ _ => 0, []⟩
  | k + 1 => bookStep o (bookTo o l k) k (rdEnt l k)
def missStep (s : BkS) (i : Nat) (d : Due) : BkS := ⟨updF s.g d.c d.a (s.g d.c d.a - 1), if s.g d.c d.a - 1 < 0 then s.x ++ [(i : Int)] else s.x⟩
def missTo (g : Cnt) (ds : List Due) : Nat → BkS
  | 0 => ⟨g, []⟩
  | k + 1 => missStep (missTo g ds k) k (rdDue ds k)
theorem bookTo_bd (o : Cnt) (l : List Ent) : ∀ k : Nat, (∀ a b, 0 ≤ (bookTo o l k).g a b ∧ (bookTo o l k).g a b ≤ k) ∧ (bookTo o l k).x.length ≤ k
  | 0 => by simp [bookTo]
  | k + 1 => by
    obtain ⟨h1, h2⟩ := bookTo_bd o l k; rw [bookTo, bookStep]
    split
    · refine ⟨fun a b => ?_, by simp only; omega⟩
      have h3 := h1 a b; have h4 := h1 (rdEnt l k).f (rdEnt l k).a; simp only [updF]
      split <;> omega
    · refine ⟨fun a b => ?_, by simp; omega⟩
      have h3 := h1 a b; simp only; omega
theorem missTo_bd (g : Cnt) (m : Nat) (hg : ∀ a b, 0 ≤ g a b ∧ g a b ≤ m) (ds : List Due) : ∀ k : Nat, (∀ a b, -(k : Int) ≤ (missTo g ds k).g a b ∧ (missTo g ds k).g a b ≤ m) ∧ (missTo g ds k).x.length ≤ k
  | 0 => by simpa [missTo] using hg
  | k + 1 => by
    obtain ⟨h1, h2⟩ := missTo_bd g m hg ds k; rw [missTo, missStep]; refine ⟨fun a b => ?_, by simp only; split <;> (try simp) <;> omega⟩; have h3 := h1 a b; have h4 := h1 (rdDue ds k).c (rdDue ds k).a; simp only [updF]
    split <;> omega
def bookE (ds : List Due) (l : List Ent) : Int := if readE l = 0 then (if ds.length > 12 then 8 else if ds.any (fun x => !dueB x) then 3 else 0) else readE l
def bookS (ds : List Due) (l : List Ent) : BkS := bookTo (cntD ds) l l.length
def bookX (ds : List Due) (l : List Ent) : List Int := if bookE ds l = 0 then (bookS ds l).x else []
def bookM (ds : List Due) (l : List Ent) : List Int := if bookE ds l = 0 then (missTo (bookS ds l).g ds ds.length).x else []
theorem own_mc {w w' : World} {base e size n : Nat} {v : Value} {xs : List Value} {r : Nat} {f : Cnt} (h : w.ownsRow base e size v n xs) (hB : MC f w r) (hw : Wr r w w') : w'.ownsRow base e size v n xs := by
  rcases h.2 with h0 | ⟨g, cap, cur, hv, hb, hg, h1, h2, h3, h4⟩
  · exact ⟨h.1, .inl h0⟩
  · refine ⟨h.1, .inr ⟨g, cap, cur, hv, hb, ?_, h1, h2, h3, h4⟩⟩
    have hne : g ≠ r := by
      rintro rfl; obtain ⟨es, cl, h5, _⟩ := hB; rw [h5] at hg
      cases hg
    exact (hw.block g ⟨(Array.getElem?_eq_some_iff.1 hg).1, hne⟩).trans hg
theorem MC.wr {f w w' r r'} (h : MC f w r) (hne : r ≠ r') (hw : Wr r' w w') : MC f w' r := by
  have hl := h.lt; obtain ⟨es, clock, h1, h2⟩ := h; exact ⟨es, clock, (hw.block r ⟨hl, hne⟩).trans h1, h2⟩
theorem MC.below {f w w' r B} (h : MC f w r) (hr : r < B) (hb : Below B w w') : MC f w' r := by
  obtain ⟨es, clock, h1, h2⟩ := h; exact ⟨es, clock, (hb.block r hr).trans h1, h2⟩
theorem Wr.then2 {r : Nat} {a b c : World} (h : Wr r a b) (k : Below a.heap.size b c) : Wr r a c :=
  ⟨k.os.trans h.os, k.tape.trans h.tape, k.output.trans h.output, Nat.le_trans h.size k.size, fun i hi => (k.block i hi.1).trans (h.block i hi)⟩
set_option maxRecDepth 100000 in
set_option maxHeartbeats 4000000 in
theorem booked_ok (A : Option Addr) (c : Nat) (ds : List Due) (A2 : Option Addr) (c2 : Nat) (l : List Ent) (w : World) (hr : Kd.C kDue w A ds.length ds) (hc : ds.length ≤ c) (hr2 : Kd.C kEnt w A2 l.length l) (hc2 : l.length ≤ c2) (h0 : bookE ds l = 0) :
    Calls Try.prog 33 #[.slice A ds.length c, .slice A2 l.length c2] w fun e w' => ∃ v u, e = .returned (.tuple #[v, u, .int .i64 0]) ∧ w'.ownsRow w.heap.size 3 1 v (missTo (bookS ds l).g ds ds.length).x.length (nums .i64 (missTo (bookS ds l).g ds ds.length).x) ∧ w'.ownsRow w.heap.size 3 1 u (bookS ds l).x.length (nums .i64 (bookS ds l).x) ∧ Up w w' ∧ (∀ k, v.ownBlock = some k → u.ownBlock ≠ some k) := by
  have hm := CF_len hr; have hm2 := CF_len hr2; have HR := Aside0.mk hr; have HR2 := Aside0.mk hr2
  obtain ⟨h1, h2, h3, h4⟩ : readE l = 0 ∧ ds.length ≤ 12 ∧ (ds.any fun x => !dueB x) = false ∧ l.length ≤ 12 := by
    unfold bookE at h0
    by_cases h1 : readE l = 0
    · rw [if_pos h1] at h0
      by_cases h2 : ds.length > 12
      · simp [h2] at h0
      · rw [if_neg h2] at h0
        cases h3 : (ds.any fun x => !dueB x)
        · exact ⟨h1, by omega, rfl, (chk_of l (read_of l h1).1).1⟩
        · rw [h3] at h0; simp at h0
    · rw [if_neg h1] at h0
      exact absurd h0 h1
  have hb1 : (readE l != 0) = false := by simp [h1]
  have H3 := Aside0.mk h3; have hmm := @run_makeMap Try.prog; clear hr hr2 h0 h1 h3
  go_enter Try.func33, Try.ntmps33
  go_wp2_with (first | (go_at_call 69; (with_reducible refine (read_ _ _ _ _ (C_up HR2.out upA) hc2).mono ?_); rintro e w' ⟨rfl, hb⟩; have hbA := Aside0.mk hb; obtain ⟨hcA, hfA⟩ := hb.old; have hz := hb.le; (try simp at hz); (try have hz0 : w.heap.size < w'.heap.size := by omega); (try have hzb : w.heap.size + 1 < w'.heap.size := by omega); (try have hzc : w.heap.size + 2 < w'.heap.size := by omega); clear hb) | (go_at_call 72; (with_reducible refine ((H3.out ▸ containsDue _ _ _ _ (C_up HR.out upA) hc)).mono ?_); rintro e w' ⟨rfl, hb⟩; have hbA := Aside0.mk hb; obtain ⟨hcA, hfA⟩ := hb.old; have hz := hb.le; (try simp at hz); (try have hz0 : w.heap.size < w'.heap.size := by omega); (try have hzb : w.heap.size + 1 < w'.heap.size := by omega); (try have hzc : w.heap.size + 2 < w'.heap.size := by omega); clear hb))
  have HW0 : Aside0 (Up w (w'.alloc (.map #[] 0))) := ⟨upA⟩; have hMC0 := MC.new w'; obtain ⟨r1, hr1⟩ : ∃ r1, w'.heap.size = r1 := ⟨_, rfl⟩; rw [hr1] at hMC0
  have hr1w : w.heap.size ≤ r1 := by omega
  have HM0 := Aside0.mk hMC0; clear hMC0
  repeat clear hcA hfA
  rw [hr1]
  go_loopw [35] (fun i wr => ∃ k : Nat, k ≤ ds.length ∧ i = .int .i64 k ∧ Aside0 (MC (cntD (ds.take k)) wr r1) ∧ Aside0 (Up w wr)) (fun i _ => ds.length - (intOf i).toNat)
  case atStart => exact ⟨0, Nat.zero_le _, rfl, HM0, HW0⟩
  case round =>
    obtain ⟨k, hk, rfl, hMC, hU⟩ := hrel
    by_cases hlt : k < ds.length
    · obtain ⟨ad, e, hx0, hx1⟩ := at_Due (C_up HR.out hU.out) k (by omega) (by omega)
      cases e
      simp only [Int.toNat_natCast] at hx0 hx1
      have hi0 : (0 : Int) ≤ (k : Int) := by omega
      have hi1 : (k : Int) < (ds.length : Int) := by omega
      have hT := Aside0.mk (cntD_take ds k hlt); have hbd := cntD_bd (ds.take k) (rdDue ds k).c (rdDue ds k).a; rw [List.length_take] at hbd; have hmcw : MC (cntD (ds.take k)) (wr.alloc (.cells #[.int .i64 (rdDue ds k).c, .int .i64 (rdDue ds k).a] 58)).drew r1 := (hMC.out.up ((Up.refl wr).alloc _)).up ((Up.refl _).drew)
      generalize cntD (ds.take k) = f at *
      have hlk := mc_lookup f (rdDue ds k).c (rdDue ds k).a _ r1 hmcw; obtain ⟨w1, st, hen, hm1, hwr1, hsz1, hst⟩ := mc_entry f (rdDue ds k).c (rdDue ds k).a _ r1 hmcw; obtain ⟨w2, hst2, hm2b, hwr2, hsz2⟩ := hst (f (rdDue ds k).c (rdDue ds k).a + 1); have hlk1 := mc_lookup f (rdDue ds k).c (rdDue ds k).a _ r1 hm1; have HWR := Aside0.mk (((Wr.ofUp (r := r1) (((Up.refl wr).alloc (.cells #[.int .i64 (rdDue ds k).c, .int .i64 (rdDue ds k).a] 58)).drew)).then hwr1).then hwr2); have HM2 := Aside0.mk hm2b; have hwv : IntKind.i64.wrap (f (rdDue ds k).c (rdDue ds k).a + 1) = f (rdDue ds k).c (rdDue ds k).a + 1 := IntWalk.i64_in _ (by omega); have hu := Try.underlying58; clear hmcw hm1 hm2b hwr1 hwr2 hst hsz1 hsz2; simp only [keyV] at hlk hlk1 hen
      go_wp2_with fail
      go_region
      go_wp2_with fail
      go_roundw
      case rel => exact ⟨k + 1, by omega, by go_num, ⟨by rw [hT.out]; exact HM2.out⟩, ⟨HWR.out.up hr1w hU.out⟩⟩
      case measure => simp [intOf]; omega
    · obtain rfl : k = ds.length := by omega
      have hMC2 := hMC.out; rw [List.take_length] at hMC2; have HM1 := Aside0.mk hMC2; have hz1 := hMC2.lt; clear hMC2 hMC
      go_wp2_with fail
      have hMB := MC.new wr; have HM1b := Aside0.mk (HM1.out.up ((Up.refl wr).alloc (.map #[] 0))); obtain ⟨r2, hr2⟩ : ∃ r2, wr.heap.size = r2 := ⟨_, rfl⟩; rw [hr2] at hMB hz1; obtain ⟨wb, hwb⟩ : ∃ wb, wb = wr.alloc (.map #[] 0) := ⟨_, rfl⟩
      have hzb : r2 < wb.heap.size := by rw [hwb]; simp; omega
      rw [← hwb] at hMB HM1b; have HUB : Aside0 (Up w wb) := ⟨by rw [hwb]; exact hU.out.alloc _⟩; have HMB := Aside0.mk hMB
      have hr2w : w.heap.size ≤ r2 := by omega
      clear hMB hr1; rw [← hwb, hr2]; clear hwb hr2 hU
      go_loopw [5, 49] (fun v5 i wr => ∃ (k : Nat) (v : Value), k ≤ l.length ∧ v5 = v ∧ i = .int .i64 k ∧ Aside0 (MC (bookTo (cntD ds) l k).g wr r2) ∧ Aside0 (wr.ownsRow wb.heap.size 3 1 v (bookTo (cntD ds) l k).x.length (nums .i64 (bookTo (cntD ds) l k).x)) ∧ Aside0 (Wr r2 wb wr)) (fun _ i _ => l.length - (intOf i).toNat)
      case atStart => exact ⟨0, _, Nat.zero_le _, rfl, rfl, HMB, ⟨⟨rfl, .inl ⟨rfl, rfl⟩⟩⟩, ⟨Wr.refl _ _⟩⟩
      case round =>
        obtain ⟨k, v, hk, rfl, rfl, hMC, hO, hW⟩ := hrel; have hUw : Up w wr := hW.out.up hr2w HUB.out; have HM1r := Aside0.mk (HM1b.out.wr (by omega) hW.out)
        by_cases hlt : k < l.length
        · obtain ⟨ad, e, hx0, hx1, hx2⟩ := at_Ent (C_up HR2.out hUw) k (by omega) (by omega)
          cases e
          simp only [Int.toNat_natCast] at hx0 hx1 hx2
          have hi0 : (0 : Int) ≤ (k : Int) := by omega
          have hi1 : (k : Int) < (l.length : Int) := by omega
          have hbb := bookTo_bd (cntD ds) l k; have hcb := cntD_bd ds (rdEnt l k).f (rdEnt l k).a; have HST : Aside0 (bookTo (cntD ds) l (k + 1) = bookStep (cntD ds) (bookTo (cntD ds) l k) k (rdEnt l k)) := ⟨rfl⟩; have hxl := hbb.2; have hgb := hbb.1 (rdEnt l k).f (rdEnt l k).a; clear hbb; obtain ⟨⟨f, xs⟩, hst0⟩ : ∃ s, s = bookTo (cntD ds) l k := ⟨_, rfl⟩; rw [← hst0] at hMC hO HST hxl hgb; simp only at hMC hO hxl hgb; clear hst0; have hz2 := hMC.out.lt; have hwz := hUw.le; obtain ⟨W, hWe⟩ : ∃ W, W = (wr.alloc (.cells #[.int .i64 (rdEnt l k).f, .int .i64 (rdEnt l k).t, .int .i64 (rdEnt l k).a] 101)).alloc (.cells #[.int .i64 (rdEnt l k).f, .int .i64 (rdEnt l k).a] 58) := ⟨_, rfl⟩
          have hUW : Up wr W := by rw [hWe]; exact ((Up.refl wr).alloc _).alloc _
          have hq1 : ∀ o, W.cell? ⟨wr.heap.size, o, none⟩ = (#[.int .i64 (rdEnt l k).f, .int .i64 (rdEnt l k).t, .int .i64 (rdEnt l k).a] : Array Value)[o]? := fun o => by rw [hWe]; simp [go_sem]
          have hq2 : ∀ o, W.cell? ⟨wr.heap.size + 1, o, none⟩ = (#[.int .i64 (rdEnt l k).f, .int .i64 (rdEnt l k).a] : Array Value)[o]? := fun o => by rw [hWe]; simp [go_sem]
          have hlk2 : ∀ n, (Instr.lookup 139 (.map (some r2)) (.agg #[.int .i64 (rdEnt l k).f, .int .i64 (rdEnt l k).a]) false).run Try.prog (W.drewN n) = .ok (.int .i64 (f (rdEnt l k).f (rdEnt l k).a)) (W.drewN n) := fun n => mc_lookup f _ _ _ r2 (hMC.out.up (hUW.drewN n))
          have hlk3 : ∀ n, (Instr.lookup 139 (.map (some r1)) (.agg #[.int .i64 (rdEnt l k).f, .int .i64 (rdEnt l k).a]) false).run Try.prog (W.drewN n) = .ok (.int .i64 (cntD ds (rdEnt l k).f (rdEnt l k).a)) (W.drewN n) := fun n => mc_lookup (cntD ds) _ _ _ r1 (HM1r.out.up (hUW.drewN n))
          have hu := Try.underlying58; have hu2 := Try.underlying101
          by_cases ht : (rdEnt l k).t = 0
          · have htb : ((rdEnt l k).t == 0) = true := by simp [ht]
            by_cases hlt2 : f (rdEnt l k).f (rdEnt l k).a < cntD ds (rdEnt l k).f (rdEnt l k).a
            · have hS : bookStep (cntD ds) ⟨f, xs⟩ k (rdEnt l k) = ⟨updF f (rdEnt l k).f (rdEnt l k).a (f (rdEnt l k).f (rdEnt l k).a + 1), xs⟩ := by simp [bookStep, ht, hlt2]
              have HS := Aside0.mk (HST.out.trans hS)
              have hdl : decide (f (rdEnt l k).f (rdEnt l k).a < cntD ds (rdEnt l k).f (rdEnt l k).a) = true := by simpa using hlt2
              clear hS HST ht hlt2
              go_wp2_with fail
              rw [← hWe]; have HUW := Aside0.mk hUW; clear hWe hUW
              go_quiet (fail)
              have HUX := Aside0.mk (HUW.out.drewN nq); have hq3 : ∀ o, (W.drewN nq).cell? ⟨wr.heap.size + 1, o, none⟩ = (#[.int .i64 (rdEnt l k).f, .int .i64 (rdEnt l k).a] : Array Value)[o]? := hq2
              generalize W.drewN nq = X at *
              clear hlk2 hlk3 hq1 hq2; have hmx := hMC.out.up HUX.out; have hwv : IntKind.i64.wrap (f (rdEnt l k).f (rdEnt l k).a + 1) = f (rdEnt l k).f (rdEnt l k).a + 1 := IntWalk.i64_in _ (by omega); have hmcw : MC (f) (X).drew r2 := MC.up hmx ((Up.refl _).drew); have hlk := mc_lookup (f) ((rdEnt l k).f) ((rdEnt l k).a) _ r2 hmcw; obtain ⟨w1, st, hen, hm1, hwr1, hsz1, hst⟩ := mc_entry (f) ((rdEnt l k).f) ((rdEnt l k).a) _ r2 hmcw; obtain ⟨w2, hst2, hm2b, hwr2, hsz2⟩ := hst (f (rdEnt l k).f (rdEnt l k).a + 1); have hlk1 := mc_lookup (f) ((rdEnt l k).f) ((rdEnt l k).a) _ r2 hm1; have HWX : Aside0 (Wr r2 (X) w2) := ⟨((Wr.ofUp (r := r2) ((Up.refl _).drew)).then hwr1).then hwr2⟩; have HM2 := Aside0.mk hm2b; clear hmcw hm1 hm2b hwr1 hwr2 hst hsz1 hsz2; simp only [keyV] at hlk hlk1 hen; have HMX := Aside0.mk hmx; clear hmx
              go_wp2_with fail
              go_region
              go_wp2_with fail
              go_roundw
              case rel => exact ⟨k + 1, _, by omega, rfl, by go_num, ⟨by rw [HS.out]; exact HM2.out⟩, ⟨by rw [HS.out]; exact own_mc (own_up hO.out HUX.out) HMX.out HWX.out⟩, ⟨(hW.out.then (Wr.ofUp HUX.out)).then HWX.out⟩⟩
              case measure => simp [intOf]; omega
            · have hS : bookStep (cntD ds) ⟨f, xs⟩ k (rdEnt l k) = ⟨f, xs ++ [(k : Int)]⟩ := by simp [bookStep, hlt2]
              have HS := Aside0.mk (HST.out.trans hS)
              have hdl : decide (f (rdEnt l k).f (rdEnt l k).a < cntD ds (rdEnt l k).f (rdEnt l k).a) = false := by simpa using hlt2
              clear hS HST ht hlt2
              go_wp2_with fail
              rw [← hWe]; have HUW := Aside0.mk hUW; clear hWe hUW
              go_quiet (fail)
              have HBX : Aside0 (Below wb.heap.size wr (W.drewN nq)) := ⟨(HUW.out.drewN nq).mono (by have := hW.out.size; omega)⟩; have HOX := Aside0.mk (own_up hO.out (HUW.out.drewN nq))
              have hzx : wb.heap.size ≤ (W.drewN nq).heap.size := by have h8 := (HUW.out.drewN nq).le; have h7 := hW.out.size; omega
              generalize W.drewN nq = X at *
              clear hlk2 hlk3 hq1 hq2 hx0 hx1 hx2
              go_wp2_with (at_builtin; go_loud (refine print_append_cells (w0 := wr) wb.heap.size rfl _ _ 35 3 _ 1 8 rfl Try.underlying35 info_int rfl (by decide) (by decide) u5 xs.length _ [.int .i64 (k : Int)] rfl (by first | rfl | go_simp) rfl ?q1 HOX.out HBX.out hzx ?q2 ?_))
              case q1 => intro u hu; simp at hu; subst hu; rfl
              case q2 => omega
              intro v3 w3 hown3 hb3 hgrow3 hat3; have HO3 : Aside0 (w3.ownsRow wb.heap.size 3 1 v3 (xs ++ [(k : Int)]).length (nums .i64 (xs ++ [(k : Int)]))) := ⟨by simpa [nums] using hown3⟩; have HB3 := Aside0.mk hb3; clear hown3 hb3 hgrow3 hat3
              go_wp2_with fail
              go_roundw
              case rel => exact ⟨k + 1, v3, by omega, rfl, by go_num, ⟨by rw [HS.out]; exact hMC.out.below hzb HB3.out⟩, ⟨by rw [HS.out]; exact HO3.out⟩, ⟨hW.out.then2 HB3.out⟩⟩
              case measure => simp [intOf]; omega
          · have htb : ((rdEnt l k).t == 0) = false := by simp [ht]
            have hS : bookStep (cntD ds) ⟨f, xs⟩ k (rdEnt l k) = ⟨f, xs ++ [(k : Int)]⟩ := by simp [bookStep, ht]
            have HS := Aside0.mk (HST.out.trans hS); clear hS HST ht
            skip
            · go_wp2_with fail
              rw [← hWe]; have HUW := Aside0.mk hUW; clear hWe hUW
              go_quiet (fail)
              have HBX : Aside0 (Below wb.heap.size wr (W.drewN nq)) := ⟨(HUW.out.drewN nq).mono (by have := hW.out.size; omega)⟩; have HOX := Aside0.mk (own_up hO.out (HUW.out.drewN nq))
              have hzx : wb.heap.size ≤ (W.drewN nq).heap.size := by have h8 := (HUW.out.drewN nq).le; have h7 := hW.out.size; omega
              generalize W.drewN nq = X at *
              clear hlk2 hlk3 hq1 hq2 hx0 hx1 hx2
              go_wp2_with (at_builtin; go_loud (refine print_append_cells (w0 := wr) wb.heap.size rfl _ _ 35 3 _ 1 8 rfl Try.underlying35 info_int rfl (by decide) (by decide) u5 xs.length _ [.int .i64 (k : Int)] rfl (by first | rfl | go_simp) rfl ?q1 HOX.out HBX.out hzx ?q2 ?_))
              case q1 => intro u hu; simp at hu; subst hu; rfl
              case q2 => omega
              intro v3 w3 hown3 hb3 hgrow3 hat3; have HO3 : Aside0 (w3.ownsRow wb.heap.size 3 1 v3 (xs ++ [(k : Int)]).length (nums .i64 (xs ++ [(k : Int)]))) := ⟨by simpa [nums] using hown3⟩; have HB3 := Aside0.mk hb3; clear hown3 hb3 hgrow3 hat3
              go_wp2_with fail
              go_roundw
              case rel => exact ⟨k + 1, v3, by omega, rfl, by go_num, ⟨by rw [HS.out]; exact hMC.out.below hzb HB3.out⟩, ⟨by rw [HS.out]; exact HO3.out⟩, ⟨hW.out.then2 HB3.out⟩⟩
              case measure => simp [intOf]; omega
        · obtain rfl : k = l.length := by omega
          have hgb := (bookTo_bd (cntD ds) l l.length).1; have hxb := (bookTo_bd (cntD ds) l l.length).2; obtain ⟨⟨g, xs⟩, hst0⟩ : ∃ s, s = bookTo (cntD ds) l l.length := ⟨_, rfl⟩; have HBS : Aside0 (bookS ds l = ⟨g, xs⟩) := ⟨hst0.symm⟩; rw [← hst0] at hMC hO hgb hxb; simp only at hMC hO hgb hxb; have hMB := missTo_bd g l.length hgb ds; clear hst0 hgb; obtain ⟨wm, hwm⟩ : ∃ wm, wm = wr := ⟨_, rfl⟩; rw [← hwm] at hMC hO; have HUm : Aside0 (Up w wm) := ⟨by rw [hwm]; exact hUw⟩; have hzm : r2 < wm.heap.size := hMC.out.lt; clear hUw HM1r
          go_wp2_with fail
          go_loopw [4, 84] (fun v4 i wr => ∃ (k : Nat) (v : Value), k ≤ ds.length ∧ v4 = v ∧ i = .int .i64 k ∧ Aside0 (MC (missTo g ds k).g wr r2) ∧ Aside0 (wr.ownsRow wm.heap.size 3 1 v (missTo g ds k).x.length (nums .i64 (missTo g ds k).x)) ∧ Aside0 (Wr r2 wm wr)) (fun _ i _ => ds.length - (intOf i).toNat)
          case atStart => exact ⟨0, _, Nat.zero_le _, rfl, rfl, ⟨by rw [← hwm]; exact hMC.out⟩, ⟨⟨rfl, .inl ⟨rfl, rfl⟩⟩⟩, ⟨by rw [hwm]; exact Wr.refl _ _⟩⟩
          case round =>
            obtain ⟨k, v, hk, rfl, rfl, hMC3, hO3, hW3⟩ := hrel; clear hwm; have hUw : Up w wr := hW3.out.up hr2w HUm.out
            by_cases hlt3 : k < ds.length
            · obtain ⟨ad, e, hx0, hx1⟩ := at_Due (C_up HR.out hUw) k (by omega) (by omega)
              cases e
              simp only [Int.toNat_natCast] at hx0 hx1
              have hi0 : (0 : Int) ≤ (k : Int) := by omega
              have hi1 : (k : Int) < (ds.length : Int) := by omega
              have hmb := hMB k; have HST : Aside0 (missTo g ds (k + 1) = missStep (missTo g ds k) k (rdDue ds k)) := ⟨rfl⟩; have hgb := hmb.1 (rdDue ds k).c (rdDue ds k).a; have hxl := hmb.2; clear hmb; obtain ⟨⟨f, ys⟩, hst0⟩ : ∃ s, s = missTo g ds k := ⟨_, rfl⟩; rw [← hst0] at hMC3 hO3 HST hxl hgb; simp only at hMC3 hO3 hxl hgb; clear hst0; have hmx := hMC3.out.up ((Up.refl wr).alloc (.cells #[.int .i64 (rdDue ds k).c, .int .i64 (rdDue ds k).a] 58)); have hzx := hmx.lt; have hwv : IntKind.i64.wrap (f (rdDue ds k).c (rdDue ds k).a - 1) = f (rdDue ds k).c (rdDue ds k).a - 1 := IntWalk.i64_in _ (by omega); have hmcw : MC (f) (wr.alloc (.cells #[.int .i64 (rdDue ds k).c, .int .i64 (rdDue ds k).a] 58)).drew r2 := MC.up hmx ((Up.refl _).drew); have hlk := mc_lookup (f) ((rdDue ds k).c) ((rdDue ds k).a) _ r2 hmcw; obtain ⟨w1, st, hen, hm1, hwr1, hsz1, hst⟩ := mc_entry (f) ((rdDue ds k).c) ((rdDue ds k).a) _ r2 hmcw; obtain ⟨w2, hst2, hm2b, hwr2, hsz2⟩ := hst (f (rdDue ds k).c (rdDue ds k).a - 1); have hlk1 := mc_lookup (f) ((rdDue ds k).c) ((rdDue ds k).a) _ r2 hm1; have HWX : Aside0 (Wr r2 (wr.alloc (.cells #[.int .i64 (rdDue ds k).c, .int .i64 (rdDue ds k).a] 58)) w2) := ⟨((Wr.ofUp (r := r2) ((Up.refl _).drew)).then hwr1).then hwr2⟩; have HM2 := Aside0.mk hm2b; clear hmcw hm1 hm2b hwr1 hwr2 hst hsz1 hsz2; simp only [keyV] at hlk hlk1 hen; have hlw2 := mc_lookup _ (rdDue ds k).c (rdDue ds k).a _ r2 HM2.out; rw [show updF f (rdDue ds k).c (rdDue ds k).a (f (rdDue ds k).c (rdDue ds k).a - 1) (rdDue ds k).c (rdDue ds k).a = f (rdDue ds k).c (rdDue ds k).a - 1 by simp [updF]] at hlw2; simp only [keyV] at hlw2; have hzr := hMC3.out.lt
              have hq9 : ∀ o, w2.cell? ⟨wr.heap.size, o, none⟩ = (#[.int .i64 (rdDue ds k).c, .int .i64 (rdDue ds k).a] : Array Value)[o]? := fun o => (HWX.out.old.1 _ o (by simp) (by omega)).trans (by simp [go_sem])
              have hu := Try.underlying58; have HWw : Aside0 (Wr r2 wr w2) := ⟨(Wr.ofUp ((Up.refl wr).alloc _)).then HWX.out⟩; have HO4 : Aside0 (w2.ownsRow wm.heap.size 3 1 u4 ys.length (nums .i64 ys)) := ⟨own_mc hO3.out hMC3.out HWw.out⟩; have HW4 : Aside0 (Wr r2 wm w2) := ⟨hW3.out.then HWw.out⟩; clear hmx hzx hMC3 hO3 hW3
              go_wp2_with fail
              go_region
              by_cases hneg : f (rdDue ds k).c (rdDue ds k).a - 1 < 0
              · have hdn : decide (f (rdDue ds k).c (rdDue ds k).a - 1 < 0) = true := by simpa using hneg
                have HS : Aside0 (missTo g ds (k + 1) = ⟨updF f (rdDue ds k).c (rdDue ds k).a (f (rdDue ds k).c (rdDue ds k).a - 1), ys ++ [(k : Int)]⟩) := ⟨HST.out.trans (by simp only [missStep]; rw [if_pos hneg])⟩; clear HST
                go_wp2_with (at_builtin; go_loud (refine print_append_cells (w0 := w2) wm.heap.size rfl _ _ 35 3 _ 1 8 rfl Try.underlying35 info_int rfl (by decide) (by decide) u4 ys.length _ [.int .i64 (k : Int)] rfl (by first | rfl | go_simp) rfl ?q1 HO4.out (Below.refl _ _) HW4.out.size ?q2 ?_))
                case q1 => intro u hu; simp at hu; subst hu; rfl
                case q2 => omega
                intro v3 w3 hown3 hb3 hgrow3 hat3; have HO5 : Aside0 (w3.ownsRow wm.heap.size 3 1 v3 (ys ++ [(k : Int)]).length (nums .i64 (ys ++ [(k : Int)]))) := ⟨by simpa [nums] using hown3⟩; have HB5 := Aside0.mk hb3; clear hown3 hb3 hgrow3 hat3
                go_wp2_with fail
                go_roundw
                case rel => exact ⟨k + 1, v3, by omega, rfl, by go_num, ⟨by rw [HS.out]; exact HM2.out.below hzm HB5.out⟩, ⟨by rw [HS.out]; exact HO5.out⟩, ⟨HW4.out.then2 HB5.out⟩⟩
                case measure => simp [intOf]; omega
              · have hdn : decide (f (rdDue ds k).c (rdDue ds k).a - 1 < 0) = false := by simpa using hneg
                have HS : Aside0 (missTo g ds (k + 1) = ⟨updF f (rdDue ds k).c (rdDue ds k).a (f (rdDue ds k).c (rdDue ds k).a - 1), ys⟩) := ⟨HST.out.trans (by simp only [missStep]; rw [if_neg hneg])⟩; clear HST
                go_wp2_with fail
                go_roundw
                case rel => exact ⟨k + 1, _, by omega, rfl, by go_num, ⟨by rw [HS.out]; exact HM2.out⟩, ⟨by rw [HS.out]; exact HO4.out⟩, HW4⟩
                case measure => simp [intOf]; omega
            · obtain rfl : k = ds.length := by omega
              have hzw := HUm.out.le; have hzb2 := HUB.out.le
              go_wp2_with fail
              go_ret3
              exact ⟨_, _, rfl, by rw [HBS.out]; exact own_mono hO3.out hzw, by rw [HBS.out]; exact own_mono (own_mc hO.out hMC.out hW3.out) hzb2, hUw, fun k h1 h2 => by have h3 := own_base hO3.out k h1; have h4 := own_lt hO.out k h2; omega⟩
theorem booked_ (A : Option Addr) (c : Nat) (ds : List Due) (A2 : Option Addr) (c2 : Nat) (l : List Ent) (w : World) (hr : Kd.C kDue w A ds.length ds) (hc : ds.length ≤ c) (hr2 : Kd.C kEnt w A2 l.length l) (hc2 : l.length ≤ c2) :
    Calls Try.prog 33 #[.slice A ds.length c, .slice A2 l.length c2] w fun e w' => ∃ v u, e = .returned (.tuple #[v, u, .int .i64 (bookE ds l)]) ∧ w'.ownsRow w.heap.size 3 1 v (bookM ds l).length (nums .i64 (bookM ds l)) ∧ w'.ownsRow w.heap.size 3 1 u (bookX ds l).length (nums .i64 (bookX ds l)) ∧ Up w w' ∧ (∀ k, v.ownBlock = some k → u.ownBlock ≠ some k) := by
  by_cases h0 : bookE ds l = 0
  · have h1 : bookM ds l = (missTo (bookS ds l).g ds ds.length).x := by simp [bookM, h0]
    have h2 : bookX ds l = (bookS ds l).x := by simp [bookX, h0]
    rw [h0, h1, h2]; exact booked_ok A c ds A2 c2 l w hr hc hr2 hc2 h0
  · have hM : bookM ds l = [] := by simp [bookM, h0]
    have hX : bookX ds l = [] := by simp [bookX, h0]
    have HR := Aside0.mk hr; have HR2 := Aside0.mk hr2; have hm := CF_len hr; rw [hM, hX]; clear hr hr2 hM hX
    suffices H : Calls Try.prog 33 #[.slice A ds.length c, .slice A2 l.length c2] w fun e w' => e = .returned (.tuple #[.slice none 0 0, .slice none 0 0, .int .i64 (bookE ds l)]) ∧ Up w w' from
      H.mono fun e w' h => ⟨_, _, h.1, ⟨rfl, .inl ⟨rfl, rfl⟩⟩, ⟨rfl, .inl ⟨rfl, rfl⟩⟩, h.2, fun k h => by simp [Value.ownBlock] at h⟩
    by_cases h1 : readE l = 0
    · have hb1 : (readE l != 0) = false := by simp [h1]
      by_cases h2 : ds.length > 12
      · have hE : bookE ds l = 8 := by simp [bookE, h1, h2]
        rw [hE]; clear h0 hE h1
        go_enter Try.func33, Try.ntmps33
        go_wp2_with (go_at_call 69; (with_reducible refine (read_ _ _ _ _ (C_up HR2.out upA) hc2).mono ?_); rintro e w' ⟨rfl, hb⟩; have hbA := Aside0.mk hb; obtain ⟨hcA, hfA⟩ := hb.old; have hz := hb.le; (try simp at hz); (try have hz0 : w.heap.size < w'.heap.size := by omega); (try have hzb : w.heap.size + 1 < w'.heap.size := by omega); (try have hzc : w.heap.size + 2 < w'.heap.size := by omega); clear hb)
        go_ret3
        exact ⟨rfl, upA⟩
      · cases h3 : (ds.any fun x => !dueB x)
        · simp [bookE, h1, h2, h3] at h0
        · have hE : bookE ds l = 3 := by simp [bookE, h1, h2, h3]
          have H3 := Aside0.mk h3; rw [hE]; clear h0 hE h1 h3
          go_enter Try.func33, Try.ntmps33
          go_wp2_with (first | (go_at_call 69; (with_reducible refine (read_ _ _ _ _ (C_up HR2.out upA) hc2).mono ?_); rintro e w' ⟨rfl, hb⟩; have hbA := Aside0.mk hb; obtain ⟨hcA, hfA⟩ := hb.old; have hz := hb.le; (try simp at hz); (try have hz0 : w.heap.size < w'.heap.size := by omega); (try have hzb : w.heap.size + 1 < w'.heap.size := by omega); (try have hzc : w.heap.size + 2 < w'.heap.size := by omega); clear hb) | (go_at_call 72; (with_reducible refine ((H3.out ▸ containsDue _ _ _ _ (C_up HR.out upA) hc)).mono ?_); rintro e w' ⟨rfl, hb⟩; have hbA := Aside0.mk hb; obtain ⟨hcA, hfA⟩ := hb.old; have hz := hb.le; (try simp at hz); (try have hz0 : w.heap.size < w'.heap.size := by omega); (try have hzb : w.heap.size + 1 < w'.heap.size := by omega); (try have hzc : w.heap.size + 2 < w'.heap.size := by omega); clear hb))
          go_ret3
          exact ⟨rfl, upA⟩
    · have hb1 : (readE l != 0) = true := by simp [h1]
      have hE : bookE ds l = readE l := by simp [bookE, h1]
      rw [hE]; clear h0 hE h1
      go_enter Try.func33, Try.ntmps33
      go_wp2_with (go_at_call 69; (with_reducible refine (read_ _ _ _ _ (C_up HR2.out upA) hc2).mono ?_); rintro e w' ⟨rfl, hb⟩; have hbA := Aside0.mk hb; obtain ⟨hcA, hfA⟩ := hb.old; have hz := hb.le; (try simp at hz); (try have hz0 : w.heap.size < w'.heap.size := by omega); (try have hzb : w.heap.size + 1 < w'.heap.size := by omega); (try have hzc : w.heap.size + 2 < w'.heap.size := by omega); clear hb)
      go_ret3
      exact ⟨rfl, upA⟩
end Go.Proofs.Ytdlekcdedahbhaa
namespace Go.Proofs.Ytdlekcdedahbhaa
open Go.RowKit Go.Shelf Go.Proofs.YtdlekcdedahbhaaW.PrintWords
set_option linter.unusedVariables false
set_option linter.unusedSimpArgs false
attribute [local go_sem] Oper.semAt_some
structure Slp where
  e : Int
  k : Int
  m : Int
  deriving DecidableEq
abbrev Chg := Slp × Ent
def encG (p : Chg) : Array Value := #[.agg #[.int .i64 p.1.e, .int .i64 p.1.k, .int .i64 p.1.m], .agg #[.int .i64 p.2.f, .int .i64 p.2.t, .int .i64 p.2.a]]
def chA (x : Ent) : Nat → Nat → List Chg
  | 0, _ => []
  | m + 1, k => if (k : Int) ≠ x.a then (⟨0, 1, k⟩, ⟨x.f, x.t, k⟩) :: chA x m (k + 1) else chA x m (k + 1)
def chF (x : Ent) : Nat → Nat → List Chg
  | 0, _ => []
  | m + 1, k => if (k : Int) ≠ x.f ∧ (k : Int) ≠ x.t then (⟨0, 3, k⟩, ⟨k, x.t, x.a⟩) :: chF x m (k + 1) else chF x m (k + 1)
def chT (x : Ent) : Nat → Nat → List Chg
  | 0, _ => []
  | m + 1, k => if (k : Int) ≠ x.f ∧ (k : Int) ≠ x.t then (⟨0, 4, k⟩, ⟨x.f, k, x.a⟩) :: chT x m (k + 1) else chT x m (k + 1)
def changesL (x : Ent) : List Chg := chA x 101 0 ++ ((⟨0, 2, 0⟩, ⟨x.t, x.f, x.a⟩) :: (chF x 6 0 ++ chT x 6 0))
def chP (base b : Nat) (k : Nat) : Prop := k < base ∨ k = b
set_option maxRecDepth 100000 in
set_option maxHeartbeats 4000000 in
theorem changes1_in (x : Ent) (lp b : Nat) (w : World) (hb : w.heap.size ≤ b)
    (J Jx : List Chg → World → Prop) (W : World) (hW : Up w W) (hJ : AbidesFrom W.heap.size J)
    (hY : ∀ pre y W1, J pre W1 → pre.length < (changesL x).length → pre ++ [y] <+: changesL x → YieldAt Fence.wide 4 Try.prog lp (encG y) W1 fun e W' =>
      (e = .returned (.bool true) ∧ J (pre ++ [y]) W' ∧ Sv (chP w.heap.size b) W1 W') ∨ (e = .returned (.bool false) ∧ Jx (pre ++ [y]) W'))
    (hB : Bx W b #[.int .i64 (x).f, .int .i64 (x).t, .int .i64 (x).a] 101) (hj : J [] W) :
    CallsIn Fence.wide 5 Try.prog 90 #[.func (.yield lp) #[] #[], .pointer (some ⟨b, 0, none⟩)] W fun e W' => (∃ v, e = .returned v) ∧
      ((∃ ys, ys = changesL x ∧ J ys W') ∨ (∃ pre, pre <+: changesL x ∧ Jx pre W')) := by
  have HY := Aside0.mk hY; have HJ := Aside0.mk hJ; have HB := Aside0.mk hB; have hbW := hB.lt; clear hY hJ hB; refine callsIn_of_wp Try.func90 rfl trivial ?_ rfl; simp only [Try.ntmps90, List.size_toArray, List.length_cons, List.length_nil, Nat.reduceAdd, Nat.reduceSub, Array.replicate_succ, Array.replicate_zero, List.push_toArray, List.append_toArray, List.nil_append, List.cons_append]
  gi_wp2_with fail
  gi_loopw [9] (fun i wr => ∃ (k : Nat) (pre : List Chg), k ≤ 101 ∧ i = .int .i64 k ∧ Aside0 (pre ++ (chA x (101 - k) k ++ ((⟨0, 2, 0⟩, ⟨x.t, x.f, x.a⟩) :: (chF x 6 0 ++ chT x 6 0))) = changesL x) ∧ Aside0 (J pre wr) ∧ Aside0 (Sv (chP w.heap.size b) W wr)) (fun i _ => 101 - (intOf i).toNat)
  case atStart => exact ⟨0, [], by omega, rfl, ⟨rfl⟩, ⟨hj⟩, ⟨Sv.refl _ _⟩⟩
  case round =>
    obtain ⟨k, pre, hk, rfl, HP, HJP, HS⟩ := hrel; have hBr : Bx wr b #[.int .i64 (x).f, .int .i64 (x).t, .int .i64 (x).a] 101 := (HS.out.block b (.inr rfl)).trans HB.out; have hq := hBr.cell; have hbz := hBr.lt; have HBR := Aside0.mk hBr; clear hBr
    by_cases hlt : k < 101
    · have hdl : decide ((k : Int) < 101) = true := by simp; omega
      have hsub : 101 - k = (101 - (k + 1)) + 1 := by omega
      by_cases hne : (k : Int) = x.a
      · have hnb : ((k : Int) != x.a) = false := by simp [hne]
        have HPN : Aside0 (pre ++ (chA x (101 - (k + 1)) (k + 1) ++ ((⟨0, 2, 0⟩, ⟨x.t, x.f, x.a⟩) :: (chF x 6 0 ++ chT x 6 0))) = changesL x) := ⟨by have h := HP.out; rw [hsub, chA, if_neg (by simpa using hne)] at h; exact h⟩; clear HP hsub hne; have hJ2 : J pre (wr.alloc (.cells #[.int .i64 x.f, .int .i64 x.t, .int .i64 (k : Int)] 101)) := HJ.out _ _ _ none HJP.out (grown_of_below ((Up.refl wr).alloc _) none) (fun r e => by cases e); have HJ2 := Aside0.mk hJ2; have HS2 : Aside0 (Sv (chP w.heap.size b) W (wr.alloc (.cells #[.int .i64 x.f, .int .i64 x.t, .int .i64 (k : Int)] 101))) := ⟨HS.out.alloc _ (fun q hq => by have h8 := HS.out.size; have h9 := hW.le; rcases hq with h | h <;> omega)⟩; clear hJ2 HJP HS
        gi_wp2_with fail
        refine ⟨(fun f hf => nomatch hf), ?_⟩
        gi_wp2_with fail
        go_roundw
        case rel => exact ⟨k + 1, pre, by omega, by go_num, HPN, HJ2, HS2⟩
        case measure => simp [intOf]; omega
      · have hnb : ((k : Int) != x.a) = true := by simp [hne]
        have HPN : Aside0 (pre ++ ((⟨0, 1, k⟩, ⟨x.f, x.t, k⟩) :: (chA x (101 - (k + 1)) (k + 1) ++ ((⟨0, 2, 0⟩, ⟨x.t, x.f, x.a⟩) :: (chF x 6 0 ++ chT x 6 0)))) = changesL x) := ⟨by have h := HP.out; rw [hsub, chA, if_pos hne] at h; exact h⟩; clear HP hsub hne; have hJ2 : J pre (wr.alloc (.cells #[.int .i64 x.f, .int .i64 x.t, .int .i64 (k : Int)] 101)) := HJ.out _ _ _ none HJP.out (grown_of_below ((Up.refl wr).alloc _) none) (fun r e => by cases e); have HS2 : Aside0 (Sv (chP w.heap.size b) W (wr.alloc (.cells #[.int .i64 x.f, .int .i64 x.t, .int .i64 (k : Int)] 101))) := ⟨HS.out.alloc _ (fun q hq => by have h8 := HS.out.size; have h9 := hW.le; rcases hq with h | h <;> omega)⟩; obtain ⟨fn, tmps, assign, body, hy, hR⟩ := HY.out pre (((⟨0, 1, k⟩, ⟨x.f, x.t, k⟩) : Chg)) _ hJ2 (by rw [← HPN.out]; simp) ⟨_, by rw [List.append_assoc]; exact HPN.out⟩
        dsimp only [encG] at hy
        clear hJ2 HJP HS
        gi_wp2_with fail
        refine hR.mono ?_; rintro e W3 (⟨rfl, hJ3, hS3⟩ | ⟨rfl, hJx3⟩)
        · have HJ3 := Aside0.mk hJ3
          have HS3 := Aside0.mk (HS2.out.trans hS3); clear hJ3 hS3
          gi_wp2_with fail
          go_roundw
          case rel => exact ⟨k + 1, pre ++ [((⟨0, 1, k⟩, ⟨x.f, x.t, k⟩) : Chg)], by omega, by go_num, ⟨by rw [List.append_assoc]; exact HPN.out⟩, HJ3, HS3⟩
          case measure => simp [intOf]; omega
        · have HJX := Aside0.mk hJx3
          clear hJx3
          gi_wp2_with fail
          refine bodyPost_ret (results_none rfl _ _ _) rfl ?_; exact ⟨⟨_, rfl⟩, .inr ⟨_, ⟨_, by rw [List.append_assoc]; exact HPN.out⟩, HJX.out⟩⟩
    · obtain rfl : k = 101 := by omega
      have hdl : decide (((101 : Nat) : Int) < 101) = false := by simp
      have HPN : Aside0 (pre ++ ((⟨0, 2, 0⟩, ⟨x.t, x.f, x.a⟩) :: (chF x 6 0 ++ chT x 6 0)) = changesL x) := ⟨HP.out⟩; obtain ⟨fn, tmps, assign, body, hy, hR⟩ := HY.out pre ((⟨0, 2, 0⟩, ⟨x.t, x.f, x.a⟩) : Chg) _ HJP.out (by rw [← HPN.out]; simp) ⟨_, by rw [List.append_assoc]; exact HPN.out⟩
      dsimp only [encG] at hy
      clear HP HJP
      gi_wp2_with fail
      refine hR.mono ?_; rintro e W3 (⟨rfl, hJ3, hS3⟩ | ⟨rfl, hJx3⟩)
      · have HJ3 := Aside0.mk hJ3
        have HS3 := Aside0.mk (HS.out.trans hS3); clear hJ3 hS3 HS
        gi_wp2_with fail
        gi_loopw [39] (fun i wr => ∃ (k : Nat) (pre : List Chg), k ≤ 6 ∧ i = .int .i64 k ∧ Aside0 (pre ++ (chF x (6 - k) k ++ chT x 6 0) = changesL x) ∧ Aside0 (J pre wr) ∧ Aside0 (Sv (chP w.heap.size b) W wr)) (fun i _ => 6 - (intOf i).toNat)
        case atStart => exact ⟨0, pre ++ [((⟨0, 2, 0⟩, ⟨x.t, x.f, x.a⟩) : Chg)], by omega, rfl, ⟨by rw [List.append_assoc]; exact HPN.out⟩, HJ3, HS3⟩
        case round =>
          clear HPN HJ3 HS3 hq; obtain ⟨k, pre, hk, rfl, HP, HJP, HS⟩ := hrel; have hBr : Bx wr b #[.int .i64 (x).f, .int .i64 (x).t, .int .i64 (x).a] 101 := (HS.out.block b (.inr rfl)).trans HB.out; have hq := hBr.cell; have hbz := hBr.lt; have HBR := Aside0.mk hBr; clear hBr
          by_cases hlt : k < 6
          · have hdl : decide ((k : Int) < 6) = true := by simp; omega
            have hsub : 6 - k = (6 - (k + 1)) + 1 := by omega
            by_cases hnf : (k : Int) = x.f
            · have hnb : ((k : Int) != x.f) = false := by simp [hnf]
              have HPN : Aside0 (pre ++ (chF x (6 - (k + 1)) (k + 1) ++ chT x 6 0) = changesL x) := ⟨by have h := HP.out; rw [hsub, chF, if_neg (by simp [hnf])] at h; exact h⟩; clear HP hsub hnf; have hJ2 : J pre (wr.alloc (.cells #[.int .i64 (k : Int), .int .i64 x.t, .int .i64 x.a] 101)) := HJ.out _ _ _ none HJP.out (grown_of_below ((Up.refl wr).alloc _) none) (fun r e => by cases e); have HJ2 := Aside0.mk hJ2; have HS2 : Aside0 (Sv (chP w.heap.size b) W (wr.alloc (.cells #[.int .i64 (k : Int), .int .i64 x.t, .int .i64 x.a] 101))) := ⟨HS.out.alloc _ (fun q hq => by have h8 := HS.out.size; have h9 := hW.le; rcases hq with h | h <;> omega)⟩; clear hJ2 HJP HS
              gi_wp2_with fail
              refine ⟨(fun f hf => nomatch hf), ?_⟩
              gi_wp2_with fail
              go_roundw
              case rel => exact ⟨k + 1, pre, by omega, by go_num, HPN, HJ2, HS2⟩
              case measure => simp [intOf]; omega
            · have hnb : ((k : Int) != x.f) = true := by simp [hnf]
              by_cases hnt : (k : Int) = x.t
              · have hnb2 : ((k : Int) != x.t) = false := by simp [hnt]
                have HPN : Aside0 (pre ++ (chF x (6 - (k + 1)) (k + 1) ++ chT x 6 0) = changesL x) := ⟨by have h := HP.out; rw [hsub, chF, if_neg (by simp [hnt])] at h; exact h⟩; clear HP hsub hnf hnt; have hJ2 : J pre (wr.alloc (.cells #[.int .i64 (k : Int), .int .i64 x.t, .int .i64 x.a] 101)) := HJ.out _ _ _ none HJP.out (grown_of_below ((Up.refl wr).alloc _) none) (fun r e => by cases e); have HJ2 := Aside0.mk hJ2; have HS2 : Aside0 (Sv (chP w.heap.size b) W (wr.alloc (.cells #[.int .i64 (k : Int), .int .i64 x.t, .int .i64 x.a] 101))) := ⟨HS.out.alloc _ (fun q hq => by have h8 := HS.out.size; have h9 := hW.le; rcases hq with h | h <;> omega)⟩; clear hJ2 HJP HS
                gi_wp2_with fail
                refine ⟨(fun f hf => nomatch hf), ?_⟩
                gi_wp2_with fail
                go_roundw
                case rel => exact ⟨k + 1, pre, by omega, by go_num, HPN, HJ2, HS2⟩
                case measure => simp [intOf]; omega
              · have hnb2 : ((k : Int) != x.t) = true := by simp [hnt]
                have HPN : Aside0 (pre ++ ((⟨0, 3, k⟩, ⟨k, x.t, x.a⟩) :: (chF x (6 - (k + 1)) (k + 1) ++ chT x 6 0)) = changesL x) := ⟨by have h := HP.out; rw [hsub, chF, if_pos ⟨hnf, hnt⟩] at h; exact h⟩; clear HP hsub hnf hnt; have hJ2 : J pre (wr.alloc (.cells #[.int .i64 (k : Int), .int .i64 x.t, .int .i64 x.a] 101)) := HJ.out _ _ _ none HJP.out (grown_of_below ((Up.refl wr).alloc _) none) (fun r e => by cases e); have HS2 : Aside0 (Sv (chP w.heap.size b) W (wr.alloc (.cells #[.int .i64 (k : Int), .int .i64 x.t, .int .i64 x.a] 101))) := ⟨HS.out.alloc _ (fun q hq => by have h8 := HS.out.size; have h9 := hW.le; rcases hq with h | h <;> omega)⟩; obtain ⟨fn, tmps, assign, body, hy, hR⟩ := HY.out pre (((⟨0, 3, k⟩, ⟨k, x.t, x.a⟩) : Chg)) _ hJ2 (by rw [← HPN.out]; simp) ⟨_, by rw [List.append_assoc]; exact HPN.out⟩
                dsimp only [encG] at hy
                clear hJ2 HJP HS
                gi_wp2_with fail
                refine hR.mono ?_; rintro e W3 (⟨rfl, hJ3, hS3⟩ | ⟨rfl, hJx3⟩)
                · have HJ3 := Aside0.mk hJ3
                  have HS3 := Aside0.mk (HS2.out.trans hS3); clear hJ3 hS3
                  gi_wp2_with fail
                  go_roundw
                  case rel => exact ⟨k + 1, pre ++ [((⟨0, 3, k⟩, ⟨k, x.t, x.a⟩) : Chg)], by omega, by go_num, ⟨by rw [List.append_assoc]; exact HPN.out⟩, HJ3, HS3⟩
                  case measure => simp [intOf]; omega
                · have HJX := Aside0.mk hJx3
                  clear hJx3
                  gi_wp2_with fail
                  refine bodyPost_ret (results_none rfl _ _ _) rfl ?_; exact ⟨⟨_, rfl⟩, .inr ⟨_, ⟨_, by rw [List.append_assoc]; exact HPN.out⟩, HJX.out⟩⟩
          · obtain rfl : k = 6 := by omega
            have hdl : decide (((6 : Nat) : Int) < 6) = false := by simp
            have hdl2 : decide ((6 : Int) < 6) = false := by simp
            have HPN : Aside0 (pre ++ chT x 6 0 = changesL x) := ⟨HP.out⟩; clear HP
            gi_wp2_with fail
            rw [show (((6 : Nat) : Int)) = (6 : Int) from rfl]
            gi_loopw [64] (fun i wr => ∃ (k : Nat) (pre : List Chg), k ≤ 6 ∧ i = .int .i64 k ∧ Aside0 (pre ++ chT x (6 - k) k = changesL x) ∧ Aside0 (J pre wr) ∧ Aside0 (Sv (chP w.heap.size b) W wr)) (fun i _ => 6 - (intOf i).toNat)
            case atStart => exact ⟨0, pre, by omega, rfl, HPN, HJP, HS⟩
            case round =>
              clear HPN HJP HS hq HBR hbz; obtain ⟨k, pre, hk, rfl, HP, HJP, HS⟩ := hrel; have hBr : Bx wr b #[.int .i64 (x).f, .int .i64 (x).t, .int .i64 (x).a] 101 := (HS.out.block b (.inr rfl)).trans HB.out; have hq := hBr.cell; have hbz := hBr.lt; have HBR := Aside0.mk hBr; clear hBr
              by_cases hlt : k < 6
              · have hdl : decide ((k : Int) < 6) = true := by simp; omega
                have hsub : 6 - k = (6 - (k + 1)) + 1 := by omega
                by_cases hnf : (k : Int) = x.f
                · have hnb : ((k : Int) != x.f) = false := by simp [hnf]
                  have HPN : Aside0 (pre ++ chT x (6 - (k + 1)) (k + 1) = changesL x) := ⟨by have h := HP.out; rw [hsub, chT, if_neg (by simp [hnf])] at h; exact h⟩; clear HP hsub hnf; have hJ2 : J pre (wr.alloc (.cells #[.int .i64 x.f, .int .i64 (k : Int), .int .i64 x.a] 101)) := HJ.out _ _ _ none HJP.out (grown_of_below ((Up.refl wr).alloc _) none) (fun r e => by cases e); have HJ2 := Aside0.mk hJ2; have HS2 : Aside0 (Sv (chP w.heap.size b) W (wr.alloc (.cells #[.int .i64 x.f, .int .i64 (k : Int), .int .i64 x.a] 101))) := ⟨HS.out.alloc _ (fun q hq => by have h8 := HS.out.size; have h9 := hW.le; rcases hq with h | h <;> omega)⟩; clear hJ2 HJP HS
                  gi_wp2_with fail
                  refine ⟨(fun f hf => nomatch hf), ?_⟩
                  gi_wp2_with fail
                  go_roundw
                  case rel => exact ⟨k + 1, pre, by omega, by go_num, HPN, HJ2, HS2⟩
                  case measure => simp [intOf]; omega
                · have hnb : ((k : Int) != x.f) = true := by simp [hnf]
                  by_cases hnt : (k : Int) = x.t
                  · have hnb2 : ((k : Int) != x.t) = false := by simp [hnt]
                    have HPN : Aside0 (pre ++ chT x (6 - (k + 1)) (k + 1) = changesL x) := ⟨by have h := HP.out; rw [hsub, chT, if_neg (by simp [hnt])] at h; exact h⟩; clear HP hsub hnf hnt; have hJ2 : J pre (wr.alloc (.cells #[.int .i64 x.f, .int .i64 (k : Int), .int .i64 x.a] 101)) := HJ.out _ _ _ none HJP.out (grown_of_below ((Up.refl wr).alloc _) none) (fun r e => by cases e); have HJ2 := Aside0.mk hJ2; have HS2 : Aside0 (Sv (chP w.heap.size b) W (wr.alloc (.cells #[.int .i64 x.f, .int .i64 (k : Int), .int .i64 x.a] 101))) := ⟨HS.out.alloc _ (fun q hq => by have h8 := HS.out.size; have h9 := hW.le; rcases hq with h | h <;> omega)⟩; clear hJ2 HJP HS
                    gi_wp2_with fail
                    refine ⟨(fun f hf => nomatch hf), ?_⟩
                    gi_wp2_with fail
                    go_roundw
                    case rel => exact ⟨k + 1, pre, by omega, by go_num, HPN, HJ2, HS2⟩
                    case measure => simp [intOf]; omega
                  · have hnb2 : ((k : Int) != x.t) = true := by simp [hnt]
                    have HPN : Aside0 (pre ++ ((⟨0, 4, k⟩, ⟨x.f, k, x.a⟩) :: chT x (6 - (k + 1)) (k + 1)) = changesL x) := ⟨by have h := HP.out; rw [hsub, chT, if_pos ⟨hnf, hnt⟩] at h; exact h⟩; clear HP hsub hnf hnt; have hJ2 : J pre (wr.alloc (.cells #[.int .i64 x.f, .int .i64 (k : Int), .int .i64 x.a] 101)) := HJ.out _ _ _ none HJP.out (grown_of_below ((Up.refl wr).alloc _) none) (fun r e => by cases e); have HS2 : Aside0 (Sv (chP w.heap.size b) W (wr.alloc (.cells #[.int .i64 x.f, .int .i64 (k : Int), .int .i64 x.a] 101))) := ⟨HS.out.alloc _ (fun q hq => by have h8 := HS.out.size; have h9 := hW.le; rcases hq with h | h <;> omega)⟩; obtain ⟨fn, tmps, assign, body, hy, hR⟩ := HY.out pre (((⟨0, 4, k⟩, ⟨x.f, k, x.a⟩) : Chg)) _ hJ2 (by rw [← HPN.out]; simp) ⟨_, by rw [List.append_assoc]; exact HPN.out⟩
                    dsimp only [encG] at hy
                    clear hJ2 HJP HS
                    gi_wp2_with fail
                    refine hR.mono ?_; rintro e W3 (⟨rfl, hJ3, hS3⟩ | ⟨rfl, hJx3⟩)
                    · have HJ3 := Aside0.mk hJ3
                      have HS3 := Aside0.mk (HS2.out.trans hS3); clear hJ3 hS3
                      gi_wp2_with fail
                      go_roundw
                      case rel => exact ⟨k + 1, pre ++ [((⟨0, 4, k⟩, ⟨x.f, k, x.a⟩) : Chg)], by omega, by go_num, ⟨by rw [List.append_assoc]; exact HPN.out⟩, HJ3, HS3⟩
                      case measure => simp [intOf]; omega
                    · have HJX := Aside0.mk hJx3
                      clear hJx3
                      gi_wp2_with fail
                      refine bodyPost_ret (results_none rfl _ _ _) rfl ?_; exact ⟨⟨_, rfl⟩, .inr ⟨_, ⟨_, by rw [List.append_assoc]; exact HPN.out⟩, HJX.out⟩⟩
              · obtain rfl : k = 6 := by omega
                have HPN : Aside0 (pre = changesL x) := ⟨by have h := HP.out; simpa [chT] using h⟩; clear HP
                gi_wp2_with fail
                go_end0
                exact ⟨⟨_, rfl⟩, .inl ⟨_, HPN.out, HJP.out⟩⟩
      · have HJX := Aside0.mk hJx3
        clear hJx3
        gi_wp2_with fail
        refine bodyPost_ret (results_none rfl _ _ _) rfl ?_; exact ⟨⟨_, rfl⟩, .inr ⟨_, ⟨_, by rw [List.append_assoc]; exact HPN.out⟩, HJX.out⟩⟩
end Go.Proofs.Ytdlekcdedahbhaa
namespace Go.Proofs.Ytdlekcdedahbhaa
open Go.RowKit Go.Shelf Go.Proofs.YtdlekcdedahbhaaW.PrintWords
set_option linter.unusedVariables false
set_option linter.unusedSimpArgs false
attribute [local go_sem] Oper.semAt_some
theorem acc_ext (a b : Acc) : a = b ↔ a.get 0 = b.get 0 ∧ a.get 1 = b.get 1 ∧ a.get 2 = b.get 2 ∧ a.get 3 = b.get 3 ∧ a.get 4 = b.get 4 ∧ a.get 5 = b.get 5 := by
  obtain ⟨a0, a1, a2, a3, a4, a5⟩ := a; obtain ⟨b0, b1, b2, b3, b4, b5⟩ := b
  simp [Acc.get]
set_option maxRecDepth 100000 in
theorem eqB_acc (a b : Acc) (w : World) : (Op.equal 135 (.agg #[.int .i64 (a).a0, .int .i64 (a).a1, .int .i64 (a).a2, .int .i64 (a).a3, .int .i64 (a).a4, .int .i64 (a).a5]) (.agg #[.int .i64 (b).a0, .int .i64 (b).a1, .int .i64 (b).a2, .int .i64 (b).a3, .int .i64 (b).a4, .int .i64 (b).a5])).run Try.prog w = .ok (decide (a = b)) w := by
  obtain ⟨i0, hi, hz0, hz1, hz2⟩ := info_parts info_int; have hu := Try.underlying135
  show (Op.equalIn (9999 + 1) 135 (.agg #[.int .i64 (a).a0, .int .i64 (a).a1, .int .i64 (a).a2, .int .i64 (a).a3, .int .i64 (a).a4, .int .i64 (a).a5]) (.agg #[.int .i64 (b).a0, .int .i64 (b).a1, .int .i64 (b).a2, .int .i64 (b).a3, .int .i64 (b).a4, .int .i64 (b).a5])).run Try.prog w = _
  rw [run_equalIn_array (P := Try.prog) w 9999 #[.int .i64 (a).a0, .int .i64 (a).a1, .int .i64 (a).a2, .int .i64 (a).a3, .int .i64 (a).a4, .int .i64 (a).a5] #[.int .i64 (b).a0, .int .i64 (b).a1, .int .i64 (b).a2, .int .i64 (b).a3, .int .i64 (b).a4, .int .i64 (b).a5] hu hi]
  have hp : ∀ (c : Acc) (i : Nat), i < 6 → ∀ w : World, (part 3 #[.int .i64 (c).a0, .int .i64 (c).a1, .int .i64 (c).a2, .int .i64 (c).a3, .int .i64 (c).a4, .int .i64 (c).a5] (i * Try.prog.cellsOf 3)).run Try.prog w = .ok (.int .i64 (c.get i)) w := by
    intro c i hi w
    obtain rfl | rfl | rfl | rfl | rfl | rfl : i = 0 ∨ i = 1 ∨ i = 2 ∨ i = 3 ∨ i = 4 ∨ i = 5 := by omega
    all_goals kernel_rfl
  have he : ∀ (x y : Int) (w : World), (Op.equalIn 9999 3 (.int .i64 x) (.int .i64 y)).run Try.prog w = .ok (x == y) w := by
    intro x y w; go_simp
  have hr : List.range 6 = [0, 1, 2, 3, 4, 5] := by decide
  have hs : ∀ (i : Nat) (is : List Nat) (w : World), i < 6 → (Op.eqItems 9999 3 (Try.prog.cellsOf 3) #[.int .i64 (a).a0, .int .i64 (a).a1, .int .i64 (a).a2, .int .i64 (a).a3, .int .i64 (a).a4, .int .i64 (a).a5] #[.int .i64 (b).a0, .int .i64 (b).a1, .int .i64 (b).a2, .int .i64 (b).a3, .int .i64 (b).a4, .int .i64 (b).a5] (i :: is)).run Try.prog w = if a.get i = b.get i then (Op.eqItems 9999 3 (Try.prog.cellsOf 3) #[.int .i64 (a).a0, .int .i64 (a).a1, .int .i64 (a).a2, .int .i64 (a).a3, .int .i64 (a).a4, .int .i64 (a).a5] #[.int .i64 (b).a0, .int .i64 (b).a1, .int .i64 (b).a2, .int .i64 (b).a3, .int .i64 (b).a4, .int .i64 (b).a5] is).run Try.prog w else .ok false w := by
    intro i is w hi; simp only [Op.eqItems, Sem.run_bind, hp a i hi, hp b i hi, he, Result.andThen_ok]
    by_cases h : a.get i = b.get i
    · simp [h]
    · simp [h]
  have hd := acc_ext a b; rw [hr, hs 0 _ _ (by omega), hs 1 _ _ (by omega), hs 2 _ _ (by omega), hs 3 _ _ (by omega), hs 4 _ _ (by omega), hs 5 _ _ (by omega)]; simp only [Op.eqItems, Sem.run_pure]
  by_cases h0 : a = b
  · subst h0; simp
  · rw [decide_eq_false h0]
    have hn := fun h => h0 (hd.2 h)
    simp only [Int.natCast_zero, Int.natCast_one] at *
    (repeat' split) <;> first | rfl | (exfalso; apply hn; refine ⟨?_, ?_, ?_, ?_, ?_, ?_⟩ <;> assumption)
theorem eq_acc (a b : Acc) (w : World) : (binOp .eql 135 (.agg #[.int .i64 (a).a0, .int .i64 (a).a1, .int .i64 (a).a2, .int .i64 (a).a3, .int .i64 (a).a4, .int .i64 (a).a5]) (.agg #[.int .i64 (b).a0, .int .i64 (b).a1, .int .i64 (b).a2, .int .i64 (b).a3, .int .i64 (b).a4, .int .i64 (b).a5])).run Try.prog w = .ok (.bool (decide (a = b))) w := by
  simp [binOp, go_sem, eqB_acc a b w]
theorem changes_ (x : Ent) (w : World) :
    Calls Try.prog 75 #[.agg #[.int .i64 x.f, .int .i64 x.t, .int .i64 x.a]] w fun e w' => e = .returned (.func (.func 90) #[] #[.pointer (some ⟨w.heap.size, 0, none⟩)]) ∧ w' = w.alloc (.cells #[.int .i64 (x).f, .int .i64 (x).t, .int .i64 (x).a] 101) := by
  go_enter Try.func75, Try.ntmps75
  go_wp2_with fail
  go_ret
  exact ⟨rfl, rfl⟩
abbrev CG (x : Ent) : Type := { p : Chg // p ∈ changesL x }
theorem changes_stops (x : Ent) (b : Nat) (w : World) (hb : w.heap.size ≤ b) (W : World) (hW : Up w W) (hB : Bx W b #[.int .i64 (x).f, .int .i64 (x).t, .int .i64 (x).a] 101) :
    SeqStopsK Fence.wide 5 Try.prog 90 #[.pointer (some ⟨b, 0, none⟩)] (fun p : CG x => encG p.1) (Sv (chP w.heap.size b)) (fun ys => ys.map (·.1) = changesL x) (fun pre => True) (changesL x).length W := fun lp J Jx W' hW' hJ hJx hY hj => by
  refine (changes1_in x lp b w hb (fun pre W => ∃ q, q.map (·.1) = pre ∧ J q W) (fun pre W => ∃ q, q.map (·.1) = pre ∧ Jx q W) W' (hW.then hW') ?_ ?_ (hB.up hW') ⟨[], rfl, hj⟩).mono ?_
  · rintro s X Y row ⟨q, h1, h2⟩ hg2 hr2
    exact ⟨q, h1, hJ q X Y row h2 hg2 hr2⟩
  · rintro pre x W1 ⟨q, rfl, h2⟩ hlen hpre
    obtain ⟨fn, tmps, assign, body, hy, hR⟩ := hY q ⟨x, hpre.subset (by simp)⟩ W1 h2 (by simpa using hlen); refine ⟨fn, tmps, assign, body, hy, hR.mono ?_⟩; rintro e W3 (⟨rfl, h3, h4⟩ | ⟨rfl, h3⟩)
    · exact .inl ⟨rfl, ⟨q ++ [⟨x, _⟩], by simp, h3⟩, h4⟩
    · exact .inr ⟨rfl, q ++ [⟨x, _⟩], by simp, h3⟩
  · rintro e W3 ⟨hv3, h⟩
    refine ⟨hv3, h.imp ?_ ?_⟩
    · rintro ⟨ys, rfl, q, h3, h4⟩
      exact ⟨q, h3, h4⟩
    · rintro ⟨pre, _, q, _, h4⟩
      exact ⟨q, trivial, h4⟩
theorem changes_bd (x : Ent) (hx : entB x = true) (p : Chg) (hp : p ∈ changesL x) : (0 ≤ p.2.f ∧ p.2.f ≤ 5) ∧ (0 ≤ p.2.t ∧ p.2.t ≤ 5) ∧ (-1 ≤ p.2.a ∧ p.2.a ≤ 100) := by
  have hb := (entB_iff x).1 hx
  have hA : ∀ (m k : Nat), k + m ≤ 101 → ∀ p ∈ chA x m k, (0 ≤ p.2.f ∧ p.2.f ≤ 5) ∧ (0 ≤ p.2.t ∧ p.2.t ≤ 5) ∧ (-1 ≤ p.2.a ∧ p.2.a ≤ 100) := by
    intro m
    induction m with
    | zero => intro k _ p hp; simp [chA] at hp
    | succ m ih =>
      intro k hk p hp; rw [chA] at hp
      split at hp
      · rcases List.mem_cons.1 hp with rfl | hp
        · simp only; omega
        · exact ih (k + 1) (by omega) p hp
      · exact ih (k + 1) (by omega) p hp
  have hF : ∀ (m k : Nat), k + m ≤ 6 → ∀ p ∈ chF x m k, (0 ≤ p.2.f ∧ p.2.f ≤ 5) ∧ (0 ≤ p.2.t ∧ p.2.t ≤ 5) ∧ (-1 ≤ p.2.a ∧ p.2.a ≤ 100) := by
    intro m
    induction m with
    | zero => intro k _ p hp; simp [chF] at hp
    | succ m ih =>
      intro k hk p hp; rw [chF] at hp
      split at hp
      · rcases List.mem_cons.1 hp with rfl | hp
        · simp only; omega
        · exact ih (k + 1) (by omega) p hp
      · exact ih (k + 1) (by omega) p hp
  have hT : ∀ (m k : Nat), k + m ≤ 6 → ∀ p ∈ chT x m k, (0 ≤ p.2.f ∧ p.2.f ≤ 5) ∧ (0 ≤ p.2.t ∧ p.2.t ≤ 5) ∧ (-1 ≤ p.2.a ∧ p.2.a ≤ 100) := by
    intro m
    induction m with
    | zero => intro k _ p hp; simp [chT] at hp
    | succ m ih =>
      intro k hk p hp; rw [chT] at hp
      split at hp
      · rcases List.mem_cons.1 hp with rfl | hp
        · simp only; omega
        · exact ih (k + 1) (by omega) p hp
      · exact ih (k + 1) (by omega) p hp
  unfold changesL at hp
  rcases List.mem_append.1 hp with hp | hp
  · exact hA 101 0 (by omega) p hp
  · rcases List.mem_cons.1 hp with rfl | hp
    · simp only; omega
    · rcases List.mem_append.1 hp with hp | hp
      · exact hF 6 0 (by omega) p hp
      · exact hT 6 0 (by omega) p hp
def okS (want rest : Acc) (i : Nat) (ps : List Chg) : List Slp := (ps.filter fun p => decide (afterA rest p.2 = want)).map fun p => ⟨(i : Int), p.1.k, p.1.m⟩
def encSlp (p : Slp) : List Value := [.int .i64 p.e, .int .i64 p.k, .int .i64 p.m]
def turnE (x : Ent) : Ent := ⟨x.t, x.f, x.a⟩
def slipsTo (l : List Ent) (want : Acc) : Nat → List Slp
  | 0 => []
  | k + 1 => slipsTo l want k ++ okS want (afterA (allA l) (turnE (rdEnt l k))) k (changesL (rdEnt l k))
def slipsE (l : List Ent) (b : List Int) : Int := if readE l = 0 then (if balB b then (if allA l = balA b then 6 else if slipsTo l (balA b) l.length = [] then 7 else 0) else 4) else readE l
def slipsL (l : List Ent) (b : List Int) : List Slp := if slipsE l b = 0 then slipsTo l (balA b) l.length else []
theorem info_slip : (Try.prog.info? 70).map (fun i => (i.zero, i.size, i.bytes)) = some (some (.agg #[.int .i64 0, .int .i64 0, .int .i64 0]), 3, 24) := by kernel_rfl
structure SlipI (w : World) (B4 B7 B9 : Nat) (want now : Acc) (Ds : List Nat) (ss : List Slp) (W : World) : Prop where
  b4 : ∃ v, Boxed W B4 63 v ∧ W.ownsRow w.heap.size 70 3 v ss.length (ss.flatMap encSlp) ∧ (ss = [] → v = .slice none 0 0)
  b7 : Bx W B7 #[.int .i64 (want).a0, .int .i64 (want).a1, .int .i64 (want).a2, .int .i64 (want).a3, .int .i64 (want).a4, .int .i64 (want).a5] 135
  b9 : Bx W B9 #[.int .i64 (now).a0, .int .i64 (now).a1, .int .i64 (now).a2, .int .i64 (now).a3, .int .i64 (now).a4, .int .i64 (now).a5] 135
  up : Up w W
  h7 : w.heap.size < B7
  h9 : w.heap.size < B9
  ds : ∀ D ∈ Ds, w.heap.size < D ∧ W.heap[D]? = some (.deferred (some []))
theorem SlipI.dlt {w B4 B7 B9 want now Ds ss W} (h : SlipI w B4 B7 B9 want now Ds ss W) : ∀ D ∈ Ds, D < W.heap.size := fun D hD => (Array.getElem?_eq_some_iff.1 (h.ds D hD).2).1
theorem SlipI.more {w B4 B7 B9 want now Ds ss W W'} (h : SlipI w B4 B7 B9 want now Ds ss W) (hu : Up W W') : SlipI w B4 B7 B9 want now Ds ss W' := by
  obtain ⟨v, h1, h2, h3⟩ := h.b4; exact ⟨⟨v, (show Bx W B4 #[v] _ from h1).up hu, own_up h2 hu, h3⟩, h.b7.up hu, h.b9.up hu, h.up.then hu, h.h7, h.h9, fun D hD => ⟨(h.ds D hD).1, (hu.block D (h.dlt D hD)).trans (h.ds D hD).2⟩⟩
theorem SlipI.own {w B4 B7 B9 want now Ds ss A B row} (B1 : Nat) (hd : ∀ D ∈ Ds, D < B1) (hB : w.heap.size ≤ B1) (h : SlipI w B4 B7 B9 want now Ds ss A) (hg : A.grownBy B row) (hr : ∀ r, row = some r → B1 ≤ r ∧ ∃ o : Obj, A.heap[r]? = some o ∧ o.isCells = false) : SlipI w B4 B7 B9 want now Ds ss B := by
  obtain ⟨v, h1, h2, h3⟩ := h.b4
  have hr2 : ∀ r, row = some r → ∃ o : Obj, A.heap[r]? = some o ∧ o.isCells = false := fun r e => (hr r e).2
  refine ⟨⟨v, Bx.own (show Bx A B4 #[v] _ from h1) hg hr2, ?_, h3⟩, h.b7.own hg hr2, h.b9.own hg hr2, Below.grown h.up hg h.up.size (fun k e => Nat.le_trans hB (hr k e).1), h.h7, h.h9, fun D hD => ⟨(h.ds D hD).1, ?_⟩⟩
  · refine h2.kept hg ?_
    rcases h2.2 with ⟨rfl, _⟩ | ⟨g, cap, cur, rfl, _, hgb, _⟩
    · exact .inl rfl
    · refine .inr fun e => ?_
      obtain ⟨o, ho, hc⟩ := hr2 g (by simpa [Value.ownBlock] using e.symm); rw [hgb] at ho
      cases ho
      cases hc
  · refine (hg.block D (h.dlt D hD) (fun e => ?_)).trans (h.ds D hD).2
    have h5 := (hr D e.symm).1; have h6 := hd D hD; omega
theorem Sv.grown {p : Nat → Prop} {W W' : World} {row : Option Nat} (hg : W.grownBy W' row) (hlt : ∀ k, p k → k < W.heap.size) (hne : ∀ k, p k → some k ≠ row) : Sv p W W' :=
  ⟨hg.os, hg.tape, hg.output, hg.size, fun k hk => hg.block k (hlt k hk) (hne k hk)⟩
theorem Bx.not_row {W : World} {B : Nat} {C : Array Value} {T : TypeId} (h : Bx W B C T) {base e s k : Nat} {v : Value} {xs : List Value} (ht : e ≠ T) (hr : W.ownsRow base e s v k xs) : v.ownBlock ≠ some B := by
  rcases hr.2 with ⟨rfl, _⟩ | ⟨g, cap, cur, rfl, _, hgb, _⟩
  · simp [Value.ownBlock]
  · intro e'
    obtain rfl : g = B := by simpa [Value.ownBlock] using e'
    have h9 := (show W.heap[g]? = _ from h).symm.trans hgb
    simp at h9
    exact ht h9.2.symm
theorem upKeeps {X X' : World} (h : Up X X') : KeepsOthers X X' := ⟨h.size, fun k o hk _ => (h.block k (Array.getElem?_eq_some_iff.1 hk).1).trans hk⟩
theorem own_miss {W : World} {base e size n : Nat} {v : Value} {xs : List Value} (h : W.ownsRow base e size v n xs) (B : Nat) (hne : v.ownBlock ≠ some B) (o : Nat) (u : Value) : (W.setCell ⟨B, o, none⟩ u).ownsRow base e size v n xs := by
  have hg : W.grownBy (W.setCell ⟨B, o, none⟩ u) (some B) := by
    have hb0 := Below.setCell (B := 0) (Below.refl 0 W) (p := ⟨B, o, none⟩) (Nat.zero_le _) u; exact ⟨hb0.os, hb0.tape, hb0.output, hb0.size, fun k _ hk => Below.heap_setCell W ⟨B, o, none⟩ u k (fun e => hk (by rw [e]))⟩
  refine h.kept hg ?_
  rcases h.2 with ⟨rfl, _⟩ | ⟨g, cap, cur, rfl, _, hgb, _⟩
  · exact .inl rfl
  · exact .inr hne
theorem SlipI.set {w B4 B7 B9 want now Ds ss W} (h : SlipI w B4 B7 B9 want now Ds ss W) (B : Nat) (hB : w.heap.size ≤ B) (h4 : B4 ≠ B) (h7 : B7 ≠ B) (h9 : B9 ≠ B) (hne : ∀ v, Boxed W B4 63 v → v.ownBlock ≠ some B) (o : Nat) (u : Value) : SlipI w B4 B7 B9 want now Ds ss (W.setCell ⟨B, o, none⟩ u) := by
  obtain ⟨v, h1, h2, h3⟩ := h.b4; exact ⟨⟨v, Bx.far (show Bx W B4 #[v] _ from h1) h4 _ _, own_miss h2 B (hne v h1) o u, h3⟩, h.b7.far h7 _ _, h.b9.far h9 _ _, h.up.set _ _ hB, h.h7, h.h9, fun D hD => ⟨(h.ds D hD).1, (KeepsOthers.setCell W ⟨B, o, none⟩ u).same D _ (h.ds D hD).2 rfl⟩⟩
theorem slipI_app {w V1 w3 : World} {B4 B7 B9 : Nat} {want now : Acc} {Ds : List Nat} {ss : List Slp} {v v' : Value} (h : SlipI w B4 B7 B9 want now Ds ss V1) (p : Slp) (tmp : Obj) (hv : Boxed V1 B4 63 v) (hrow : V1.ownsRow w.heap.size 70 3 v ss.length (ss.flatMap encSlp))
    (hgrow : (V1.alloc tmp).grownBy w3 v.ownBlock) (hown : w3.ownsRow w.heap.size 70 3 v' (ss.length + 1) (ss.flatMap encSlp ++ encSlp p)) (hB4 : w.heap.size = B4) :
    SlipI w B4 B7 B9 want now Ds (ss ++ [p]) (w3.setCell ⟨B4, 0, none⟩ v') ∧ KeepsOthers V1 (w3.setCell ⟨B4, 0, none⟩ v') ∧ (∀ B C T, Bx V1 B C T → 70 ≠ T → B ≠ B4 → Bx (w3.setCell ⟨B4, 0, none⟩ v') B C T) ∧ V1.heap.size ≤ (w3.setCell ⟨B4, 0, none⟩ v').heap.size ∧ Boxed w3 B4 63 v := by
  obtain ⟨hA1, hA2, hA3, hA4, hA5⟩ := Boxed.appended (n₀ := w.heap.size) hv (by decide) hrow h.up.size (by omega) hown hgrow
  have hbx : ∀ B C T, Bx V1 B C T → 70 ≠ T → B ≠ B4 → Bx (w3.setCell ⟨B4, 0, none⟩ v') B C T := fun B C T hb ht hn =>
    ((hb.up ((Up.refl V1).alloc tmp)).grown (own_up hrow ((Up.refl V1).alloc tmp)) ht hgrow).far hn _ _
  refine ⟨⟨⟨v', hA2, by rw [List.length_append, List.flatMap_append]; simpa using hA3, fun h => by simp at h⟩, hbx _ _ _ h.b7 (by decide) (by have := h.h7; omega), hbx _ _ _ h.b9 (by decide) (by have := h.h9; omega), ?_, h.h7, h.h9, fun D hD => ⟨(h.ds D hD).1, hA4.same D _ (h.ds D hD).2 rfl⟩⟩, hA4, hbx, hA4.size, hA1⟩; exact Below.trans h.up hA5
theorem okS_snoc (want rest : Acc) (i : Nat) (ps : List Chg) (p : Chg) : okS want rest i (ps ++ [p]) = okS want rest i ps ++ if afterA rest p.2 = want then [⟨(i : Int), p.1.k, p.1.m⟩] else [] := by
  unfold okS
  rw [List.filter_append, List.map_append]
  by_cases h : afterA rest p.2 = want
  · simp [h]
  · simp [h]
theorem okS_len (want rest : Acc) (i : Nat) (ps : List Chg) : (okS want rest i ps).length ≤ ps.length := by
  unfold okS
  rw [List.length_map]; exact List.length_filter_le _ _
theorem changesL_len (x : Ent) : (changesL x).length ≤ 114 := by
  have hA : ∀ (m k : Nat), (chA x m k).length ≤ m := by
    intro m
    induction m with
    | zero => intro k; simp [chA]
    | succ m ih =>
      intro k; have := ih (k + 1); rw [chA]
      split <;> (try simp only [List.length_cons]) <;> omega
  have hF : ∀ (m k : Nat), (chF x m k).length ≤ m := by
    intro m
    induction m with
    | zero => intro k; simp [chF]
    | succ m ih =>
      intro k; have := ih (k + 1); rw [chF]
      split <;> (try simp only [List.length_cons]) <;> omega
  have hT : ∀ (m k : Nat), (chT x m k).length ≤ m := by
    intro m
    induction m with
    | zero => intro k; simp [chT]
    | succ m ih =>
      intro k; have := ih (k + 1); rw [chT]
      split <;> (try simp only [List.length_cons]) <;> omega
  have h1 := hA 101 0; have h2 := hF 6 0; have h3 := hT 6 0
  unfold changesL
  simp only [List.length_append, List.length_cons]; omega
theorem slipsTo_len (l : List Ent) (want : Acc) : ∀ k, (slipsTo l want k).length ≤ 114 * k
  | 0 => by simp [slipsTo]
  | k + 1 => by
    have h1 := slipsTo_len l want k; have h2 := okS_len want (afterA (allA l) (turnE (rdEnt l k))) k (changesL (rdEnt l k)); have h3 := changesL_len (rdEnt l k); rw [slipsTo, List.length_append]; omega
theorem leaves_coll {F : Fence} {n B : Nat} {P : Program} {fn : Func} {tmps : Array Value} {R : Ending → World → Prop} (Pr : World → Prop) (hP : ∀ (W : World) (D : Nat), B ≤ D → Pr W → W.heap[D]? = some (.deferred (some [])) → Pr (W.putObj D (.deferred none))) (hfin : ∀ W, Pr W → LeavesInM F n P fn tmps R [] .returning W) :
    ∀ (Ds : List Nat) (W : World), (∀ D ∈ Ds, B ≤ D ∧ W.heap[D]? = some (.deferred (some []))) → Ds.Nodup → Pr W → LeavesInM F n P fn tmps R (Ds.map fun D => { target := .collected D, args := #[] }) .returning W
  | [], W, _, _, h => hfin W h
  | D :: Ds, W, hD, hn, h => by
    have h0 := hD D (List.mem_cons_self ..); refine ⟨by simp, .inl ⟨D, _, rfl, run_takeDeferred h0.2, ?_⟩⟩; refine leaves_coll Pr hP hfin Ds _ (fun D' h' => ?_) (List.nodup_cons.1 hn).2 (hP W D h0.1 h h0.2)
    have hne : D' ≠ D := fun e => (List.nodup_cons.1 hn).1 (e ▸ h')
    have h1 := hD D' (List.mem_cons_of_mem _ h'); exact ⟨h1.1, (World.putObj_heap_other hne).trans h1.2⟩
theorem slips_fin {w W : World} {B7 B9 : Nat} {want now : Acc} {Ds : List Nat} {ss : List Slp} {val : Value} {n : Nat} {fn : Func} {tmps : Array Value} {R : Ending → World → Prop} (h : SlipI w w.heap.size B7 B9 want now Ds ss W) (hb : Boxed W w.heap.size 63 val) (hnd : Ds.Nodup)
    (hres : ∀ W' : World, W'.cell? ⟨w.heap.size, 0, none⟩ = some val → W'.ownsRow w.heap.size 70 3 val ss.length (ss.flatMap encSlp) → Up w W' → ∃ v, (results fn tmps).run Try.prog W' = .ok v W' ∧ R (.returned v) W') :
    LeavesInM Fence.wide n Try.prog fn tmps R (Ds.map fun D => { target := .collected D, args := #[] }) .returning (W.setCell ⟨w.heap.size, 0, none⟩ val) := by
  obtain ⟨v, g1, g2, g3⟩ := h.b4
  have e : v = val := by
    have h8 := (show W.heap[w.heap.size]? = _ from g1).symm.trans hb
    simpa using h8
  subst e; have hne := Boxed.not_row g1 (by decide) g2; have hb' : Boxed (W.setCell ⟨w.heap.size, 0, none⟩ v) w.heap.size 63 v := Bx.set (show Bx W w.heap.size #[v] _ from g1) 0 v; have hI' : SlipI w w.heap.size B7 B9 want now [] ss (W.setCell ⟨w.heap.size, 0, none⟩ v) := ⟨⟨v, hb', own_miss g2 _ (fun e => hne e.symm) 0 v, g3⟩, h.b7.far (by have := h.h7; omega) _ _, h.b9.far (by have := h.h9; omega) _ _, h.up.set _ _ (Nat.le_refl _), h.h7, h.h9, fun D hD => by simp at hD⟩; refine leaves_coll (B := w.heap.size) (fun W' => SlipI w w.heap.size B7 B9 want now [] ss W' ∧ Boxed W' w.heap.size 63 v) ?_ ?_ Ds _ ?_ hnd ⟨hI', hb'⟩
  · rintro W' D hBD ⟨a1, a2⟩ hD
    have hO : OwnFrom w.heap.size (fun (_ : Unit) (W' : World) => SlipI w w.heap.size B7 B9 want now [] ss W' ∧ Boxed W' w.heap.size 63 v) := fun s A B row hs hg hr => ⟨hs.1.own w.heap.size (fun D hD => by simp at hD) (Nat.le_refl _) hg hr, Bx.own (show Bx A w.heap.size #[v] _ from hs.2) hg (fun r e => (hr r e).2)⟩
    exact hO.putObj (s := ()) _ ⟨a1, a2⟩ hBD hD rfl
  · rintro W' ⟨a1, a2⟩
    obtain ⟨v2, k1, k2, _⟩ := a1.b4
    have e2 : v2 = v := by
      have h8 := (show W'.heap[w.heap.size]? = _ from k1).symm.trans a2
      simpa using h8
    subst e2; exact hres W' a2.cell k2 a1.up
  · intro D hD
    exact ⟨Nat.le_of_lt (h.ds D hD).1, (KeepsOthers.setCell W ⟨w.heap.size, 0, none⟩ v).same D _ (h.ds D hD).2 rfl⟩
set_option maxRecDepth 100000 in
set_option maxHeartbeats 4000000 in
theorem slips_ok (A : Option Addr) (c : Nat) (l : List Ent) (A2 : Option Addr) (c2 : Nat) (b : List Int) (w : World) (hr : Kd.C kEnt w A l.length l) (hc : l.length ≤ c) (hr2 : Kd.C (Kd.int .i64) w A2 b.length b) (hc2 : b.length ≤ c2)
    (h1 : readE l = 0) (h2 : balB b = true) (h3 : allA l ≠ balA b) :
    Calls Try.prog 36 #[.slice A l.length c, .slice A2 b.length c2] w fun e w' => ∃ v, e = .returned (.tuple #[v, .int .i64 (slipsE l b)]) ∧ w'.ownsRow w.heap.size 70 3 v (slipsTo l (balA b) l.length).length ((slipsTo l (balA b) l.length).flatMap encSlp) ∧ Up w w' := by
  refine (callsIn_wide (n := 6)).1 ?_; refine callsIn_of_wp_marks Try.func36 rfl trivial ?_ rfl; simp only [Try.ntmps36, List.size_toArray, List.length_cons, List.length_nil, Nat.reduceAdd, Nat.reduceSub, Array.replicate_succ, Array.replicate_zero, List.push_toArray, List.append_toArray, List.nil_append, List.cons_append]; have hm := CF_len hr; have HR := Aside0.mk hr; have HR2 := Aside0.mk hr2
  have hb1 : (readE l != 0) = false := by simp [h1]
  have HL := Aside0.mk (chk_of l (read_of l h1).1).2; have hn := (chk_of l (read_of l h1).1).1; have HBD := Aside0.mk (balA_bd b h2); have H2 := Aside0.mk h2; have hae := eq_acc; obtain ⟨want, hw⟩ : ∃ a, a = balA b := ⟨_, rfl⟩
  have hneq : decide (allA l = want) = false := by rw [hw]; exact decide_eq_false h3
  rw [← hw] at HBD; have HW := Aside0.mk hw; have H1 := Aside0.mk h1; clear hr hr2 h1 h2 h3 hw
  gi_wp2_with fail
  refine ⟨trivial, (callsIn_wide.2 (read_ A c l _ (C_up HR.out upA) hc)).mono ?_⟩; rintro e w1 ⟨rfl, hu1⟩; have HU1 := Aside0.mk hu1; clear hu1
  gi_wp2_with fail
  refine ⟨trivial, (callsIn_wide.2 (HW.out ▸ H2.out ▸ bal_ A2 c2 b _ (C_up HR2.out upA) hc2)).mono ?_⟩; rintro e w2 ⟨rfl, hu2⟩; have HU2 := Aside0.mk hu2; clear hu2
  gi_wp2_with fail
  refine ⟨trivial, (callsIn_wide.2 (all_ A c l _ (C_up HR.out upA) hc HL.out (by omega))).mono ?_⟩; rintro e w3 ⟨rfl, hu3⟩; have HU3 := Aside0.mk hu3; have hB7 : Bx w3 w2.heap.size #[.int .i64 (want).a0, .int .i64 (want).a1, .int .i64 (want).a2, .int .i64 (want).a3, .int .i64 (want).a4, .int .i64 (want).a5] 135 := (Bx.new w2 _ _).up hu3
  have hq7 : ∀ (C : Obj) o, (w3.alloc C).cell? ⟨w2.heap.size, o, none⟩ = (#[.int .i64 (want).a0, .int .i64 (want).a1, .int .i64 (want).a2, .int .i64 (want).a3, .int .i64 (want).a4, .int .i64 (want).a5] : Array Value)[o]? := fun C o => (hB7.up ((Up.refl _).alloc C)).cell o
  have HB7 := Aside0.mk hB7; clear hu3 hB7; obtain ⟨now, hnow⟩ : ∃ a, a = allA l := ⟨_, rfl⟩; rw [← hnow] at hneq; have HNOW := Aside0.mk hnow; rw [← hnow]; clear hnow
  gi_wp2_with fail
  have hI0 : SlipI w w.heap.size w2.heap.size w3.heap.size want now [] [] (w3.alloc (.cells #[.int .i64 (now).a0, .int .i64 (now).a1, .int .i64 (now).a2, .int .i64 (now).a3, .int .i64 (now).a4, .int .i64 (now).a5] 135)) := by
    refine ⟨⟨.slice none 0 0, ?_, own_nil _ _ _ _, fun _ => rfl⟩, HB7.out.up ((Up.refl _).alloc _), Bx.new w3 _ _, ?_, ?_, ?_, fun D hD => by simp at hD⟩
    · exact (((((Bx.new w #[.slice none 0 0] 63).up HU1.out).up HU2.out).up ((Up.refl _).alloc _)).up HU3.out).up ((Up.refl _).alloc _)
    · exact (((((Up.refl w).alloc _).then HU1.out).then HU2.out).alloc _ |>.then HU3.out).alloc _
    · have q1 := HU1.out.le; have q2 := HU2.out.le; simp at q1; omega
    · have q1 := HU1.out.le; have q2 := HU2.out.le; have q3 := HU3.out.le; simp at q1 q3; omega
  have HI0 := Aside0.mk hI0; obtain ⟨B7, hB7e⟩ : ∃ B7, w2.heap.size = B7 := ⟨_, rfl⟩; obtain ⟨B9, hB9e⟩ : ∃ B9, w3.heap.size = B9 := ⟨_, rfl⟩; rw [hB7e, hB9e] at HI0; rw [hB7e, hB9e]; clear hI0 hB7e hB9e hq7 HB7; refine wpIn_loop (fun a' W => ∃ (k : Nat) (Ds : List Nat), ∃ u0 u1 u2 u3 u5 u6 u8 u10 u11 u12 u13 u14 u15 u16 u17 u18 u19 u20 u21 u22 u23 u24 u25 u26 u27 u28 u29 u30 u31 u32 u33 u37 u38 u39 u40 u41 u42 u43 u44 u45 u46 u47 u48 u49 u50 u51 u52 u53 u54 u55 u56 u57 u58 u59 u60 u61 u62 u63 u64 u65 u66 u67 u68 : Value, (k ≤ l.length ∧ Aside0 (SlipI w w.heap.size B7 B9 want now Ds (slipsTo l want k) W) ∧ Aside0 Ds.Nodup) ∧ a' = { tmps := #[u0, u1, u2, u3, .pointer (some ⟨w.heap.size, 0, none⟩), u5, u6, .pointer (some ⟨B7, 0, none⟩), u8, .pointer (some ⟨B9, 0, none⟩), u10, u11, u12, u13, u14, u15, u16, u17, u18, u19, u20, u21, u22, u23, u24, u25, u26, u27, u28, u29, u30, u31, u32, u33, .slice A l.length c, .int .i64 (l.length : Int), .int .i64 (k : Int), u37, u38, u39, u40, u41, u42, u43, u44, u45, u46, u47, u48, u49, u50, u51, u52, u53, u54, u55, u56, u57, u58, u59, u60, u61, u62, u63, u64, u65, u66, u67, u68], defers := Ds.map (fun D => { target := .collected D, args := #[] }) }) (fun a' _ => l.length - (intOf (a'.tmps.getD 36 undef)).toNat) ?_ ?_
  · refine ⟨0, [], ?_⟩
    (repeat apply Exists.intro)
    refine ⟨?_, rfl⟩; exact ⟨Nat.zero_le _, HI0, ⟨List.nodup_nil⟩⟩
  · rintro a' W ⟨k, Ds, u0, u1, u2, u3, u5, u6, u8, u10, u11, u12, u13, u14, u15, u16, u17, u18, u19, u20, u21, u22, u23, u24, u25, u26, u27, u28, u29, u30, u31, u32, u33, u37, u38, u39, u40, u41, u42, u43, u44, u45, u46, u47, u48, u49, u50, u51, u52, u53, u54, u55, u56, u57, u58, u59, u60, u61, u62, u63, u64, u65, u66, u67, u68, ⟨hk, hI, hnd⟩, rfl⟩
    dsimp only
    have hup := hI.out.up
    by_cases hlt : k < l.length
    · obtain ⟨ad, e, hx0, hx1, hx2⟩ := at_Ent (C_up HR.out hup) k (by omega) (by omega)
      cases e
      simp only [Int.toNat_natCast] at hx0 hx1 hx2
      have hi0 : (0 : Int) ≤ (k : Int) := by omega
      have hi1 : (k : Int) < (l.length : Int) := by omega
      have hdl : decide ((k : Int) < (l.length : Int)) = true := by simp; omega
      have HX := Aside0.mk (List.all_eq_true.1 HL.out _ (rdEnt_mem l k (by omega) (by omega))); have hxb := (entB_iff _).1 HX.out
      have hnb : AccB 2400 now := by
        have h9 := allA_bd l HL.out l.length (Nat.le_refl _); rw [List.take_length] at h9; rw [HNOW.out]; exact h9.mono (by omega)
      have HNB := Aside0.mk hnb
      have hST : slipsTo l want (k + 1) = slipsTo l want k ++ okS want (afterA now (turnE (rdEnt l k))) k (changesL (rdEnt l k)) := by rw [HNOW.out]; rfl
      have HST := Aside0.mk hST; obtain ⟨ss, hss⟩ : ∃ ss, ss = slipsTo l want k := ⟨_, rfl⟩; rw [← hss] at HST hI; have HSS := Aside0.mk hss
      generalize rdEnt l k = x at *
      have hcall := after_ now (turnE x) ((W.alloc (.cells #[.int .i64 (k : Int)] 3)).alloc (.cells #[.int .i64 (x).f, .int .i64 (x).t, .int .i64 (x).a] 101)) (hnb.mono (by omega)) hxb.2.1 hxb.1 (by simp only [turnE]; omega); simp only [turnE] at hcall
      have hq9 : ∀ (C D : Obj) o, ((W.alloc C).alloc D).cell? ⟨B9, o, none⟩ = (#[.int .i64 (now).a0, .int .i64 (now).a1, .int .i64 (now).a2, .int .i64 (now).a3, .int .i64 (now).a4, .int .i64 (now).a5] : Array Value)[o]? := fun C D o => ((hI.out.b9.up ((Up.refl W).alloc C)).up ((Up.refl _).alloc D)).cell o
      have hu2 := Try.underlying101; clear hST hss hnb
      gi_wp2_with fail
      refine ⟨trivial, (callsIn_wide.2 hcall).mono ?_⟩; clear hcall; rintro e w4 ⟨rfl, hu4⟩
      have hq11 : ∀ (C : Obj) o, (w4.alloc C).cell? ⟨W.heap.size + 1, o, none⟩ = (#[.int .i64 (x).f, .int .i64 (x).t, .int .i64 (x).a] : Array Value)[o]? := fun C o => by
        have h9 := Bx.new (W.alloc (.cells #[.int .i64 (k : Int)] 3)) #[.int .i64 (x).f, .int .i64 (x).t, .int .i64 (x).a] 101; simp only [World.size_alloc] at h9; exact ((h9.up hu4).up ((Up.refl _).alloc C)).cell o
      have HU4 : Aside0 (Up W w4) := ⟨(((Up.refl W).alloc _).alloc _).then hu4⟩; have HB10 : Aside0 (Bx w4 W.heap.size #[.int .i64 (k : Int)] 3) := ⟨((Bx.new W _ _).up ((Up.refl _).alloc _)).up hu4⟩; clear hu4 hx0 hx1 hx2 hq9; rw [show afterA now ⟨x.t, x.f, x.a⟩ = afterA now (turnE x) from rfl]; obtain ⟨rest, hrest⟩ : ∃ a, a = afterA now (turnE x) := ⟨_, rfl⟩; rw [← hrest] at HST; rw [← hrest]; have HREST := Aside0.mk hrest; clear hrest
      gi_wp2_with fail
      refine ⟨trivial, (callsIn_wide.2 (changes_ x _)).mono ?_⟩; rintro e w5 ⟨rfl, rfl⟩
      gi_wp2_with fail
      have hww := HU4.out.le; have hwW := hup.le
      have hdlt : ∀ D ∈ Ds, D < w4.heap.size := fun D hD => Nat.lt_of_lt_of_le (hI.out.dlt D hD) hww
      have hWR : Up W ((w4.alloc (.cells #[.int .i64 (rest).a0, .int .i64 (rest).a1, .int .i64 (rest).a2, .int .i64 (rest).a3, .int .i64 (rest).a4, .int .i64 (rest).a5] 135)).alloc (.cells #[.int .i64 (x).f, .int .i64 (x).t, .int .i64 (x).a] 101)) := (HU4.out.alloc _).alloc _; have hR0 : Bx ((w4.alloc (.cells #[.int .i64 (rest).a0, .int .i64 (rest).a1, .int .i64 (rest).a2, .int .i64 (rest).a3, .int .i64 (rest).a4, .int .i64 (rest).a5] 135)).alloc (.cells #[.int .i64 (x).f, .int .i64 (x).t, .int .i64 (x).a] 101)) w4.heap.size #[.int .i64 (rest).a0, .int .i64 (rest).a1, .int .i64 (rest).a2, .int .i64 (rest).a3, .int .i64 (rest).a4, .int .i64 (rest).a5] 135 := (Bx.new w4 _ _).up ((Up.refl _).alloc _)
      have hX0 : Bx ((w4.alloc (.cells #[.int .i64 (rest).a0, .int .i64 (rest).a1, .int .i64 (rest).a2, .int .i64 (rest).a3, .int .i64 (rest).a4, .int .i64 (rest).a5] 135)).alloc (.cells #[.int .i64 (x).f, .int .i64 (x).t, .int .i64 (x).a] 101)) (w4.heap.size + 1) #[.int .i64 (x).f, .int .i64 (x).t, .int .i64 (x).a] 101 := by
        have h9 := Bx.new (w4.alloc (.cells #[.int .i64 (rest).a0, .int .i64 (rest).a1, .int .i64 (rest).a2, .int .i64 (rest).a3, .int .i64 (rest).a4, .int .i64 (rest).a5] 135)) #[.int .i64 (x).f, .int .i64 (x).t, .int .i64 (x).a] 101
        simpa using h9
      have h10 : Bx ((w4.alloc (.cells #[.int .i64 (rest).a0, .int .i64 (rest).a1, .int .i64 (rest).a2, .int .i64 (rest).a3, .int .i64 (rest).a4, .int .i64 (rest).a5] 135)).alloc (.cells #[.int .i64 (x).f, .int .i64 (x).t, .int .i64 (x).a] 101)) W.heap.size #[.int .i64 (k : Int)] 3 := (HB10.out.up ((Up.refl _).alloc _)).up ((Up.refl _).alloc _); have hIR := hI.out.more hWR
      have hszR : ((w4.alloc (.cells #[.int .i64 (rest).a0, .int .i64 (rest).a1, .int .i64 (rest).a2, .int .i64 (rest).a3, .int .i64 (rest).a4, .int .i64 (rest).a5] 135)).alloc (.cells #[.int .i64 (x).f, .int .i64 (x).t, .int .i64 (x).a] 101)).heap.size = w4.heap.size + 2 := by simp
      generalize hWRe : (w4.alloc (.cells #[.int .i64 (rest).a0, .int .i64 (rest).a1, .int .i64 (rest).a2, .int .i64 (rest).a3, .int .i64 (rest).a4, .int .i64 (rest).a5] 135)).alloc (.cells #[.int .i64 (x).f, .int .i64 (x).t, .int .i64 (x).a] 101) = WR at *
      obtain ⟨i0, hi0, hk0, hk1, hk2⟩ := info_parts info_slip; clear hq11
      refine wpIn_rangeFunc_ownH (F := Fence.wide) rfl (by decide) (gf := 90) (lb := #[.pointer (some ⟨w4.heap.size + 1, 0, none⟩)]) rfl trivial (enters_of Try.func90 sqF rfl)
        (changes_stops x (w4.heap.size + 1) w (by omega) WR (hup.then hWR) hX0) Sv.trans
        (fun X q o o' hq _ _ _ => Sv.put X q o' (by simp only [chP]; omega)) (Below.refl _ _) (fun _ => rfl)
        (fun pre X => SlipI w w.heap.size B7 B9 want now Ds (ss ++ okS want rest k (pre.map (·.1))) X ∧ (Bx X W.heap.size #[.int .i64 (k : Int)] 3 ∧ Bx X w4.heap.size #[.int .i64 (rest).a0, .int .i64 (rest).a1, .int .i64 (rest).a2, .int .i64 (rest).a3, .int .i64 (rest).a4, .int .i64 (rest).a5] 135 ∧ Bx X (w4.heap.size + 1) #[.int .i64 (x).f, .int .i64 (x).t, .int .i64 (x).a] 101) ∧ w4.heap.size + 2 ≤ X.heap.size)
        (fun q pre X => False)
        (fun s A B row hs hg hr => ⟨hs.1.own WR.heap.size (fun D hD => by have := hdlt D hD; omega) (by omega) hg hr, ⟨hs.2.1.1.own hg (fun r e => (hr r e).2), hs.2.1.2.1.own hg (fun r e => (hr r e).2), hs.2.1.2.2.own hg (fun r e => (hr r e).2)⟩, Nat.le_trans hs.2.2 hg.size⟩)
        (fun q s A B row hs _ _ => hs.elim)
        ⟨by simpa [okS] using hIR, ⟨h10, hR0, hX0⟩, by omega⟩
        (fun y a' X => ∃ (Bq : Nat), ∃ v0 v1 v2 v3 v5 v6 v8 v11 v15 v16 v17 v18 v19 v20 v21 v22 v23 v24 v25 v26 v27 v28 v29 v30 v31 v32 v33 v34 v35 v36 v37 v38 v39 v40 v41 v42 v43 v44 v45 v46 v47 v48 v49 v50 v51 v52 v53 v54 v55 v56 v57 v58 v59 v60 v61 v62 v63 v64 v65 v66 v67 v68 : Value, a' = { tmps := #[v0, v1, v2, v3, .pointer (some ⟨w.heap.size, 0, none⟩), v5, v6, .pointer (some ⟨B7, 0, none⟩), v8, .pointer (some ⟨B9, 0, none⟩), .pointer (some ⟨W.heap.size, 0, none⟩), v11, .pointer (some ⟨w4.heap.size, 0, none⟩), .pointer (some ⟨Bq, 0, none⟩), .pointer (some ⟨Bq + 1, 0, none⟩), v15, v16, v17, v18, v19, v20, v21, v22, v23, v24, v25, v26, v27, v28, v29, v30, v31, v32, v33, v34, v35, v36, v37, v38, v39, v40, v41, v42, v43, v44, v45, v46, v47, v48, v49, v50, v51, v52, v53, v54, v55, v56, v57, v58, v59, v60, v61, v62, v63, v64, v65, v66, v67, v68], defers := [] } ∧ w4.heap.size + 2 ≤ Bq ∧ Bx X Bq #[.int .i64 y.1.1.e, .int .i64 y.1.1.k, .int .i64 y.1.1.m] 70 ∧ Bx X (Bq + 1) #[.int .i64 (y.1.2).f, .int .i64 (y.1.2).t, .int .i64 (y.1.2).a] 101 ∧ ∀ v, Boxed X w.heap.size 63 v → v.ownBlock ≠ some Bq)
        (fun y a' => (fun s A B row hs hg hr => by obtain ⟨Bq, v0, v1, v2, v3, v5, v6, v8, v11, v15, v16, v17, v18, v19, v20, v21, v22, v23, v24, v25, v26, v27, v28, v29, v30, v31, v32, v33, v34, v35, v36, v37, v38, v39, v40, v41, v42, v43, v44, v45, v46, v47, v48, v49, v50, v51, v52, v53, v54, v55, v56, v57, v58, v59, v60, v61, v62, v63, v64, v65, v66, v67, v68, h1, h2, h3, h4, h5⟩ := hs; exact ⟨Bq, v0, v1, v2, v3, v5, v6, v8, v11, v15, v16, v17, v18, v19, v20, v21, v22, v23, v24, v25, v26, v27, v28, v29, v30, v31, v32, v33, v34, v35, v36, v37, v38, v39, v40, v41, v42, v43, v44, v45, v46, v47, v48, v49, v50, v51, v52, v53, v54, v55, v56, v57, v58, v59, v60, v61, v62, v63, v64, v65, v66, v67, v68, h1, h2, h3.own hg (fun r e => (hr r e).2), h4.own hg (fun r e => (hr r e).2), fun v hv => h5 v ((hg.block w.heap.size (by have := h3.lt; omega) (fun e => by have := (hr w.heap.size e.symm).1; omega)).symm.trans hv)⟩))
        ?assign ?body ?done ?stop
      case stop =>
        rintro D q pre X hD hpre h; exact h.elim
      case assign =>
        rintro q pre y X K ⟨hIx, hBs, hz⟩ hK
        dsimp only [encG]
        gi_wp2_with fail
        refine hK _ _ ?k1 ?k2 ?k3 ?k4
        case k1 => exact ((KeepsOthers.alloc _ _).trans (KeepsOthers.alloc _ _)).from _
        case k2 => exact ((Sv.refl _ X).alloc _ (fun q hq => by simp only [chP] at hq; omega)).alloc _ (fun q hq => by simp only [chP] at hq; simp; omega)
        case k3 => exact ⟨hIx.more (((Up.refl X).alloc _).alloc _), ⟨hBs.1.up (((Up.refl X).alloc _).alloc _), hBs.2.1.up (((Up.refl X).alloc _).alloc _), hBs.2.2.up (((Up.refl X).alloc _).alloc _)⟩, by simp; omega⟩
        case k4 =>
          refine ⟨X.heap.size, ?_⟩
          (repeat apply Exists.intro)
          refine ⟨rfl, hz, (Bx.new X _ _).up ((Up.refl _).alloc _), ?_, fun v hv => ?_⟩
          rotate_left
          · obtain ⟨v0, g1, g2, _⟩ := hIx.b4
            have g3 := (show Bx X w.heap.size #[v0] _ from g1).up (((Up.refl X).alloc (.cells #[.int .i64 y.1.1.e, .int .i64 y.1.1.k, .int .i64 y.1.1.m] 70)).alloc (.cells #[.int .i64 (y.1.2).f, .int .i64 (y.1.2).t, .int .i64 (y.1.2).a] 101))
            have g4 : v0 = v := by
              have h8 := (show _ = some (Obj.cells #[v0] 63 (0, 0)) from g3).symm.trans hv
              simpa using h8
            subst g4
            rcases g2.2 with ⟨rfl, _⟩ | ⟨g, cap, cur, rfl, _, hgb, _⟩
            · simp [Value.ownBlock]
            · have := (Array.getElem?_eq_some_iff.1 hgb).1
              simp [Value.ownBlock]
              omega
          have h9 := Bx.new (X.alloc (.cells #[.int .i64 y.1.1.e, .int .i64 y.1.1.k, .int .i64 y.1.1.m] 70)) #[.int .i64 (y.1.2).f, .int .i64 (y.1.2).t, .int .i64 (y.1.2).a] 101
          simpa using h9
      case body =>
        rintro q pre y a' X hq _ ⟨hIx, hBs, hz⟩ ⟨Bq, v0, v1, v2, v3, v5, v6, v8, v11, v15, v16, v17, v18, v19, v20, v21, v22, v23, v24, v25, v26, v27, v28, v29, v30, v31, v32, v33, v34, v35, v36, v37, v38, v39, v40, v41, v42, v43, v44, v45, v46, v47, v48, v49, v50, v51, v52, v53, v54, v55, v56, v57, v58, v59, v60, v61, v62, v63, v64, v65, v66, v67, v68, rfl, hBq, hS, hE, hvq⟩ hN
        dsimp only
        have hyb := changes_bd x HX.out y.1 y.2
        have hrb : AccB 2600 rest := by rw [HREST.out]; exact (HNB.out.after (m := 100) _ (by simp only [turnE]; omega)).mono (by omega)
        have HRB := Aside0.mk (hrb.mono (m := 1000000) (by omega)); have hr1 := hBs.2.1.cell; have hr2 := hE.cell; have hr3 := hIx.b7.cell; have hl1 := hBs.2.1.lt; have hl5 := hBs.2.2.lt; have hl2 := hE.lt; have hl3 := hIx.b7.lt; have hl4 := hS.lt; obtain ⟨sq, hsq⟩ : ∃ s, s = ss ++ okS want rest k (pre.map (·.1)) := ⟨_, rfl⟩; rw [← hsq] at hIx; have HSQ := Aside0.mk hsq; clear hsq; have HIX := Aside0.mk hIx; have HBS := Aside0.mk hBs; have HS := Aside0.mk hS; have HVQ := Aside0.mk hvq; have HHE := Aside0.mk hE; clear hrb hIx hBs hS hE hvq
        gi_wp2_with fail
        gi_region_with (refine ⟨trivial, (CallsIn.inRound _ (callsIn_wide.2 (after_ rest y.1.2 _ HRB.out hyb.1 hyb.2.1 (by omega)))).mono ?_⟩; rintro e w' ⟨rfl, hb⟩; have hr3' : ∀ o, w'.cell? ⟨B7, o, none⟩ = (#[.int .i64 (want).a0, .int .i64 (want).a1, .int .i64 (want).a2, .int .i64 (want).a3, .int .i64 (want).a4, .int .i64 (want).a5] : Array Value)[o]? := (fun o => (hb.old.1 _ o (by simp; omega)).trans (hr3 o)); have hbA := Aside0.mk hb; clear hb)
        all_goals
          have HUX : Aside0 (Up X w') := ⟨((Up.refl X).drew).then hbA.out⟩; obtain ⟨v, hv0, hrow0, hnil0⟩ := HIX.out.b4; have hvne := HVQ.out v hv0; have hI2 := HIX.out.more HUX.out; have hsz2 := HUX.out.le; have hqw := hI2.h7; have hqw9 := hI2.h9; have hb7l := HIX.out.b7.lt; have hb9l := HIX.out.b9.lt; have HI2 := Aside0.mk hI2; clear hr1 hr2 hr3 hr3' hI2
          have hln : sq.length ≤ 10000 := by
            rw [HSQ.out]; have q1 := slipsTo_len l want k; rw [← HSS.out] at q1; have q2 := okS_len want rest k (pre.map (·.1)); have q3 := changesL_len x; rw [List.length_map] at q2; rw [List.length_append]; omega
          by_cases hc : afterA rest y.1.2 = want
          · have HC := Aside0.mk hc
            have hI1 := HI2.out.set Bq (by omega) (by omega) (by have := hI.out.b7.lt; omega) (by have := hI.out.b9.lt; omega) (fun v' hv' => by
              have h8 := (Bx.up (show Bx X w.heap.size #[v] _ from hv0) HUX.out).symm.trans hv'
              have h7 : v = v' := by simpa using h8
              rw [← h7]; exact hvne) 0 (.int .i64 (k : Int))
            have hv1 : Boxed (w'.setCell ⟨Bq, 0, none⟩ (.int .i64 (k : Int))) w.heap.size 63 v := Bx.far (Bx.up (show Bx X w.heap.size #[v] _ from hv0) HUX.out) (by omega) _ _; have hrow1 := own_miss (own_up hrow0 HUX.out) Bq hvne 0 (.int .i64 (k : Int)); have hxrow := (Bx.not_row HBS.out.2.2 (by decide) hrow0)
            have hqS1 : ∀ o, (w'.setCell ⟨Bq, 0, none⟩ (.int .i64 (k : Int))).cell? ⟨Bq, o, none⟩ = (#[.int .i64 (k : Int), .int .i64 y.1.1.k, .int .i64 y.1.1.m] : Array Value)[o]? := fun o => ((HS.out.up HUX.out).set 0 (.int .i64 (k : Int))).cell o
            have hqS := (HS.out.up HUX.out).cell; have hfS := (HS.out.up HUX.out).frozen; have hq10 := (HBS.out.1.up HUX.out).cell; have hq4 : (w'.setCell ⟨Bq, 0, none⟩ (.int .i64 (k : Int))).cell? ⟨w.heap.size, 0, none⟩ = some v := hv1.cell; have HI1 := Aside0.mk hI1; have HV1 := Aside0.mk hv1; have HROW1 := Aside0.mk hrow1; clear hI1 hv1 hrow1 hv0 hrow0
            gi_wp2_with (gi_at_builtin; refine wpListIn_append_own _ rfl _ _ 63 rfl w.heap.size 70 i0 _ 3 24 Try.underlying63 hi0 hk0 hk1 hk2 rfl (by decide) v sq.length (sq.flatMap encSlp) rfl (own_up HROW1.out ((Up.refl _).alloc _)) ⟨w'.heap.size, 0, none⟩ 1 1 [.int .i64 (k : Int), .int .i64 y.1.1.k, .int .i64 y.1.1.m] (by first | rfl | go_simp) rfl ?qc2 ?qc3 ?qc4 ?qc5 ?qc6 ?_)
            case qc2 =>
              intro j u hu
              match j, hu with
              | 0, hu => simp at hu; subst hu; simp [go_sem]
              | 1, hu => simp at hu; subst hu; simp [go_sem]
              | 2, hu => simp at hu; subst hu; simp [go_sem]
            case qc3 => intro u hu; simp at hu; rcases hu with rfl | rfl | rfl <;> rfl
            case qc4 => unfold maxLen; omega
            case qc5 => omega
            case qc6 => have q1 := HIX.out.up.le; simp; omega
            intro v' w3 hown hgrow _; obtain ⟨g, cap, rfl⟩ := ownsRow_succ hown; have hqW1 := hI.out.h7; have hqW2 := hI.out.b7.lt; obtain ⟨hA1, hA2, hA3, hA4, hA5⟩ := slipI_app HI1.out ⟨(k : Int), y.1.1.k, y.1.1.m⟩ _ HV1.out HROW1.out hgrow hown rfl
            have hsv : Sv (chP w.heap.size (w4.heap.size + 1)) X (w3.setCell ⟨w.heap.size, 0, none⟩ (.slice (some ⟨g, 0, none⟩) (sq.length + 1) cap)) := by
              refine Sv.set ((((HUX.out.sv ?_).set _ _ ?_).alloc _ ?_).trans (Sv.grown hgrow ?_ ?_)) _ _ ?_
              · intro q hq; simp only [chP] at hq; omega
              · simp only [chP]; omega
              · intro q hq; simp only [chP] at hq; simp; omega
              · intro q hq; simp only [chP] at hq; simp; omega
              · intro q hq e
                have q1 := own_base HROW1.out q e.symm; simp only [chP] at hq
                rcases hq with hq | hq
                · omega
                · exact hxrow (e.symm.trans (by rw [hq]))
              · simp only [chP]; omega
            have hK9 : KeepsOthers X (w3.setCell ⟨w.heap.size, 0, none⟩ (.slice (some ⟨g, 0, none⟩) (sq.length + 1) cap)) := ((upKeeps HUX.out).trans (KeepsOthers.setCell w' ⟨Bq, 0, none⟩ _)).trans hA2; have hb1 := hA3 _ _ _ ((HBS.out.1.up HUX.out).far (B' := Bq) (by omega) 0 (.int .i64 (k : Int))) (by decide) (by omega); have hb2 := hA3 _ _ _ ((HBS.out.2.1.up HUX.out).far (B' := Bq) (by omega) 0 (.int .i64 (k : Int))) (by decide) (by omega); have hb3 := hA3 _ _ _ ((HBS.out.2.2.up HUX.out).far (B' := Bq) (by omega) 0 (.int .i64 (k : Int))) (by decide) (by omega); have hcv := hA5.cell; have hfv := hA5.frozen; simp only [World.size_setCell] at hA4; have H1 := Aside0.mk hA1; have H2' := Aside0.mk hK9; have H3 := Aside0.mk hsv; have HB1 := Aside0.mk hb1; have HB2 := Aside0.mk hb2; have HB3 := Aside0.mk hb3; clear hA1 hA2 hA3 hA5 hown hgrow hsv hK9 hb1 hb2 hb3 hqS1 hqS hfS hq10 hq4
            gi_wp2_with fail
            refine ⟨H2'.out.from _, H3.out, ?_, ⟨HB1.out, HB2.out, HB3.out⟩, by simp only [World.size_setCell]; omega⟩; have h9 := H1.out; rw [List.map_append, List.map_cons, List.map_nil, okS_snoc, if_pos HC.out, ← List.append_assoc, ← HSQ.out]; exact h9
          · have HC := Aside0.mk hc
            clear hv0 hrow0
            gi_wp2_with fail
            refine ⟨(upKeeps HUX.out).from _, HUX.out.sv (fun q hq => by simp only [chP] at hq; omega), ?_, ⟨HBS.out.1.up HUX.out, HBS.out.2.1.up HUX.out, HBS.out.2.2.up HUX.out⟩, by omega⟩; have h9 := HI2.out; rw [List.map_append, List.map_cons, List.map_nil, okS_snoc, if_neg HC.out, List.append_nil, ← HSQ.out]; exact h9
      case done =>
        rintro D ys X hD hys ⟨hIx, hBs, hz⟩ hK; have HIX := Aside0.mk hIx; have HYS := Aside0.mk hys; have HK := Aside0.mk hK; clear hIx hys hK hBs
        gi_wp2_with fail
        refine ⟨⟨k + 1, D :: Ds, ?_⟩, ?_⟩
        · (repeat apply Exists.intro)
          refine ⟨⟨by omega, ⟨?slip⟩, ⟨?nodup⟩⟩, ?eq⟩
          rotate_left 2
          case slip =>
            have h9 := HIX.out; rw [HYS.out, ← HST.out] at h9; refine ⟨h9.b4, h9.b7, h9.b9, h9.up, h9.h7, h9.h9, fun D' h' => ?_⟩
            rcases List.mem_cons.1 h' with rfl | h'
            · exact ⟨by omega, HK.out⟩
            · exact h9.ds D' h'
          case nodup => exact List.nodup_cons.2 ⟨fun h' => by have q1 := hdlt D h'; omega, hnd.out⟩
          case eq =>
            rw [show ((k : Int) + 1) = ((k + 1 : Nat) : Int) from by omega]; rfl
        · simp [intOf]; omega
    · obtain rfl : k = l.length := by omega
      have hdl : decide ((l.length : Int) < (l.length : Int)) = false := by simp
      obtain ⟨v, g1, g2, g3⟩ := hI.out.b4; have hq4 : W.cell? ⟨w.heap.size, 0, none⟩ = some v := g1.cell; have hf4 : W.frozen? ⟨w.heap.size, 0, none⟩ = false := g1.frozen
      have q63 : ∀ (w : World) (a : Option Addr) (n c n' c' : Nat), (binOp .eql 63 (.slice a n c) (.slice none n' c')).run Try.prog w = .ok (.bool a.isNone) w := fun w a n c n' c' => Lib.run_eql_slice_nil w _ _ a n c n' c' Try.underlying63
      have hsE : slipsE l b = if slipsTo l want l.length = [] then 7 else 0 := by
        unfold slipsE
        rw [if_pos H1.out, if_pos H2.out, if_neg (by rw [← HNOW.out, ← HW.out]; exact of_decide_eq_false hneq), ← HW.out]
      have HSE := Aside0.mk hsE
      by_cases hz : slipsTo l want l.length = []
      · obtain rfl := g3 hz
        have HZ := Aside0.mk hz; have G1 := Aside0.mk g1; have G2 := Aside0.mk g2; clear hz g1 g2 g3 hsE
        gi_wp2_with fail
        refine slips_fin hI.out G1.out hnd.out ?_; intro W' hc' ho' hu'; refine ⟨.tuple #[_, .int .i64 (slipsE l b)], ?_, _, rfl, by rw [← HW.out]; exact ho', hu'⟩; rw [HSE.out, if_pos HZ.out]
        simp [results, Try.results36, go_sem, hc']
      · have hv : ∃ g cap, v = .slice (some ⟨g, 0, none⟩) (slipsTo l want l.length).length cap := by
          rcases g2.2 with ⟨rfl, h0⟩ | ⟨g, cap, cur, rfl, _⟩
          · exact absurd (List.eq_nil_of_length_eq_zero h0) hz
          · exact ⟨g, cap, rfl⟩
        obtain ⟨g, cap, rfl⟩ := hv; have HZ := Aside0.mk hz; have G1 := Aside0.mk g1; have G2 := Aside0.mk g2; clear hz g1 g2 g3 hsE
        gi_wp2_with fail
        refine slips_fin hI.out G1.out hnd.out ?_; intro W' hc' ho' hu'; refine ⟨.tuple #[_, .int .i64 (slipsE l b)], ?_, _, rfl, by rw [← HW.out]; exact ho', hu'⟩; rw [HSE.out, if_neg HZ.out]
        simp [results, Try.results36, go_sem, hc']
end Go.Proofs.Ytdlekcdedahbhaa
namespace Go.Proofs.Ytdlekcdedahbhaa
open Go.RowKit Go.Shelf Go.Proofs.YtdlekcdedahbhaaW.PrintWords
set_option linter.unusedVariables false
set_option linter.unusedSimpArgs false
attribute [local go_sem] Oper.semAt_some
set_option maxRecDepth 100000 in
set_option maxHeartbeats 4000000 in
theorem slips_err (A : Option Addr) (c : Nat) (l : List Ent) (A2 : Option Addr) (c2 : Nat) (b : List Int) (w : World) (hr : Kd.C kEnt w A l.length l) (hc : l.length ≤ c) (hr2 : Kd.C (Kd.int .i64) w A2 b.length b) (hc2 : b.length ≤ c2)
    (h : readE l ≠ 0 ∨ balB b = false ∨ allA l = balA b) :
    Calls Try.prog 36 #[.slice A l.length c, .slice A2 b.length c2] w fun e w' => e = .returned (.tuple #[.slice none 0 0, .int .i64 (slipsE l b)]) ∧ Up w w' := by
  refine (callsIn_wide (n := 6)).1 ?_; refine callsIn_of_wp_marks Try.func36 rfl trivial ?_ rfl; simp only [Try.ntmps36, List.size_toArray, List.length_cons, List.length_nil, Nat.reduceAdd, Nat.reduceSub, Array.replicate_succ, Array.replicate_zero, List.push_toArray, List.append_toArray, List.nil_append, List.cons_append]; have HR := Aside0.mk hr; have HR2 := Aside0.mk hr2; have hae := eq_acc; clear hr hr2
  by_cases h1 : readE l = 0
  · skip
    have hb1 : (readE l != 0) = false := by simp [h1]
    have HL := Aside0.mk (chk_of l (read_of l h1).1).2; have hn := (chk_of l (read_of l h1).1).1; have H1 := Aside0.mk h1; obtain ⟨want, hw⟩ : ∃ a, a = balA b := ⟨_, rfl⟩; have HW := Aside0.mk hw
    cases h2 : balB b
    · have HE := Aside0.mk (show slipsE l b = 4 by simp [slipsE, h1, h2])
      have H2 := Aside0.mk h2; clear h1 h2 hw h
      gi_wp2_with fail
      refine ⟨trivial, (callsIn_wide.2 (read_ A c l _ (C_up HR.out upA) hc)).mono ?_⟩; rintro e w1 ⟨rfl, hu1⟩; have HU1 := Aside0.mk hu1; clear hu1
      gi_wp2_with fail
      refine ⟨trivial, (callsIn_wide.2 (HW.out ▸ H2.out ▸ bal_ A2 c2 b _ (C_up HR2.out upA) hc2)).mono ?_⟩; rintro e w2 ⟨rfl, hu2⟩; have HU2 := Aside0.mk hu2; clear hu2
      gi_wp2_with fail
      refine ⟨trivial, (callsIn_wide.2 (all_ A c l _ (C_up HR.out upA) hc HL.out (by omega))).mono ?_⟩; rintro e w3 ⟨rfl, hu3⟩; have HU3 := Aside0.mk hu3; clear hu3; obtain ⟨now, hnow⟩ : ∃ a, a = allA l := ⟨_, rfl⟩; have HNOW := Aside0.mk hnow; rw [← hnow]; clear hnow; have HB4 : Aside0 (Bx w3 w.heap.size #[.slice none 0 0] 63) := ⟨((((Bx.new w #[.slice none 0 0] 63).up HU1.out).up HU2.out).up ((Up.refl _).alloc (.cells #[.int .i64 (want).a0, .int .i64 (want).a1, .int .i64 (want).a2, .int .i64 (want).a3, .int .i64 (want).a4, .int .i64 (want).a5] 135))).up HU3.out⟩
      have hq4 : ∀ (C : Obj) o, (w3.alloc C).cell? ⟨w.heap.size, o, none⟩ = (#[.slice none 0 0] : Array Value)[o]? := fun C o => (HB4.out.up ((Up.refl _).alloc C)).cell o
      have hf4 : ∀ (C : Obj) o, (w3.alloc C).frozen? ⟨w.heap.size, o, none⟩ = false := fun C o => (HB4.out.up ((Up.refl _).alloc C)).frozen o
      gi_wp2_with fail
      have hb4 := (Bx.set (((((((Bx.new w #[.slice none 0 0] 63).up HU1.out).up HU2.out).up ((Up.refl _).alloc (.cells #[.int .i64 (want).a0, .int .i64 (want).a1, .int .i64 (want).a2, .int .i64 (want).a3, .int .i64 (want).a4, .int .i64 (want).a5] 135))).up HU3.out).up ((Up.refl _).alloc (.cells #[.int .i64 (now).a0, .int .i64 (now).a1, .int .i64 (now).a2, .int .i64 (now).a3, .int .i64 (now).a4, .int .i64 (now).a5] 135)))) 0 (.slice none 0 0)).cell; have hup4 := ((((((((Up.refl w).alloc (.cells #[.slice none 0 0] 63)).then HU1.out).then HU2.out).alloc (.cells #[.int .i64 (want).a0, .int .i64 (want).a1, .int .i64 (want).a2, .int .i64 (want).a3, .int .i64 (want).a4, .int .i64 (want).a5] 135)).then HU3.out).alloc (.cells #[.int .i64 (now).a0, .int .i64 (now).a1, .int .i64 (now).a2, .int .i64 (now).a3, .int .i64 (now).a4, .int .i64 (now).a5] 135)).set ⟨w.heap.size, 0, none⟩ (.slice none 0 0) (Nat.le_refl _)); refine ⟨.tuple #[.slice none 0 0, .int .i64 (slipsE l b)], ?_, rfl, hup4⟩; rw [HE.out]; have h0 := hb4 0
      simp [results, Try.results36, go_sem, h0]
    · have h3 : allA l = balA b := by simpa [h1, h2] using h
      have HE := Aside0.mk (show slipsE l b = 6 by simp [slipsE, h1, h2, h3]); have H2 := Aside0.mk h2
      have hneq : decide (allA l = want) = true := by rw [hw]; exact decide_eq_true h3
      clear h1 h2 hw h h3
      gi_wp2_with fail
      refine ⟨trivial, (callsIn_wide.2 (read_ A c l _ (C_up HR.out upA) hc)).mono ?_⟩; rintro e w1 ⟨rfl, hu1⟩; have HU1 := Aside0.mk hu1; clear hu1
      gi_wp2_with fail
      refine ⟨trivial, (callsIn_wide.2 (HW.out ▸ H2.out ▸ bal_ A2 c2 b _ (C_up HR2.out upA) hc2)).mono ?_⟩; rintro e w2 ⟨rfl, hu2⟩; have HU2 := Aside0.mk hu2; clear hu2
      gi_wp2_with fail
      refine ⟨trivial, (callsIn_wide.2 (all_ A c l _ (C_up HR.out upA) hc HL.out (by omega))).mono ?_⟩; rintro e w3 ⟨rfl, hu3⟩; have HU3 := Aside0.mk hu3; clear hu3; have hB7 : Bx w3 w2.heap.size #[.int .i64 (want).a0, .int .i64 (want).a1, .int .i64 (want).a2, .int .i64 (want).a3, .int .i64 (want).a4, .int .i64 (want).a5] 135 := (Bx.new w2 _ _).up HU3.out
      have hq7 : ∀ (C : Obj) o, (w3.alloc C).cell? ⟨w2.heap.size, o, none⟩ = (#[.int .i64 (want).a0, .int .i64 (want).a1, .int .i64 (want).a2, .int .i64 (want).a3, .int .i64 (want).a4, .int .i64 (want).a5] : Array Value)[o]? := fun C o => (hB7.up ((Up.refl _).alloc C)).cell o
      clear hB7; obtain ⟨now, hnow⟩ : ∃ a, a = allA l := ⟨_, rfl⟩; rw [← hnow] at hneq; have HNOW := Aside0.mk hnow; rw [← hnow]; clear hnow; have HB4 : Aside0 (Bx w3 w.heap.size #[.slice none 0 0] 63) := ⟨((((Bx.new w #[.slice none 0 0] 63).up HU1.out).up HU2.out).up ((Up.refl _).alloc (.cells #[.int .i64 (want).a0, .int .i64 (want).a1, .int .i64 (want).a2, .int .i64 (want).a3, .int .i64 (want).a4, .int .i64 (want).a5] 135))).up HU3.out⟩
      have hq4 : ∀ (C : Obj) o, (w3.alloc C).cell? ⟨w.heap.size, o, none⟩ = (#[.slice none 0 0] : Array Value)[o]? := fun C o => (HB4.out.up ((Up.refl _).alloc C)).cell o
      have hf4 : ∀ (C : Obj) o, (w3.alloc C).frozen? ⟨w.heap.size, o, none⟩ = false := fun C o => (HB4.out.up ((Up.refl _).alloc C)).frozen o
      gi_wp2_with fail
      have hb4 := (Bx.set (((((((Bx.new w #[.slice none 0 0] 63).up HU1.out).up HU2.out).up ((Up.refl _).alloc (.cells #[.int .i64 (want).a0, .int .i64 (want).a1, .int .i64 (want).a2, .int .i64 (want).a3, .int .i64 (want).a4, .int .i64 (want).a5] 135))).up HU3.out).up ((Up.refl _).alloc (.cells #[.int .i64 (now).a0, .int .i64 (now).a1, .int .i64 (now).a2, .int .i64 (now).a3, .int .i64 (now).a4, .int .i64 (now).a5] 135)))) 0 (.slice none 0 0)).cell; have hup4 := ((((((((Up.refl w).alloc (.cells #[.slice none 0 0] 63)).then HU1.out).then HU2.out).alloc (.cells #[.int .i64 (want).a0, .int .i64 (want).a1, .int .i64 (want).a2, .int .i64 (want).a3, .int .i64 (want).a4, .int .i64 (want).a5] 135)).then HU3.out).alloc (.cells #[.int .i64 (now).a0, .int .i64 (now).a1, .int .i64 (now).a2, .int .i64 (now).a3, .int .i64 (now).a4, .int .i64 (now).a5] 135)).set ⟨w.heap.size, 0, none⟩ (.slice none 0 0) (Nat.le_refl _)); refine ⟨.tuple #[.slice none 0 0, .int .i64 (slipsE l b)], ?_, rfl, hup4⟩; rw [HE.out]; have h0 := hb4 0
      simp [results, Try.results36, go_sem, h0]
  · have hb1 : (readE l != 0) = true := by simp [h1]
    have HE := Aside0.mk (show slipsE l b = readE l by simp [slipsE, h1]); clear h1 h
    gi_wp2_with fail
    refine ⟨trivial, (callsIn_wide.2 (read_ A c l _ (C_up HR.out upA) hc)).mono ?_⟩; rintro e w1 ⟨rfl, hu1⟩; have HU1 := Aside0.mk hu1; clear hu1; have hq4 := ((Bx.new w #[.slice none 0 0] 63).up HU1.out).cell; have hf4 := ((Bx.new w #[.slice none 0 0] 63).up HU1.out).frozen
    gi_wp2_with fail
    have hb4 := (Bx.set ((Bx.new w #[.slice none 0 0] 63).up HU1.out) 0 (.slice none 0 0)).cell; have hup4 := (((Up.refl w).alloc (.cells #[.slice none 0 0] 63)).then HU1.out).set ⟨w.heap.size, 0, none⟩ (.slice none 0 0) (Nat.le_refl _); refine ⟨.tuple #[.slice none 0 0, .int .i64 (slipsE l b)], ?_, rfl, hup4⟩; rw [HE.out]; have h0 := hb4 0
    simp [results, Try.results36, go_sem, h0]
theorem slips_ (A : Option Addr) (c : Nat) (l : List Ent) (A2 : Option Addr) (c2 : Nat) (b : List Int) (w : World) (hr : Kd.C kEnt w A l.length l) (hc : l.length ≤ c) (hr2 : Kd.C (Kd.int .i64) w A2 b.length b) (hc2 : b.length ≤ c2) :
    Calls Try.prog 36 #[.slice A l.length c, .slice A2 b.length c2] w fun e w' => ∃ v, e = .returned (.tuple #[v, .int .i64 (slipsE l b)]) ∧ w'.ownsRow w.heap.size 70 3 v (slipsL l b).length ((slipsL l b).flatMap encSlp) ∧ Up w w' := by
  by_cases h : readE l ≠ 0 ∨ balB b = false ∨ allA l = balA b
  · refine (slips_err A c l A2 c2 b w hr hc hr2 hc2 h).mono ?_
    rintro e w' ⟨rfl, hu⟩
    have he : slipsL l b = [] := by
      unfold slipsL
      rw [if_neg]
      unfold slipsE
      rcases h with h | h | h
      · rw [if_neg h]; exact h
      · by_cases h1 : readE l = 0
        · simp [h1, h]
        · rw [if_neg h1]; exact h1
      · by_cases h1 : readE l = 0
        · cases h2 : balB b
          · simp [h1]
          · simp [h1, h]
        · rw [if_neg h1]; exact h1
    refine ⟨_, rfl, ?_, hu⟩; rw [he]; exact own_nil _ _ _ _
  · simp only [ne_eq, not_or, Decidable.not_not, Bool.not_eq_false] at h
    obtain ⟨h1, h2, h3⟩ := h; refine (slips_ok A c l A2 c2 b w hr hc hr2 hc2 h1 h2 h3).mono ?_; rintro e w' ⟨v, rfl, ho, hu⟩
    have he : slipsL l b = slipsTo l (balA b) l.length := by
      unfold slipsL slipsE
      rw [if_pos h1, if_pos h2, if_neg h3]
      by_cases hz : slipsTo l (balA b) l.length = []
      · simp [hz]
      · simp [hz]
    refine ⟨_, rfl, ?_, hu⟩; rw [he]; exact ho
end Go.Proofs.Ytdlekcdedahbhaa
namespace Go.Proofs.Ytdlekcdedahbhaa
open Go.RowKit Go.Shelf Go.Proofs.YtdlekcdedahbhaaW.PrintWords
set_option linter.unusedVariables false
set_option linter.unusedSimpArgs false
structure Kt (lo : Nat → Prop) (W W' : World) : Prop where
  os : W'.os = W.os
  tape : W'.tape = W.tape
  output : W'.output = W.output
  size : W.heap.size ≤ W'.heap.size
  same : ∀ (k : Nat) (o : Obj), W.heap[k]? = some o → (∀ C T z, o = Obj.cells C T z → ¬ lo T) → W'.heap[k]? = some o
theorem Kt.refl (lo : Nat → Prop) (W : World) : Kt lo W W := ⟨rfl, rfl, rfl, Nat.le_refl _, fun _ _ h _ => h⟩
theorem Kt.trans {lo : Nat → Prop} {A B C : World} (h : Kt lo A B) (k : Kt lo B C) : Kt lo A C := ⟨k.os.trans h.os, k.tape.trans h.tape, k.output.trans h.output, Nat.le_trans h.size k.size, fun i o hi hl => k.same i o (h.same i o hi hl) hl⟩
theorem Kt.up {lo : Nat → Prop} {A B : World} (h : Up A B) : Kt lo A B := ⟨h.os, h.tape, h.output, h.size, fun k o hk _ => (h.block k (Array.getElem?_eq_some_iff.1 hk).1).trans hk⟩
theorem Kt.bx {lo : Nat → Prop} {A B : World} (h : Kt lo A B) {b : Nat} {C : Array Value} {T : TypeId} (hb : Bx A b C T) (hT : ¬ lo T) : Bx B b C T :=
  h.same b _ hb (fun C' T' z e => by cases e; exact hT)
def Stays {β : Type} (ow : Nat → Prop) (B : Nat) (J : β → World → Prop) : Prop :=
  ∀ s W W' row, J s W → W.grownBy W' row → (∀ r, row = some r → B ≤ r ∧ ∃ o : Obj, W.heap[r]? = some o ∧ (o.isCells = false ∨ ∃ C T z, o = Obj.cells C T z ∧ ow T)) → J s W'
theorem Stays.putObj {β : Type} {ow : Nat → Prop} {B : Nat} {J : β → World → Prop} (h : Stays ow B J) {s : β} {W : World} {l : Nat} {o : Obj} (o' : Obj) (hs : J s W) (hB : B ≤ l) (hl : W.heap[l]? = some o) (ho : o.isCells = false) : J s (W.putObj l o') :=
  h s W _ (some l) hs (grownBy_putObj' W l o') (fun r e => by cases e; exact ⟨hB, o, hl, .inl ho⟩)
theorem Stays.alloc {β : Type} {ow : Nat → Prop} {B : Nat} {J : β → World → Prop} (h : Stays ow B J) {s : β} {W : World} (o : Obj) (hs : J s W) : J s (W.alloc o) :=
  h s W _ none hs (World.grownBy_alloc W o none) (fun r e => by cases e)
theorem Stays.up {β : Type} {ow : Nat → Prop} {B : Nat} {J : β → World → Prop} (h : Stays ow B J) {s : β} {W W' : World} (hs : J s W) (hu : Up W W') : J s W' :=
  h s W _ none hs (grown_of_below hu none) (fun r e => by cases e)
theorem Stays.set {β : Type} {ow : Nat → Prop} {B : Nat} {J : β → World → Prop} (h : Stays ow B J) {s : β} {W : World} {b : Nat} {C : Array Value} {T : TypeId} (hs : J s W) (hB : B ≤ b) (hb : Bx W b C T) (hT : ow T) (o : Nat) (u : Value) : J s (W.setCell ⟨b, o, none⟩ u) := by
  have hb0 := Below.setCell (B := 0) (Below.refl 0 W) (p := ⟨b, o, none⟩) (Nat.zero_le _) u; refine h s W _ (some b) hs ⟨hb0.os, hb0.tape, hb0.output, hb0.size, fun k _ hk => Below.heap_setCell W ⟨b, o, none⟩ u k (fun e => hk (by rw [e]))⟩ (fun r e => ?_)
  cases e
  exact ⟨hB, _, hb, .inr ⟨_, _, _, rfl, hT⟩⟩
def givesPost {α : Type} (lo : Nat → Prop) (I : List α → World → Prop) (xs : List α) (W : World) : Exit → Act → World → Prop
  | .normal, _, W' => Kt lo W W' ∧ I xs W'
  | _, _, _ => False
def Gives {α : Type} (F : Fence) (n : Nat) (P : Program) (g : Nat) (lb : Array Value) (G : World → Value → α → Prop) (lo ow : Nat → Prop) (L : List α) (w : World) : Prop :=
  ∀ (lp : Nat) (J : List α → World → Prop) (W : World), Up w W → Stays ow W.heap.size J →
    (∀ pre x post v W1, pre ++ x :: post = L → J pre W1 → Kt lo w W1 → G W1 v x → YieldAt F (n - 1) P lp #[v] W1 fun e W' => e = .returned (.bool true) ∧ J (pre ++ [x]) W' ∧ Kt lo W1 W') →
    J [] W →
    CallsIn F n P g (#[.func (.yield lp) #[] #[]] ++ lb) W fun e W' => (∃ v, e = .returned v) ∧ J L W'
theorem range_gives {α : Type} {F : Fence} {n : Nat} {P : Program} {g : Operand} {ps : Array Tmp} {assign body : Code} {Q : Exit → Act → World → Prop} {a : Act} {w : World}
    (hro : F.round = none) (h1 : 1 ≤ n) {gf : Nat} {lb : Array Value} (hg : a.eval g = .func (.func gf) #[] lb) (hFg : F.fn gf) (eg : ∀ args w, (callFunc gf args).run P w = .ok (.enter gf args) w)
    {G : World → Value → α → Prop} {lo ow : Nat → Prop} {L : List α} {w0 : World} (hseq : Gives F (n - 1) P gf lb G lo ow L w0) (hb0 : Up w0 w) (hps : ps.size = 1)
    (hG : ∀ (W : World) (l : Nat) (o o' : Obj) v x, W.heap[l]? = some o → o.isCells = false → G W v x → G (W.putObj l o') v x)
    (I : List α → World → Prop) (hI : Stays ow w.heap.size I) (h0 : I [] w) (Ax : Value → Act → Prop)
    (hassign : ∀ (l : Nat) (v : Value) (W : World) (K : Act → World → Prop), (∀ a', Ax v a' → K a' W) →
      assign.wpIn (F.inRound l) (n - 1 - 1) P (Exit.then K (fun _ _ _ => False)) { tmps := (ps.zip #[v]).foldl (fun t (p, v) => t.setIfInBounds p v) a.tmps, defers := [] } W)
    (hbody : ∀ (l : Nat) (pre : List α) (x : α) (post : List α) (v : Value) (a' : Act) (W : World), w.heap.size ≤ l → (∃ r, W.heap[l]? = some (.loop r)) → pre ++ x :: post = L → I pre W → G W v x → Ax v a' → body.wpIn (F.inRound l) (n - 1 - 1) P (givesPost lo I (pre ++ [x]) W) a' W)
    (hdone : ∀ (D : Nat) (W : World), w.heap.size ≤ D → I L W → W.heap[D]? = some (.deferred (some [])) → Q .normal { a with defers := { target := .collected D, args := #[] } :: a.defers } W) :
    (Code.rangeFunc g ps assign body).wpIn F n P Q a w := by
  refine wpIn_rangeFunc fun fn hfn => ?_
  rw [hro]
  obtain ⟨rec, hrec⟩ : ∃ rec : LoopState → Loop, rec = fun st => { state := st, pending := none, fn, tmps := a.tmps, params := ps, assign, body, defers := w.heap.size } := ⟨_, rfl⟩
  obtain ⟨W1, hW1⟩ : ∃ W1, W1 = (w.alloc (.deferred (some []))).alloc (.loop (rec .ready)) := ⟨_, rfl⟩
  have hL1 : W1.heap[w.heap.size + 1]? = some (.loop (rec .ready)) := by
    have h := World.alloc_heap_new (w.alloc (.deferred (some []))) (.loop (rec .ready)); rw [World.size_alloc] at h; rw [hW1]; exact h
  have hu1 : Up w W1 := by rw [hW1]; exact ((Up.refl w).alloc _).alloc _
  have hD1 : W1.heap[w.heap.size]? = some (.deferred (some [])) := by
    rw [hW1]; exact (((Up.refl (w.alloc (.deferred (some [])))).alloc _).block _ (by simp)).trans (World.alloc_heap_new w _)
  have hs1 : W1.heap.size = w.heap.size + 2 := by rw [hW1]; simp
  have hI1 : I [] W1 := by rw [hW1]; exact hI.alloc _ (hI.alloc _ h0)
  refine ⟨w.heap.size + 1, [{ target := .collected w.heap.size, args := #[] }], W1, { target := .fn (.func gf) lb, args := #[.func (.yield (w.heap.size + 1)) #[] #[]] }, W1, gf,
    #[.func (.yield (w.heap.size + 1)) #[] #[]] ++ lb, W1, ?_, ?_, ?_, ?_, fun _ => h1, ?_⟩
  · rw [hW1, hrec]; exact run_enterLoop_outer _ _ _ _ _
  · simp only [resolve, hg]
    simp [go_sem]
  · intro f' hf'
    simp [Target.leads] at hf'
    subst hf'; exact hFg
  · simp [invoke, go_sem, eg]
  have hJ : Stays ow W1.heap.size (fun (pre : List α) (W : World) => I pre W ∧ W.heap[w.heap.size + 1]? = some (.loop (rec .ready)) ∧ W.heap[w.heap.size]? = some (.deferred (some []))) := by
    rintro s A B row ⟨k1, k2, k3⟩ hg' hr
    have hn : ∀ k, k < W1.heap.size → some k ≠ row := fun k hk e => by have := (hr k e.symm).1; omega
    exact ⟨hI s A B row k1 hg' (fun r e => ⟨by have := (hr r e).1; omega, (hr r e).2⟩), (hg'.block _ (Array.getElem?_eq_some_iff.1 k2).1 (hn _ (by omega))).trans k2, (hg'.block _ (Array.getElem?_eq_some_iff.1 k3).1 (hn _ (by omega))).trans k3⟩
  refine (hseq (w.heap.size + 1) _ W1 (hb0.then hu1) hJ ?_ ⟨hI1, hL1, hD1⟩).mono ?_
  · rintro pre x post v W hL ⟨k1, k2, k3⟩ hup hGv
    have hy := run_yield (P := P) (args := #[v]) k2 (by rw [hrec]; simp [hps]); rw [hrec] at hy; refine ⟨fn, _, assign, body, hy, roundIn_of_wpIn hfn (hassign _ v W _ fun a' hax => ?_)⟩; refine ⟨_, run_beginRound k2 (by rw [hrec]), ?_⟩; have hlt := (Array.getElem?_eq_some_iff.1 k2).1; have hb2 : (W.putObj (w.heap.size + 1) (.loop { rec .ready with state := .busy })).heap[w.heap.size + 1]? = some (.loop { rec .ready with state := .busy }) := World.putObj_heap_same hlt; refine wpIn_mono (hbody _ pre x post v a' _ (by omega) ⟨_, hb2⟩ hL (hI.putObj _ k1 (by omega) k2 rfl) (hG _ _ _ _ _ _ k2 rfl hGv) hax) ?_; rintro e a3 W3 hp
    cases e with
    | normal =>
      obtain ⟨q1, q2⟩ := hp; have hl3 := q1.same _ _ hb2 (fun C T z e => by cases e); have hr3 := run_endRound (P := P) none hl3; have hlt3 := (Array.getElem?_eq_some_iff.1 hl3).1
      have hback : ({ ({ rec .ready with state := .busy } : Loop) with state := .ready, pending := none } : Loop) = rec .ready := by rw [hrec]
      refine ⟨_, _, hr3, rfl, ⟨hI.putObj _ q2 (by omega) hl3 rfl, ?_, ?_⟩, ⟨?_, ?_, ?_, ?_, ?_⟩⟩
      · refine (World.putObj_heap_same hlt3).trans ?_
        simp only [Option.isNone_none, if_true]; rw [hback]
      · refine (World.putObj_heap_other (by omega)).trans (q1.same _ _ ((World.putObj_heap_other (by omega)).trans k3) (fun C T z e => by cases e))
      · exact q1.os
      · exact q1.tape
      · exact q1.output
      · have := q1.size; simpa using this
      · intro k o hk hlo
        by_cases hkl : k = w.heap.size + 1
        · subst hkl
          have he : o = .loop (rec .ready) := by rw [k2] at hk; exact (Option.some.inj hk).symm
          subst he; refine (World.putObj_heap_same hlt3).trans ?_; simp only [Option.isNone_none, if_true]; rw [hback]
        · exact (World.putObj_heap_other hkl).trans (q1.same k o ((World.putObj_heap_other hkl).trans hk) hlo)
    | _ => exact hp.elim
  · rintro e W2 ⟨⟨v, rfl⟩, k1, k2, k3⟩
    have he := run_endLoop (P := P) k2 (by rw [hrec]; simp); rw [hrec] at he; exact ⟨none, _, he, hdone _ _ (Nat.le_refl _) (hI.putObj _ k1 (by omega) k2 rfl) ((World.putObj_heap_other (by omega)).trans k3)⟩
theorem roundIn_any {P : Program} {l : Nat} {f : FuncId} {tmps : Array Value} {assign body : Code} {w : World} {R : Ending → World → Prop} {n : Nat} (h : RoundIn Fence.wide n P l f tmps assign body w R) (m q : Nat) : RoundIn (Fence.wide.inRound q) m P l f tmps assign body w R :=
  ⟨h.1, fun c cs _ => h.2 c cs (room_wide _)⟩
theorem roundIn_wide {P : Program} {l : Nat} {f : FuncId} {tmps : Array Value} {assign body : Code} {w : World} {R : Ending → World → Prop} {n : Nat} (h : RoundIn Fence.wide n P l f tmps assign body w R) (m : Nat) : RoundIn Fence.wide m P l f tmps assign body w R :=
  ⟨h.1, fun c cs _ => h.2 c cs (room_wide _)⟩
theorem yieldAt_wide {P : Program} {l n : Nat} {args : Array Value} {W : World} {R : Ending → World → Prop} (h : YieldAt Fence.wide n P l args W R) (m : Nat) : YieldAt Fence.wide m P l args W R := by
  obtain ⟨fn, tmps, assign, body, h1, h2⟩ := h; exact ⟨fn, tmps, assign, body, h1, roundIn_wide h2 m⟩
theorem Gives.any {α : Type} {n : Nat} {P : Program} {g : Nat} {lb : Array Value} {G : World → Value → α → Prop} {lo ow : Nat → Prop} {L : List α} {w : World} (h : Gives Fence.wide n P g lb G lo ow L w) (m : Nat) : Gives Fence.wide m P g lb G lo ow L w :=
  fun lp J W hu hJ hY h0 => callsIn_wide.2 (callsIn_wide.1 (h lp J W hu hJ (fun pre x post v W1 e k1 k2 k3 => yieldAt_wide (hY pre x post v W1 e k1 k2 k3) _) h0))
end Go.Proofs.Ytdlekcdedahbhaa
namespace Go.Proofs.Ytdlekcdedahbhaa
open Go.RowKit Go.Shelf Go.Proofs.YtdlekcdedahbhaaW.PrintWords
set_option linter.unusedVariables false
set_option linter.unusedSimpArgs false
theorem zeros_one (m : Nat) : ∀ u ∈ (Builtin.zeroCells (Value.int .i64 0).cells m).toList, u.oneCell' = true := by
  intro u hu; have h9 : (Value.int .i64 0).cells = #[Value.int .i64 0] := rfl
  simp [Builtin.zeroCells, h9] at hu
  obtain ⟨j, _, rfl⟩ := hu; rw [Nat.mod_one]; rfl
theorem append_at {P : Program} {ops : Array Oper} {rest : List Oper} {o : Oper} {a : Act} {Q : Exit → Act → World → Prop} {W : World} (hgd : o.guard = none) (s x : Operand) (t t2 : TypeId)
    (ho : o.op = .call { callee := .builtin .append, args := #[s, x], argTypes := #[t, t2] }) (v u : Value) (hs : a.eval s = v) (hx : a.eval x = u) (v1 : Value) (w1 : World)
    (hr : (Builtin.append_ #[t, t2] o.type #[v, u]).run P W = .ok v1 w1) (h : wpList P ops Q rest (a.put o.dst v1) w1) : wpList P ops Q (o :: rest) a W := by
  refine wpList_plain hgd fun K hK => ?_
  unfold Oper.wp execOp
  simp only [ho, resolve, invoke, builtin, Sem.run_bind, Sem.run_pure, Result.andThen_ok, List.map_toArray, List.map_cons, List.map_nil, hs, hx, hr]; exact hK _ _ h
set_option maxRecDepth 100000 in
theorem grow_ (n : Nat) (w : World) (h0 : 0 < n) (hn : n ≤ 2000) :
    Calls Try.prog 99 #[.slice none 0 0, .int .i64 (n : Int)] w fun e w' => ∃ v, e = .returned v ∧ w'.ownsRow w.heap.size 3 1 v 0 [] ∧ Up w w' := by
  obtain ⟨i0, hi, hz0, hz1, hz2⟩ := info_parts info_int; obtain ⟨v1, w1, hrun, hown, hg, _⟩ := run_append_zeros (P := Try.prog) w w.heap.size 35 3 35 3 i0 (.int .i64 0) 1 8 Try.underlying35 Try.underlying3 hi hz0 hz1 hz2 rfl (by decide) (by decide) (.slice none 0 0) 0 [] ⟨rfl, .inl ⟨rfl, rfl⟩⟩ .i64 n (zeros_one n) (by omega) (Nat.le_refl _); have hu : Up w w1 := (Below.refl _ w).grown hg (Nat.le_refl _) (by intro k hk; simp [Value.ownBlock] at hk)
  rcases hown.2 with ⟨_, h9⟩ | ⟨g, cap, cur, rfl, hb, hgb, hcap, hm, hsz, htk⟩
  · omega
  have hd1 : decide ((n : Int) < 0) = false := by simp
  have hd2 : decide ((n : Int) > 0) = true := by simp; omega
  have hs1 : (0 : Nat) + n = n := by omega
  rw [hs1] at hrun hcap; have HO : Aside0 (w1.ownsRow w.heap.size 3 1 (.slice (some ⟨g, 0, none⟩) 0 cap) 0 []) := ⟨rfl, .inr ⟨g, cap, cur, rfl, hb, hgb, Nat.zero_le _, hm, hsz, by simp⟩⟩; have HU := Aside0.mk hu
  have hm2 : cap ≤ 9223372036854775807 := by unfold maxLen at hm; omega
  clear hown hg hb hgb hsz htk hu hm
  go_enter Try.func99, Try.ntmps99
  go_wp2_with (at_builtin; refine append_at rfl _ _ 35 3 rfl (.slice none 0 0) (.int .i64 (n : Int)) rfl rfl _ _ hrun ?_)
  go_ret
  exact ⟨_, rfl, HO.out, HU.out⟩
def Rc (W : World) (A : Option Addr) (l : List Int) : Prop := 0 < l.length → ∃ ad, A = some ad ∧ ∀ j u, (nums .i64 l)[j]? = some u → W.cell? (ad.add j) = some u
def catN (l1 l2 : List Int) : Nat → Nat
  | 0 => 0
  | 1 => l1.length
  | _ => l1.length + l2.length
def catL (l1 l2 : List Int) : Nat → List Int
  | 0 => []
  | 1 => l1
  | _ => l1 ++ l2
set_option maxRecDepth 100000 in
theorem concat_ (bb : Nat) (A1 : Option Addr) (c1 : Nat) (l1 : List Int) (A2 : Option Addr) (c2 : Nat) (l2 : List Int) (w : World) (hB : Bx w bb #[.slice A1 l1.length c1, .slice A2 l2.length c2] 35)
    (hr1 : Rc w A1 l1) (hr2 : Rc w A2 l2) (hc1 : l1.length ≤ c1) (hc2 : l2.length ≤ c2) (h0 : 0 < l1.length) (h1 : l1.length ≤ 100) (h2 : l2.length ≤ 100) :
    Calls Try.prog 93 #[.slice (some ⟨bb, 0, none⟩) 2 2] w fun e w' => ∃ v, e = .returned v ∧ w'.ownsRow w.heap.size 3 1 v (l1 ++ l2).length (nums .i64 (l1 ++ l2)) ∧ Up w w' := by
  have HB := Aside0.mk hB; have HR1 := Aside0.mk hr1; have HR2 := Aside0.mk hr2; have hq := hB.cell; clear hB hr1 hr2; have hu155 := Try.underlying155
  go_enter Try.func93, Try.ntmps93
  go_wp2_with fail
  go_loopw [3, 11] (fun v3 i wr => ∃ k : Nat, k ≤ 2 ∧ v3 = .int .i64 (catN l1 l2 k : Nat) ∧ i = .int .i64 k ∧ wr = w) (fun _ i _ => 2 - (intOf i).toNat)
  case atStart => exact ⟨0, by omega, rfl, rfl, rfl⟩
  case round =>
    obtain ⟨k, hk, rfl, rfl, hw⟩ := hrel; obtain rfl : w = wr := hw.symm; clear hw
    obtain rfl | rfl | rfl : k = 0 ∨ k = 1 ∨ k = 2 := by omega
    · have hn1 : decide ((l1.length : Int) < 0) = false := by simp
      have hcast : ((catN l1 l2 0 : Nat) : Int) = 0 := rfl; rw [hcast]; clear hcast
      have hz1 : ((0 : Int) + (l1.length : Int)) = (l1.length : Int) := by omega
      go_wp2_with fail
      go_roundw
      case rel => exact ⟨1, by omega, by simp [catN]⟩
      case measure => simp [intOf]
    · have hn1 : decide ((l1.length : Int) + (l2.length : Int) < 0) = false := by simp; omega
      have hcast : ((catN l1 l2 1 : Nat) : Int) = (l1.length : Int) := rfl; rw [hcast]; clear hcast
      go_wp2_with fail
      go_roundw
      case rel => exact ⟨2, by omega, by simp [catN]⟩
      case measure => simp [intOf]
    · have hcast : ((catN l1 l2 2 : Nat) : Int) = ((l1.length + l2.length : Nat) : Int) := rfl
      rw [hcast]; clear hcast; have hgrow := grow_ (l1.length + l2.length) w (by omega) (by omega); rw [Int.natCast_add] at hgrow
      go_wp2_with (go_at_call 99; (with_reducible refine hgrow.mono ?_); rintro e w1 ⟨v1, rfl, ho1, hu1⟩; have HO1 := Aside0.mk ho1; have HU1 := Aside0.mk hu1; clear ho1 hu1)
      clear hgrow; have hB1 := HB.out.up HU1.out
      go_loopw [6, 27] (fun v6 i w2 => ∃ (k : Nat) (v : Value), k ≤ 2 ∧ v6 = v ∧ i = .int .i64 k ∧ Aside0 (w2.ownsRow w.heap.size 3 1 v (catL l1 l2 k).length (nums .i64 (catL l1 l2 k))) ∧ Aside0 (Up w w2)) (fun _ i _ => 2 - (intOf i).toNat)
      case atStart => exact ⟨0, _, by omega, rfl, rfl, HO1, HU1⟩
      case round =>
        clear hB1 hq; obtain ⟨k, v, hk, rfl, rfl, HO, HU⟩ := hrel; have hq2 := (HB.out.up HU.out).cell; have HCl1 : Aside0 (0 < l1.length → ∃ ad, A1 = some ad ∧ ∀ j u, (nums .i64 l1)[j]? = some u → w.cell? (ad.add j) = some u) := HR1; have HCl2 : Aside0 (0 < l2.length → ∃ ad, A2 = some ad ∧ ∀ j u, (nums .i64 l2)[j]? = some u → w.cell? (ad.add j) = some u) := HR2
        obtain rfl | rfl | rfl : k = 0 ∨ k = 1 ∨ k = 2 := by omega
        · skip
          go_wp2_with (at_builtin; refine append_all w.heap.size rfl _ _ 35 3 (.int .i64 0) 1 8 rfl Try.underlying35 info_int rfl (by decide) (by decide) _ (catL l1 l2 0).length (nums .i64 (catL l1 l2 0)) (nums .i64 l1) A1 l1.length c1 rfl rfl HO.out (by simp [nums]) ?qc2 ?qc3 ?qc4 ?qc5 ?qc6)
          case qc2 =>
            intro hm; obtain ⟨ad, e, hc⟩ := HCl1.out hm; exact ⟨ad, e, fun j u hu => HU.out.cell (hc j u hu)⟩
          case qc3 => intro u hu; simp only [nums, List.mem_map] at hu; obtain ⟨q, _, rfl⟩ := hu; rfl
          case qc4 => have := HU.out.le; omega
          case qc5 => simp [catL]; omega
          intro v1 w1 hown hgrow; have HOn : Aside0 (w1.ownsRow w.heap.size 3 1 v1 (catL l1 l2 1).length (nums .i64 (catL l1 l2 1))) := ⟨by simpa [catL, nums] using hown⟩; have HUn : Aside0 (Up w w1) := ⟨Below.grown HU.out hgrow HU.out.size (fun q e => (HO.out.lt q e).1)⟩; clear hown hgrow
          go_wp2
          go_roundw
          case rel => exact ⟨1, _, by omega, rfl, rfl, HOn, HUn⟩
          case measure => simp [intOf]
        · skip
          go_wp2_with (at_builtin; refine append_all w.heap.size rfl _ _ 35 3 (.int .i64 0) 1 8 rfl Try.underlying35 info_int rfl (by decide) (by decide) _ (catL l1 l2 1).length (nums .i64 (catL l1 l2 1)) (nums .i64 l2) A2 l2.length c2 rfl rfl HO.out (by simp [nums]) ?qd2 ?qd3 ?qd4 ?qd5 ?qd6)
          case qd2 =>
            intro hm; obtain ⟨ad, e, hc⟩ := HCl2.out hm; exact ⟨ad, e, fun j u hu => HU.out.cell (hc j u hu)⟩
          case qd3 => intro u hu; simp only [nums, List.mem_map] at hu; obtain ⟨q, _, rfl⟩ := hu; rfl
          case qd4 => have := HU.out.le; omega
          case qd5 => simp [catL]; omega
          intro v1 w1 hown hgrow; have HOn : Aside0 (w1.ownsRow w.heap.size 3 1 v1 (catL l1 l2 2).length (nums .i64 (catL l1 l2 2))) := ⟨by simpa [catL, nums] using hown⟩; have HUn : Aside0 (Up w w1) := ⟨Below.grown HU.out hgrow HU.out.size (fun q e => (HO.out.lt q e).1)⟩; clear hown hgrow
          go_wp2
          go_roundw
          case rel => exact ⟨2, _, by omega, rfl, rfl, HOn, HUn⟩
          case measure => simp [intOf]
        · go_wp2_with fail
          go_ret
          exact ⟨_, rfl, HO.out, HU.out⟩
end Go.Proofs.Ytdlekcdedahbhaa
namespace Go.Proofs.Ytdlekcdedahbhaa
open Go.RowKit Go.Shelf Go.Proofs.YtdlekcdedahbhaaW.PrintWords
set_option linter.unusedVariables false
set_option linter.unusedSimpArgs false
attribute [local go_sem] Oper.semAt_some
def wayLo (want now : Acc) (x : Ent) (xs : List Ent) : Int := max 0 (if xs.length = 0 then want.get x.t - now.get x.t else 0)
def wayHi (want now : Acc) (x : Ent) (xs : List Ent) : Int := min (if xs.length = 0 then want.get x.t - now.get x.t else 100) 100
def wayN (want now : Acc) (x : Ent) (xs : List Ent) : Nat := (wayHi want now x xs + 1 - wayLo want now x xs).toNat
def waysL (want : Acc) : List Ent → Acc → List (List Int)
  | [], now => if now = want then [[]] else []
  | x :: xs, now => (List.range (wayN want now x xs)).flatMap fun (j : Nat) => (waysL want xs (afterA now ⟨x.f, x.t, wayLo want now x xs + (j : Int)⟩)).map ((wayLo want now x xs + (j : Int)) :: ·)
def fillLo (T : Nat) : Prop := T = 36 ∨ T = 44 ∨ T = 4
def wayOw (T : Nat) : Prop := T = 101
def Ri (W : World) (A : Option Addr) (l : List Int) : Prop := 0 < l.length → ∃ g C, A = some ⟨g, 0, none⟩ ∧ Bx W g C 3 ∧ ∀ (j : Nat) u, (nums .i64 l)[j]? = some u → C[j]? = some u
theorem Ri.rc {W : World} {A : Option Addr} {l : List Int} (h : Ri W A l) : Rc W A l := fun h0 => by
  obtain ⟨g, C, rfl, hb, hc⟩ := h h0; exact ⟨_, rfl, fun j u hj => by rw [add_plain, hb.cell, hc j u hj]⟩
theorem Ri.up {W W' : World} {A : Option Addr} {l : List Int} (h : Ri W A l) (hu : Up W W') : Ri W' A l := fun h0 => by
  obtain ⟨g, C, rfl, hb, hc⟩ := h h0; exact ⟨g, C, rfl, hb.up hu, hc⟩
def Rd (W : World) (v : Value) (xs : List Int) : Prop := ∃ A c, v = .slice A xs.length c ∧ xs.length ≤ c ∧ Ri W A xs
def Er (W : World) (A : Option Addr) (l : List Ent) : Prop := 0 < l.length → ∃ g off C, A = some ⟨g, off, none⟩ ∧ Bx W g C 101 ∧ ∀ j, j < l.length → C[off + 3 * j]? = some (.int .i64 (rdEnt l j).f) ∧ C[off + 3 * j + 1]? = some (.int .i64 (rdEnt l j).t) ∧ C[off + 3 * j + 2]? = some (.int .i64 (rdEnt l j).a)
theorem Er.up {W W' : World} {A : Option Addr} {l : List Ent} (h : Er W A l) (hu : Up W W') : Er W' A l := by
  intro h0; obtain ⟨g, off, C, hA, hb, hc⟩ := h h0; exact ⟨g, off, C, hA, hb.up hu, hc⟩
theorem Er.kt {lo : Nat → Prop} {W W' : World} {A : Option Addr} {l : List Ent} (h : Er W A l) (hu : Kt lo W W') (hT : ¬ lo 101) : Er W' A l := by
  intro h0; obtain ⟨g, off, C, hA, hb, hc⟩ := h h0; exact ⟨g, off, C, hA, hu.bx hb hT, hc⟩
theorem rdEnt_succ (x : Ent) (xs : List Ent) (j : Nat) : rdEnt (x :: xs) ((j + 1 : Nat) : Int) = rdEnt xs (j : Int) := rfl
theorem Er.tail {W : World} {g off : Nat} {x : Ent} {xs : List Ent} (h : Er W (some ⟨g, off, none⟩) (x :: xs)) : Er W (some ⟨g, off + 3, none⟩) xs := by
  intro h0; obtain ⟨g', off', C, hA, hb, hc⟩ := h (by simp)
  cases hA
  refine ⟨g, off + 3, C, rfl, hb, fun j hj => ?_⟩; have h9 := hc (j + 1) (by simp; omega); rw [rdEnt_succ] at h9; rw [show off + 3 + 3 * j = off + 3 * (j + 1) by omega]; exact h9
set_option maxRecDepth 100000 in
theorem ways_ (now want : Acc) (A : Option Addr) (n c : Nat) (w : World) :
    Calls Try.prog 80 #[.agg #[.int .i64 (now).a0, .int .i64 (now).a1, .int .i64 (now).a2, .int .i64 (now).a3, .int .i64 (now).a4, .int .i64 (now).a5], .agg #[.int .i64 (want).a0, .int .i64 (want).a1, .int .i64 (want).a2, .int .i64 (want).a3, .int .i64 (want).a4, .int .i64 (want).a5], .slice A n c] w fun e w' => e = .returned (.func (.func 92) #[] #[.pointer (some ⟨w.heap.size + 2, 0, none⟩), .pointer (some ⟨w.heap.size, 0, none⟩), .pointer (some ⟨w.heap.size + 1, 0, none⟩)]) ∧ w' = ((w.alloc (.cells #[.int .i64 (now).a0, .int .i64 (now).a1, .int .i64 (now).a2, .int .i64 (now).a3, .int .i64 (now).a4, .int .i64 (now).a5] 135)).alloc (.cells #[.int .i64 (want).a0, .int .i64 (want).a1, .int .i64 (want).a2, .int .i64 (want).a3, .int .i64 (want).a4, .int .i64 (want).a5] 135)).alloc (.cells #[.slice A n c] 46) := by
  go_enter Try.func80, Try.ntmps80
  go_wp2_with fail
  go_ret
  exact ⟨rfl, rfl⟩
set_option maxRecDepth 100000 in
set_option maxHeartbeats 4000000 in
theorem ways_nil (want now : Acc) (A : Option Addr) (c b1 b2 b3 : Nat) (w : World) (hB1 : Bx w b1 #[.slice A 0 c] 46) (hB2 : Bx w b2 #[.int .i64 (now).a0, .int .i64 (now).a1, .int .i64 (now).a2, .int .i64 (now).a3, .int .i64 (now).a4, .int .i64 (now).a5] 135) (hB3 : Bx w b3 #[.int .i64 (want).a0, .int .i64 (want).a1, .int .i64 (want).a2, .int .i64 (want).a3, .int .i64 (want).a4, .int .i64 (want).a5] 135) :
    Gives Fence.wide 5 Try.prog 92 #[.pointer (some ⟨b1, 0, none⟩), .pointer (some ⟨b2, 0, none⟩), .pointer (some ⟨b3, 0, none⟩)] Rd fillLo wayOw (waysL want [] now) w := by
  intro lp J W hW hJ hY hj; have hu := hW.alloc (.cells #[.func (.yield lp) #[] #[]] 66); have hq1 := (hB1.up hu).cell; have hq2 := (hB2.up hu).cell; have hq3 := (hB3.up hu).cell; have hae := eq_acc now want; have HJ := Aside0.mk (Stays.alloc hJ (.cells #[.func (.yield lp) #[] #[]] 66) hj); have HY := Aside0.mk hY; have hW' := hu; have HW := Aside0.mk hW'; clear hY hJ hj hB1 hB2 hB3 hW hu hW'
  by_cases hnw : now = want
  · have hd : decide (now = want) = true := by simpa using hnw
    obtain ⟨fn, tmps, assign, body, hy, hR⟩ := HY.out [] [] [] (.slice none 0 0) _ (by simp [waysL, hnw]) HJ.out (Kt.up HW.out) ⟨none, 0, rfl, Nat.le_refl _, fun h => absurd h (by simp)⟩; have HL : Aside0 (waysL want [] now = [] ++ [[]]) := ⟨by simp [waysL, hnw]⟩; clear hnw; refine callsIn_of_wp Try.func92 rfl trivial ?_ rfl; simp only [Try.ntmps92, List.size_toArray, List.length_cons, List.length_nil, Nat.reduceAdd, Nat.reduceSub, Array.replicate_succ, Array.replicate_zero, List.push_toArray, List.append_toArray, List.nil_append, List.cons_append]
    gi_wp2_with fail
    refine hR.mono ?_; rintro e W3 ⟨rfl, hJ3, _⟩; have HJ3 := Aside0.mk hJ3; clear hJ3
    gi_wp2_with fail
    refine bodyPost_ret (results_none rfl _ _ _) rfl ?_; exact ⟨⟨_, rfl⟩, by rw [HL.out]; exact HJ3.out⟩
  · have hd : decide (now = want) = false := by simpa using hnw
    have HL : Aside0 (waysL want [] now = []) := ⟨by simp [waysL, hnw]⟩; clear hnw; refine callsIn_of_wp Try.func92 rfl trivial ?_ rfl; simp only [Try.ntmps92, List.size_toArray, List.length_cons, List.length_nil, Nat.reduceAdd, Nat.reduceSub, Array.replicate_succ, Array.replicate_zero, List.push_toArray, List.append_toArray, List.nil_append, List.cons_append]
    gi_wp2_with fail
    refine bodyPost_ret (results_none rfl _ _ _) rfl ?_; exact ⟨⟨_, rfl⟩, by rw [HL.out]; exact HJ.out⟩
end Go.Proofs.Ytdlekcdedahbhaa
namespace Go.Proofs.Ytdlekcdedahbhaa
open Go.RowKit Go.Shelf Go.Proofs.YtdlekcdedahbhaaW.PrintWords
set_option linter.unusedVariables false
set_option linter.unusedSimpArgs false
attribute [local go_sem] Oper.semAt_some bi_max2 bi_min2 bi_max_two bi_min_two
def waysTo (want : Acc) (xs : List Ent) (x : Ent) (now : Acc) (lo : Int) (k : Nat) : List (List Int) := (List.range k).flatMap fun (j : Nat) => (waysL want xs (afterA now ⟨x.f, x.t, lo + (j : Int)⟩)).map ((lo + (j : Int)) :: ·)
theorem get_bd {n : Int} {a : Acc} (h : AccB n a) (hn : 0 ≤ n) (i : Int) : -n ≤ a.get i ∧ a.get i ≤ n := by
  unfold AccB at h
  unfold Acc.get
  (repeat' split) <;> omega
theorem waysTo_succ (want : Acc) (xs : List Ent) (x : Ent) (now : Acc) (lo : Int) (k : Nat) : waysTo want xs x now lo (k + 1) = waysTo want xs x now lo k ++ (waysL want xs (afterA now ⟨x.f, x.t, lo + (k : Int)⟩)).map ((lo + (k : Int)) :: ·) := by
  unfold waysTo
  rw [List.range_succ, List.flatMap_append]
  simp
structure WayI (J : List (List Int) → World → Prop) (w W : World) (lp : Nat) (x : Ent) (am n : Int) (B8 : Nat) (Ds : List Nat) (ys : List (List Int)) (Wc : World) : Prop where
  j : J ys Wc
  b4 : Bx Wc W.heap.size #[.func (.yield lp) #[] #[]] 66
  b5 : Bx Wc (W.heap.size + 1) #[.int .i64 x.f, .int .i64 x.t, .int .i64 am] 101
  b8 : Bx Wc B8 #[.int .i64 n] 3
  h8 : W.heap.size + 1 < B8
  kt : Kt fillLo w Wc
  sz : W.heap.size + 2 ≤ Wc.heap.size
  ds : ∀ D ∈ Ds, W.heap.size < D ∧ Wc.heap[D]? = some (.deferred (some []))
theorem WayI.up {J w W lp x am n B8 Ds ys Wc Wd} (h : WayI J w W lp x am n B8 Ds ys Wc) (hS : Stays wayOw W.heap.size J) (hu : Up Wc Wd) : WayI J w W lp x am n B8 Ds ys Wd :=
  ⟨hS.up h.j hu, h.b4.up hu, h.b5.up hu, h.b8.up hu, h.h8, h.kt.trans (Kt.up hu), Nat.le_trans h.sz hu.size, fun D hD => ⟨(h.ds D hD).1, (hu.block D (Array.getElem?_eq_some_iff.1 (h.ds D hD).2).1).trans (h.ds D hD).2⟩⟩
theorem ways_fin {J w W lp x am n B8 Ds ys Wc} {m : Nat} {tmps : Array Value} (h : WayI J w W lp x am n B8 Ds ys Wc) (hS : Stays wayOw W.heap.size J) (hnd : Ds.Nodup) :
    LeavesInM Fence.wide m Try.prog Try.f92 tmps (fun e W' => (∃ v, e = Ending.returned v) ∧ J ys W') (Ds.map fun D => { target := .collected D, args := #[] }) .returning Wc :=
  leaves_coll (B := W.heap.size) (fun W' => J ys W') (fun W' D hB hj hD => hS.putObj _ hj hB hD rfl) (fun W' hj => ⟨_, results_none rfl _ _ _, ⟨_, rfl⟩, hj⟩) Ds Wc (fun D hD => ⟨Nat.le_of_lt (h.ds D hD).1, (h.ds D hD).2⟩) hnd h.j
theorem WayI.set {J w W lp x am n B8 Ds ys Wc} (h : WayI J w W lp x am n B8 Ds ys Wc) (hS : Stays wayOw W.heap.size J) (hwW : w.heap.size ≤ W.heap.size) (a : Int) : WayI J w W lp x a n B8 Ds ys (Wc.setCell ⟨W.heap.size + 1, 2, none⟩ (.int .i64 a)) := by
  have hz : Kt fillLo w (Wc.setCell ⟨W.heap.size + 1, 2, none⟩ (.int .i64 a)) := by
    have hb := Below.setCell (B := w.heap.size) (Below.refl _ Wc) (p := ⟨W.heap.size + 1, 2, none⟩) (by simp; omega) (.int .i64 a); refine ⟨hb.os.trans h.kt.os, hb.tape.trans h.kt.tape, hb.output.trans h.kt.output, Nat.le_trans h.kt.size hb.size, fun k o hk hl => ?_⟩; have h9 := (Array.getElem?_eq_some_iff.1 hk).1; exact (hb.block k h9).trans (h.kt.same k o hk hl)
  exact ⟨hS.set h.j (Nat.le_succ _) h.b5 rfl 2 _, h.b4.far (by omega) _ _, h.b5.set 2 _, h.b8.far (by have := h.h8; omega) _ _, h.h8, hz, by have := h.sz; simpa using this, fun D hD => ⟨(h.ds D hD).1, (KeepsOthers.setCell Wc ⟨W.heap.size + 1, 2, none⟩ (.int .i64 a)).same D _ (h.ds D hD).2 rfl⟩⟩
theorem Bx.new1 (w : World) (C : Array Value) (T : TypeId) (n : Nat) (h : n = w.heap.size) : Bx (w.alloc (.cells C T)) n C T := by subst h; exact Bx.new w C T
theorem Bx.drew {w B C T} (h : Bx w B C T) : Bx w.drew B C T := h.up ((Up.refl _).drew)
theorem Bx.drewN {w B C T} (h : Bx w B C T) (n : Nat) : Bx (w.drewN n) B C T := h.up ((Up.refl _).drewN n)
theorem Bx.allocO {w B C T} (h : Bx w B C T) (o : Obj) : Bx (w.alloc o) B C T := h.up ((Up.refl _).alloc o)
theorem bxA {w : World} {B : Nat} {C : Array Value} {T : TypeId} (h : Bx w B C T := by repeat' (first | assumption | (with_reducible refine Bx.new1 _ _ _ _ ?_; (simp; done)) | (with_reducible refine Bx.drew ?_) | (with_reducible refine Bx.drewN ?_ _) | (with_reducible refine Bx.allocO ?_ _))) : Bx w B C T := h
theorem Rc.up {W W' : World} {A : Option Addr} {l : List Int} (h : Rc W A l) (hu : Up W W') : Rc W' A l := fun h0 => by
  obtain ⟨ad, rfl, hc⟩ := h h0; exact ⟨ad, rfl, fun j u hj => hu.cell (hc j u hj)⟩
theorem Rc.one {W : World} {b : Nat} {n : Int} {T : TypeId} (h : Bx W b #[.int .i64 n] T) : Rc W (some ⟨b, 0, none⟩) [n] := fun _ => ⟨_, rfl, fun j u hj => by
  rw [add_plain, h.cell, ← hj]
  simp [nums]⟩
theorem Rd.putObj (W : World) (l : Nat) (o o' : Obj) (v : Value) (x : List Int) (hl : W.heap[l]? = some o) (ho : o.isCells = false) (h : Rd W v x) : Rd (W.putObj l o') v x := by
  obtain ⟨A, c, rfl, hc, hr⟩ := h; refine ⟨A, c, rfl, hc, fun h0 => ?_⟩; obtain ⟨g, C, rfl, hb, hc⟩ := hr h0; exact ⟨g, C, rfl, hb.own (grownBy_putObj' W l o') (fun r e => by cases e; exact ⟨o, hl, ho⟩), hc⟩
theorem ways_up {a b c : Obj} {w w2 : World} (h : w2 = ((w.alloc a).alloc b).alloc c) : Up w w2 := by rw [h]; exact upA
theorem waysL_len (want : Acc) : ∀ (xs : List Ent) (now : Acc), ∀ y ∈ waysL want xs now, y.length = xs.length
  | [], now, y, h => by
    unfold waysL at h
    split at h <;> simp at h
    subst h; rfl
  | x :: xs, now, y, h => by
    unfold waysL at h
    obtain ⟨j, _, h⟩ := List.mem_flatMap.1 h; obtain ⟨z, hz, rfl⟩ := List.mem_map.1 h
    simp [waysL_len want xs _ z hz]
theorem concat1 (n : Int) (b : Nat) (A9 : Option Addr) (c9 : Nat) (y : List Int) (bb : Nat) (w : World) (hB : Bx w bb #[.slice (some ⟨b, 0, none⟩) 1 1, .slice A9 y.length c9] 35) (h1 : Bx w b #[.int .i64 n] 3) (hr : Rc w A9 y) (hc : y.length ≤ c9) (hl : y.length ≤ 50) :
    Calls Try.prog 93 #[.slice (some ⟨bb, 0, none⟩) 2 2] w fun e w' => ∃ v, e = .returned v ∧ w'.ownsRow w.heap.size 3 1 v (n :: y).length (nums .i64 (n :: y)) ∧ Up w w' :=
  concat_ bb (some ⟨b, 0, none⟩) 1 [n] A9 c9 y w hB (Rc.one h1) hr (by simp) hc (by simp) (by simp) (by omega)
theorem Rd.ofOwn {w : World} {base : Nat} {v : Value} {xs : List Int} (h : w.ownsRow base 3 1 v xs.length (nums .i64 xs)) : Rd w v xs := by
  rcases h.2 with ⟨rfl, h0⟩ | ⟨g, cap, cur, rfl, hb, hg, hcap, _, hsz, htk⟩
  · exact ⟨none, 0, by rw [h0], by omega, fun hl => by omega⟩
  · refine ⟨some ⟨g, 0, none⟩, cap, rfl, hcap, fun hl => ⟨g, cur, rfl, hg, fun j u hu => ?_⟩⟩
    have hj : j < xs.length := by
      have := (List.getElem?_eq_some_iff.1 hu).1
      simpa [nums] using this
    rw [← htk, List.getElem?_take, if_pos (by omega), Array.getElem?_toList] at hu; exact hu
theorem waysTo_split (want : Acc) (xs : List Ent) (x : Ent) (now : Acc) (lo : Int) (k : Nat) : ∀ N, k < N → ∃ suf, waysTo want xs x now lo N = waysTo want xs x now lo (k + 1) ++ suf
  | 0, h => by omega
  | N + 1, h => by
    by_cases e : k = N
    · subst e; exact ⟨[], by simp⟩
    · obtain ⟨suf, hs⟩ := waysTo_split want xs x now lo k N (by omega)
      exact ⟨suf ++ (waysL want xs (afterA now ⟨x.f, x.t, lo + (N : Int)⟩)).map ((lo + (N : Int)) :: ·), by rw [waysTo_succ want xs x now lo N, hs, List.append_assoc]⟩
theorem WayI.kt2 {J w W lp x am n B8 Ds ys Wc Wd ys'} (h : WayI J w W lp x am n B8 Ds ys Wc) (hk : Kt fillLo Wc Wd) (hj : J ys' Wd) : WayI J w W lp x am n B8 Ds ys' Wd :=
  ⟨hj, hk.bx h.b4 (by simp [fillLo]), hk.bx h.b5 (by simp [fillLo]), hk.bx h.b8 (by simp [fillLo]), h.h8, h.kt.trans hk, Nat.le_trans h.sz hk.size, fun D hD => ⟨(h.ds D hD).1, hk.same D _ (h.ds D hD).2 (fun C T z e => by cases e)⟩⟩
def wayCell (a' : Act) (Wc : World) : Int := match Wc.cell? ⟨(match a'.tmps.getD 8 undef with | .pointer (some p) => p.block | _ => 0), 0, none⟩ with | some v => intOf v | none => 0
theorem wayCell_eq {a' : Act} {Wc : World} {B : Nat} {n : Int} (h : a'.tmps.getD 8 undef = .pointer (some ⟨B, 0, none⟩)) (hc : Wc.cell? ⟨B, 0, none⟩ = some (.int .i64 n)) : wayCell a' Wc = n := by
  unfold wayCell
  rw [h]
  dsimp only
  rw [hc]; rfl
theorem way_mu {N : Nat} {lo n : Int} {a1 a2 : Act} {W1 W2 : World} {B1 B2 : Nat} (h1 : a1.tmps.getD 8 undef = .pointer (some ⟨B1, 0, none⟩)) (c1 : W1.cell? ⟨B1, 0, none⟩ = some (.int .i64 (n + 1))) (h2 : a2.tmps.getD 8 undef = .pointer (some ⟨B2, 0, none⟩)) (c2 : W2.cell? ⟨B2, 0, none⟩ = some (.int .i64 n)) (hlo : lo ≤ n) (hN : n < lo + N) :
    N - (wayCell a1 W1 - lo).toNat < N - (wayCell a2 W2 - lo).toNat := by
  rw [wayCell_eq h1 c1, wayCell_eq h2 c2]; omega
theorem WayI.next {J w W lp x am n B8 Ds ys Wd} (h : WayI J w W lp x am n B8 Ds ys Wd) (hS : Stays wayOw W.heap.size J) (D : Nat) (hD : W.heap.size < D) (hDd : Wd.heap[D]? = some (.deferred (some []))) (n' : Int) :
    WayI J w W lp x am n' Wd.heap.size (D :: Ds) ys (Wd.alloc (.cells #[.int .i64 n'] 3)) := by
  have hu : Up Wd (Wd.alloc (.cells #[.int .i64 n'] 3)) := (Up.refl _).alloc _; have hlt := (Array.getElem?_eq_some_iff.1 hDd).1; refine ⟨hS.up h.j hu, h.b4.up hu, h.b5.up hu, Bx.new Wd _ _, by omega, h.kt.trans (Kt.up hu), Nat.le_trans h.sz hu.size, fun E hE => ?_⟩
  rcases List.mem_cons.1 hE with rfl | hE
  · exact ⟨hD, (hu.block _ hlt).trans hDd⟩
  · exact ⟨(h.ds E hE).1, (hu.block _ (Array.getElem?_eq_some_iff.1 (h.ds E hE).2).1).trans (h.ds E hE).2⟩
theorem ways1_enter (args : Array Value) (w : World) : (callFunc 92 args).run Try.prog w = .ok (.enter 92 args) w := by kernel_rfl
theorem WayI.stays {J : List (List Int) → World → Prop} {w W : World} {lp : Nat} {x : Ent} {am n : Int} {B8 B : Nat} {Ds : List Nat} {ys : List (List Int)} (hS : Stays wayOw W.heap.size J) (hB8 : B8 < B) (hW1 : W.heap.size + 1 < B) (hDs : ∀ D ∈ Ds, D < B) (hw : w.heap.size ≤ B) :
    Stays wayOw B (fun (pre : List (List Int)) Wd => WayI J w W lp x am n B8 Ds (ys ++ pre.map (n :: ·)) Wd) := by
  rintro s A A' row h hg hr
  have hne : ∀ k, k < B → some k ≠ row := fun k hk e => by have := (hr k e.symm).1; omega
  have hsame : ∀ (k : Nat) (o : Obj), k < B → A.heap[k]? = some o → A'.heap[k]? = some o := fun k o hk ho => (hg.block k (Array.getElem?_eq_some_iff.1 ho).1 (hne k hk)).trans ho
  exact ⟨hS _ A A' row h.j hg (fun r e => ⟨by have := (hr r e).1; omega, (hr r e).2⟩), hsame _ _ (by omega) h.b4, hsame _ _ (by omega) h.b5, hsame _ _ hB8 h.b8, h.h8,
    ⟨hg.os.trans h.kt.os, hg.tape.trans h.kt.tape, hg.output.trans h.kt.output, Nat.le_trans h.kt.size hg.size, fun k o hk hl => hsame k o (by have := (Array.getElem?_eq_some_iff.1 hk).1; omega) (h.kt.same k o hk hl)⟩, Nat.le_trans h.sz hg.size,
    fun D hD => ⟨(h.ds D hD).1, hsame D _ (hDs D hD) (h.ds D hD).2⟩⟩
set_option maxRecDepth 100000 in
set_option maxHeartbeats 4000000 in
theorem ways_cons (want now : Acc) (x : Ent) (xs : List Ent) (A : Option Addr) (c b1 b2 b3 : Nat) (m : Int) (w : World) (hw : AccB 100000 want) (hn : AccB m now) (hm : m ≤ 9000) (hx : 0 ≤ x.f ∧ x.f ≤ 5) (hy : 0 ≤ x.t ∧ x.t ≤ 5)
    (hB1 : Bx w b1 #[.slice A (xs.length + 1) c] 46) (hB2 : Bx w b2 #[.int .i64 (now).a0, .int .i64 (now).a1, .int .i64 (now).a2, .int .i64 (now).a3, .int .i64 (now).a4, .int .i64 (now).a5] 135) (hB3 : Bx w b3 #[.int .i64 (want).a0, .int .i64 (want).a1, .int .i64 (want).a2, .int .i64 (want).a3, .int .i64 (want).a4, .int .i64 (want).a5] 135) (hr : Er w A (x :: xs)) (hc : xs.length + 1 ≤ c) (hxl : xs.length ≤ 50)
    (hI : ∀ (now' : Acc) (A' : Option Addr) (c' b1 b2 b3 : Nat) (w' : World), AccB (m + 200) now' → Bx w' b1 #[.slice A' xs.length c'] 46 → Bx w' b2 #[.int .i64 (now').a0, .int .i64 (now').a1, .int .i64 (now').a2, .int .i64 (now').a3, .int .i64 (now').a4, .int .i64 (now').a5] 135 → Bx w' b3 #[.int .i64 (want).a0, .int .i64 (want).a1, .int .i64 (want).a2, .int .i64 (want).a3, .int .i64 (want).a4, .int .i64 (want).a5] 135 → Er w' A' xs → xs.length ≤ c' →
      Gives Fence.wide 4 Try.prog 92 #[.pointer (some ⟨b1, 0, none⟩), .pointer (some ⟨b2, 0, none⟩), .pointer (some ⟨b3, 0, none⟩)] Rd fillLo wayOw (waysL want xs now') w') :
    Gives Fence.wide 5 Try.prog 92 #[.pointer (some ⟨b1, 0, none⟩), .pointer (some ⟨b2, 0, none⟩), .pointer (some ⟨b3, 0, none⟩)] Rd fillLo wayOw (waysL want (x :: xs) now) w := by
  intro lp J W hW hJ hY hj; have hu := hW.alloc (.cells #[.func (.yield lp) #[] #[]] 66); have hq1 := (hB1.up hu).cell; have hq2 := (hB2.up hu).cell; have hq3 := (hB3.up hu).cell; have hlt1 := (hB1.up hu).lt; have hlt2 := (hB2.up hu).lt; have hlt3 := (hB3.up hu).lt; have HJ0 := Aside0.mk hj; have HSJ := Aside0.mk hJ; have HY := Aside0.mk hY; have HW0 := Aside0.mk hW; have HW := Aside0.mk hu; have HB1 := Aside0.mk hB1; have HB2 := Aside0.mk hB2; have HB3 := Aside0.mk hB3; have HI := Aside0.mk hI; have HR := Aside0.mk hr; obtain ⟨g, off, C0, rfl, hbx, hcx⟩ := hr (by simp); obtain ⟨hx0, hx1, hx2⟩ := hcx 0 (by simp); rw [show rdEnt (x :: xs) ((0 : Nat) : Int) = x from rfl] at hx0 hx1 hx2; simp only [Nat.mul_zero, Nat.add_zero] at hx0 hx1 hx2; have hx0' := ((hbx.up hu).cell off).trans hx0; have hx1' := ((hbx.up hu).cell (off + 1)).trans hx1; have hx2' := ((hbx.up hu).cell (off + 2)).trans hx2; clear hx0 hx1 hx2 hcx
  have hi1 : (0 : Int) < ((xs.length : Int) + 1) := by omega
  have hd0 : (((xs.length : Int) + 1) == 0) = false := by simp; omega
  have hix1 : ∀ w : World, (Instr.index 135 (.agg #[.int .i64 (want).a0, .int .i64 (want).a1, .int .i64 (want).a2, .int .i64 (want).a3, .int .i64 (want).a4, .int .i64 (want).a5]) (.int .i64 x.t)).run Try.prog w = .ok (.int .i64 (want.get x.t)) w := fun w => by
    have h := index_acc want x.t.toNat (by omega) w
    rwa [show ((x.t.toNat : Nat) : Int) = x.t by omega] at h
  have hq1b : ∀ (C : Obj) o, ((W.alloc (.cells #[.func (.yield lp) #[] #[]] 66)).alloc C).cell? ⟨b1, o, none⟩ = (#[.slice (some ⟨g, off, none⟩) (xs.length + 1) c] : Array Value)[o]? := fun C o => (hB1.up (hu.alloc C)).cell o
  have hq2b : ∀ (C : Obj) o, ((W.alloc (.cells #[.func (.yield lp) #[] #[]] 66)).alloc C).cell? ⟨b2, o, none⟩ = (#[.int .i64 (now).a0, .int .i64 (now).a1, .int .i64 (now).a2, .int .i64 (now).a3, .int .i64 (now).a4, .int .i64 (now).a5] : Array Value)[o]? := fun C o => (hB2.up (hu.alloc C)).cell o
  have hq3b : ∀ (C : Obj) o, ((W.alloc (.cells #[.func (.yield lp) #[] #[]] 66)).alloc C).cell? ⟨b3, o, none⟩ = (#[.int .i64 (want).a0, .int .i64 (want).a1, .int .i64 (want).a2, .int .i64 (want).a3, .int .i64 (want).a4, .int .i64 (want).a5] : Array Value)[o]? := fun C o => (hB3.up (hu.alloc C)).cell o
  have hgw : (#[.int .i64 (want).a0, .int .i64 (want).a1, .int .i64 (want).a2, .int .i64 (want).a3, .int .i64 (want).a4, .int .i64 (want).a5] : Array Value)[x.t.toNat]? = some (.int .i64 (want.get x.t)) := by
    obtain h | h | h | h | h | h : x.t = 0 ∨ x.t = 1 ∨ x.t = 2 ∨ x.t = 3 ∨ x.t = 4 ∨ x.t = 5 := by omega
    all_goals (rw [h]; rfl)
  have hgn : (#[.int .i64 (now).a0, .int .i64 (now).a1, .int .i64 (now).a2, .int .i64 (now).a3, .int .i64 (now).a4, .int .i64 (now).a5] : Array Value)[x.t.toNat]? = some (.int .i64 (now.get x.t)) := by
    obtain h | h | h | h | h | h : x.t = 0 ∨ x.t = 1 ∨ x.t = 2 ∨ x.t = 3 ∨ x.t = 4 ∨ x.t = 5 := by omega
    all_goals (rw [h]; rfl)
  have hg3 : ∀ (C : Obj), ((W.alloc (.cells #[.func (.yield lp) #[] #[]] 66)).alloc C).cell? ⟨b3, x.t.toNat, none⟩ = some (.int .i64 (want.get x.t)) := fun C => (hq3b C _).trans hgw
  have hg2 : ∀ (C : Obj), ((W.alloc (.cells #[.func (.yield lp) #[] #[]] 66)).alloc C).cell? ⟨b2, x.t.toNat, none⟩ = some (.int .i64 (now.get x.t)) := fun C => (hq2b C _).trans hgn
  have hy0 : (0 : Int) ≤ x.t := by omega
  have hy1 : x.t < 6 := by omega
  clear hq2 hq3 hq2b hq3b hgw hgn; clear hY hJ hj hB1 hB2 hB3 hW hu hI hr hbx; refine callsIn_of_wp_marks Try.func92 rfl trivial ?_ rfl; simp only [Try.ntmps92, List.size_toArray, List.length_cons, List.length_nil, Nat.reduceAdd, Nat.reduceSub, Array.replicate_succ, Array.replicate_zero, List.push_toArray, List.append_toArray, List.nil_append, List.cons_append]; have hgb1 := get_bd hw (by omega) x.t; have hgb2 := get_bd (hn.mono (m := 9000) (by omega)) (by omega) x.t
  have hw64 : wrap64 (want.get x.t - now.get x.t) = want.get x.t - now.get x.t := by unfold wrap64; omega
  have hw65 : IntKind.i64.wrap (want.get x.t - now.get x.t) = want.get x.t - now.get x.t := IntWalk.i64_in _ (by omega)
  gi_upto_if 23 with fail
  gi_cut [6, 7] from 24 (fun u6 u7 wx => ∃ fst lst : Int, u6 = .int .i64 fst ∧ u7 = .int .i64 lst ∧ Aside0 (max 0 fst = wayLo want now x xs) ∧ Aside0 (min lst 100 = wayHi want now x xs) ∧ Aside0 (Up ((W.alloc (.cells #[.func (.yield lp) #[] #[]] 66)).alloc (.cells #[.int .i64 (x).f, .int .i64 (x).t, .int .i64 (x).a] 101)) wx))
  case first =>
    by_cases hxs : xs.length = 0
    · have hd1 : (((xs.length : Int) + 1) == 1) = true := by simp; omega
      gi_wp2_with fail
      gi_region
      gi_wp2_with fail
      gi_meet
      exact ⟨_, _, rfl, rfl, ⟨by simp only [wayLo, hxs, if_true]⟩, ⟨by simp only [wayHi, hxs, if_true]⟩, ⟨upA⟩⟩
    · have hd1 : (((xs.length : Int) + 1) == 1) = false := by simp; omega
      gi_wp2_with fail
      gi_meet
      exact ⟨_, _, rfl, rfl, ⟨by simp only [wayLo, if_neg hxs]⟩, ⟨by simp only [wayHi, if_neg hxs]⟩, ⟨upA⟩⟩
  case rest =>
    obtain ⟨fst, lst, rfl, rfl, hlo, hhi, HUX⟩ := hcut
    have HBX5 : Aside0 (Bx wc (W.heap.size + 1) #[.int .i64 (x).f, .int .i64 (x).t, .int .i64 (x).a] 101) := ⟨by
      have h9 := Bx.new (W.alloc (.cells #[.func (.yield lp) #[] #[]] 66)) #[.int .i64 (x).f, .int .i64 (x).t, .int .i64 (x).a] 101; simp only [World.size_alloc] at h9
      exact h9.up HUX.out⟩
    have HBX4 : Aside0 (Bx wc W.heap.size #[.func (.yield lp) #[] #[]] 66) := ⟨((Bx.new W _ _).up ((Up.refl _).alloc _)).up HUX.out⟩; have hsz := HUX.out.le; simp only [World.size_alloc] at hsz
    gi_wp2_with fail
    rw [hlo.out]; have HUW : Aside0 (Up W wc) := ⟨(((Up.refl W).alloc _).alloc _).then HUX.out⟩
    have hI0 : WayI J w W lp x x.a (wayLo want now x xs) wc.heap.size [] [] (wc.alloc (.cells #[.int .i64 (wayLo want now x xs)] 3)) := by
      refine ⟨HSJ.out.up HJ0.out (HUW.out.alloc _), HBX4.out.up ((Up.refl _).alloc _), HBX5.out.up ((Up.refl _).alloc _), Bx.new wc _ _, by omega, Kt.up (HW0.out.then (HUW.out.alloc _)), by simp; omega, fun D hD => by simp at hD⟩
    have HI0 := Aside0.mk hI0; clear hI0; refine wpIn_loop (fun a' Wc => ∃ (k B8 : Nat) (am : Int) (Ds : List Nat), ∃ u6 u9 u10 u11 u12 u13 u14 u15 u16 u17 u18 u19 u20 u21 u22 u23 u24 u25 u26 u27 u28 u29 u30 u31 u32 u33 u34 u35 u36 u37 u38 u39 u40 u41 u42 u43 u44 u45 u46 u47 u48 u49 u50 u51 u52 u53 u54 u55 u56 u57 u58 u59 u60 : Value, (k ≤ wayN want now x xs ∧ Aside0 (WayI J w W lp x am (wayLo want now x xs + (k : Int)) B8 Ds (waysTo want xs x now (wayLo want now x xs) k) Wc) ∧ Aside0 Ds.Nodup) ∧ a' = { tmps := #[.func (.yield lp) #[] #[], .pointer (some ⟨b1, 0, none⟩), .pointer (some ⟨b2, 0, none⟩), .pointer (some ⟨b3, 0, none⟩), .pointer (some ⟨W.heap.size, 0, none⟩), .pointer (some ⟨W.heap.size + 1, 0, none⟩), u6, .int .i64 lst, .pointer (some ⟨B8, 0, none⟩), u9, u10, u11, u12, u13, u14, u15, u16, u17, u18, u19, u20, u21, u22, u23, u24, u25, u26, u27, u28, u29, u30, u31, u32, u33, u34, u35, u36, u37, u38, u39, u40, u41, u42, u43, u44, u45, u46, u47, u48, u49, u50, u51, u52, u53, u54, u55, u56, u57, u58, u59, u60], defers := Ds.map (fun D => { target := .collected D, args := #[] }) }) (fun a' Wc => wayN want now x xs - (wayCell a' Wc - wayLo want now x xs).toNat) ?_ ?_
    · refine ⟨0, wc.heap.size, x.a, [], ?_⟩
      (repeat apply Exists.intro)
      refine ⟨?_, rfl⟩; exact ⟨Nat.zero_le _, ⟨by simpa [waysTo] using HI0.out⟩, ⟨List.nodup_nil⟩⟩
    · rintro a' Wc ⟨k, B8, am, Ds, u6, u9, u10, u11, u12, u13, u14, u15, u16, u17, u18, u19, u20, u21, u22, u23, u24, u25, u26, u27, u28, u29, u30, u31, u32, u33, u34, u35, u36, u37, u38, u39, u40, u41, u42, u43, u44, u45, u46, u47, u48, u49, u50, u51, u52, u53, u54, u55, u56, u57, u58, u59, u60, ⟨hk, hIc, hnd⟩, rfl⟩
      dsimp only
      have hc8 := hIc.out.b8.cell; have hN : wayN want now x xs = (wayHi want now x xs + 1 - wayLo want now x xs).toNat := rfl
      have hlb : 0 ≤ wayLo want now x xs := by unfold wayLo; omega
      have hhb : wayHi want now x xs ≤ 100 := by unfold wayHi; omega
      by_cases hlt : k < wayN want now x xs
      · have hdl : decide (wayLo want now x xs + (k : Int) ≤ min lst 100) = true := by rw [hhi.out]; simp; omega
        obtain ⟨n, hnn⟩ : ∃ n, n = wayLo want now x xs + (k : Int) := ⟨_, rfl⟩
        have hnb : 0 ≤ n ∧ n ≤ 100 := by omega
        have HNN := Aside0.mk hnn; rw [← hnn] at hIc hc8 hdl; clear hN hlb hhb hnn; have hwW := HW0.out.le; have hc5 := hIc.out.b5.cell; have hf5 := hIc.out.b5.frozen; have HA := Aside0.mk (hIc.out.set HSJ.out hwW n); have hq5 : ∀ o, (Wc.setCell ⟨W.heap.size + 1, 2, none⟩ (.int .i64 n)).cell? ⟨W.heap.size + 1, o, none⟩ = (#[.int .i64 x.f, .int .i64 x.t, .int .i64 n] : Array Value)[o]? := HA.out.b5.cell; have hB1a := HA.out.kt.bx HB1.out (by simp [fillLo]); have hB2a := HA.out.kt.bx HB2.out (by simp [fillLo]); have hB3a := HA.out.kt.bx HB3.out (by simp [fillLo]); have hq1a := hB1a.cell; have hq2a := hB2a.cell; have hq3a := hB3a.cell; have hl1 := hB1a.lt; have hl2 := hB2a.lt; have hl3 := hB3a.lt; simp only [World.size_setCell] at hl1 hl2 hl3; have hnA : AccB 1000000 now := hn.mono (by omega); have HNA := Aside0.mk hnA; have hszc := hIc.out.sz; have HB1A := Aside0.mk hB1a; have HB3A := Aside0.mk hB3a; clear hB1a hB2a hB3a hnA
        gi_upto_region 13 with fail
        gi_cut [50] from 61 (fun u50 wx => ∃ W0 A8, Aside0 (Up (Wc.setCell ⟨W.heap.size + 1, 2, none⟩ (.int .i64 n)) W0) ∧ u50 = .func (.func 92) #[] #[.pointer (some ⟨W0.heap.size + 2, 0, none⟩), .pointer (some ⟨W0.heap.size, 0, none⟩), .pointer (some ⟨W0.heap.size + 1, 0, none⟩)] ∧ Aside0 (wx = ((W0.alloc (.cells #[.int .i64 (afterA now ⟨x.f, x.t, n⟩).a0, .int .i64 (afterA now ⟨x.f, x.t, n⟩).a1, .int .i64 (afterA now ⟨x.f, x.t, n⟩).a2, .int .i64 (afterA now ⟨x.f, x.t, n⟩).a3, .int .i64 (afterA now ⟨x.f, x.t, n⟩).a4, .int .i64 (afterA now ⟨x.f, x.t, n⟩).a5] 135)).alloc (.cells #[.int .i64 (want).a0, .int .i64 (want).a1, .int .i64 (want).a2, .int .i64 (want).a3, .int .i64 (want).a4, .int .i64 (want).a5] 135)).alloc (.cells #[.slice A8 xs.length (c - 1)] 46)) ∧ Aside0 (A8 = if c = 1 then some ⟨g, off, none⟩ else some ⟨g, off + 3, none⟩))
        case first =>
          have hone : (1 : Int) ≤ (xs.length : Int) + 1 := by omega
          by_cases hcap : c = 1
          · skip
            refine wpIn_wide.2 ?_
            go_region_held3 (fun V => (∀ o, V.cell? ⟨b1, o, none⟩ = (#[.slice (some ⟨g, off, none⟩) (xs.length + 1) c] : Array Value)[o]?) ∧ (∀ o, V.cell? ⟨b2, o, none⟩ = (#[.int .i64 (now).a0, .int .i64 (now).a1, .int .i64 (now).a2, .int .i64 (now).a3, .int .i64 (now).a4, .int .i64 (now).a5] : Array Value)[o]?) ∧ (∀ o, V.cell? ⟨b3, o, none⟩ = (#[.int .i64 (want).a0, .int .i64 (want).a1, .int .i64 (want).a2, .int .i64 (want).a3, .int .i64 (want).a4, .int .i64 (want).a5] : Array Value)[o]?) ∧ (∀ o, V.cell? ⟨W.heap.size + 1, o, none⟩ = (#[.int .i64 x.f, .int .i64 x.t, .int .i64 n] : Array Value)[o]?)) (first | (go_keep; done) | (go_split_ands; (repeat' (with_reducible apply And.intro)) <;> (first | assumption | (intro o; refine (hcA _ o ?_).trans ?_; (focus (first | omega | (simp; omega) | (simp; done))); (first | (simp only [*]; done) | (simp [*]; done))) | ((refine (hcA _ _ (by (try simp); omega)).trans ?_); (first | assumption | (simp only [*]; done) | (simp [*]; done)))))) (first | (go_at_call 74; (with_reducible refine (after_ now ⟨x.f, x.t, n⟩ _ HNA.out hx hy (by simp only; omega)).mono ?_); rintro e w' ⟨rfl, hb⟩; have hbA := Aside0.mk hb; obtain ⟨hcA, hfA⟩ := hb.old; have hz := hb.le; (try simp at hz); (try have hz0 : w.heap.size < w'.heap.size := by omega); (try have hzb : w.heap.size + 1 < w'.heap.size := by omega); (try have hzc : w.heap.size + 2 < w'.heap.size := by omega); clear hb) | (go_at_call 80; (with_reducible refine (ways_ _ want _ _ _ _).mono ?_); rintro e w2 ⟨rfl, hw2⟩; have hb := ways_up hw2; obtain ⟨hcA, hfA⟩ := hb.old; have hz := hb.le; (try simp at hz); have hbB := Aside0.mk hb; have hwB := Aside0.mk hw2; clear hb hw2))
            all_goals
              go_wp2_with fail
              go_meet
              exact ⟨_, some ⟨g, off, none⟩, ⟨upA⟩, rfl, ⟨by first | exact hwB.out | (rw [hwB.out]; simp [hcap]; done)⟩, ⟨by simp [hcap]⟩⟩
          · skip
            refine wpIn_wide.2 ?_
            go_region_held3 (fun V => (∀ o, V.cell? ⟨b1, o, none⟩ = (#[.slice (some ⟨g, off, none⟩) (xs.length + 1) c] : Array Value)[o]?) ∧ (∀ o, V.cell? ⟨b2, o, none⟩ = (#[.int .i64 (now).a0, .int .i64 (now).a1, .int .i64 (now).a2, .int .i64 (now).a3, .int .i64 (now).a4, .int .i64 (now).a5] : Array Value)[o]?) ∧ (∀ o, V.cell? ⟨b3, o, none⟩ = (#[.int .i64 (want).a0, .int .i64 (want).a1, .int .i64 (want).a2, .int .i64 (want).a3, .int .i64 (want).a4, .int .i64 (want).a5] : Array Value)[o]?) ∧ (∀ o, V.cell? ⟨W.heap.size + 1, o, none⟩ = (#[.int .i64 x.f, .int .i64 x.t, .int .i64 n] : Array Value)[o]?)) (first | (go_keep; done) | (go_split_ands; (repeat' (with_reducible apply And.intro)) <;> (first | assumption | (intro o; refine (hcA _ o ?_).trans ?_; (focus (first | omega | (simp; omega) | (simp; done))); (first | (simp only [*]; done) | (simp [*]; done))) | ((refine (hcA _ _ (by (try simp); omega)).trans ?_); (first | assumption | (simp only [*]; done) | (simp [*]; done)))))) (first | (go_at_call 74; (with_reducible refine (after_ now ⟨x.f, x.t, n⟩ _ HNA.out hx hy (by simp only; omega)).mono ?_); rintro e w' ⟨rfl, hb⟩; have hbA := Aside0.mk hb; obtain ⟨hcA, hfA⟩ := hb.old; have hz := hb.le; (try simp at hz); (try have hz0 : w.heap.size < w'.heap.size := by omega); (try have hzb : w.heap.size + 1 < w'.heap.size := by omega); (try have hzc : w.heap.size + 2 < w'.heap.size := by omega); clear hb) | (go_at_call 80; (with_reducible refine (ways_ _ want _ _ _ _).mono ?_); rintro e w2 ⟨rfl, hw2⟩; have hb := ways_up hw2; obtain ⟨hcA, hfA⟩ := hb.old; have hz := hb.le; (try simp at hz); have hbB := Aside0.mk hb; have hwB := Aside0.mk hw2; clear hb hw2))
            all_goals
              go_wp2_with fail
              go_meet
              exact ⟨_, some ⟨g, off + 3, none⟩, ⟨upA⟩, rfl, ⟨by first | exact hwB.out | (rw [hwB.out]; simp [hcap]; done)⟩, ⟨by simp [hcap]⟩⟩
        case rest =>
          obtain ⟨W0, A8, HU0, rfl, HWX, HA8⟩ := hcut; have hwx := HWX.out
          have hU1 : Up W0 wc := by rw [hwx]; exact upA
          have hI1 := (HA.out.up HSJ.out HU0.out).up HSJ.out hU1
          have hbb2 : Bx wc W0.heap.size #[.int .i64 (afterA now ⟨x.f, x.t, n⟩).a0, .int .i64 (afterA now ⟨x.f, x.t, n⟩).a1, .int .i64 (afterA now ⟨x.f, x.t, n⟩).a2, .int .i64 (afterA now ⟨x.f, x.t, n⟩).a3, .int .i64 (afterA now ⟨x.f, x.t, n⟩).a4, .int .i64 (afterA now ⟨x.f, x.t, n⟩).a5] 135 := by rw [hwx]; exact bxA
          have hbb3 : Bx wc (W0.heap.size + 1) #[.int .i64 (want).a0, .int .i64 (want).a1, .int .i64 (want).a2, .int .i64 (want).a3, .int .i64 (want).a4, .int .i64 (want).a5] 135 := by rw [hwx]; exact bxA
          have hbb1 : Bx wc (W0.heap.size + 2) #[.slice A8 xs.length (c - 1)] 46 := by rw [hwx]; exact bxA
          have hszw : wc.heap.size = W0.heap.size + 3 := by rw [hwx]; simp
          have hsz0 := (HA.out.up HSJ.out HU0.out).sz; have hB8 := (HA.out.up HSJ.out HU0.out).b8.lt
          have hDs := fun D hD => (Array.getElem?_eq_some_iff.1 ((HA.out.up HSJ.out HU0.out).ds D hD).2).1
          have her : Er wc A8 xs := by
            rw [HA8.out]
            split
            · intro h0; omega
            · exact ((HR.out.kt HA.out.kt (by simp [fillLo])).up (HU0.out.then hU1)).tail
          have hacc : AccB (m + 200) (afterA now ⟨x.f, x.t, n⟩) := (hn.after (m := 100) ⟨x.f, x.t, n⟩ (by simp only; omega)).mono (by omega); have hst := WayI.stays (J := J) (w := w) (W := W) (lp := lp) (x := x) (am := n) (n := n) (B8 := B8) (B := wc.heap.size) (Ds := Ds) (ys := waysTo want xs x now (wayLo want now x xs) k) HSJ.out (by omega) (by omega) (fun D hD => by have := hDs D hD; omega) (by have := HW0.out.le; omega); have hseq := HI.out _ _ _ _ _ _ wc hacc hbb1 hbb2 hbb3 her (by omega); have HDs := Aside0.mk hDs; have HI1 := Aside0.mk hI1; clear hacc hbb1 hbb2 hbb3 her hwx hDs hI1
          gi_wp2_with fail
          refine range_gives (F := Fence.wide) (n := 5) rfl (by omega) (gf := 92) (lb := #[.pointer (some ⟨W0.heap.size + 2, 0, none⟩), .pointer (some ⟨W0.heap.size, 0, none⟩), .pointer (some ⟨W0.heap.size + 1, 0, none⟩)]) rfl trivial ways1_enter (G := Rd) (lo := fillLo) (ow := wayOw) (L := waysL want xs (afterA now ⟨x.f, x.t, n⟩)) hseq (Up.refl _) rfl Rd.putObj
            (fun pre Wd => WayI J w W lp x n n B8 Ds (waysTo want xs x now (wayLo want now x xs) k ++ pre.map (n :: ·)) Wd) hst (by simpa using HI1.out)
            (fun v a' => ∃ u6 u7 u10 u11 u12 u13 u14 u15 u16 u17 u18 u19 u20 u21 u22 u23 u24 u25 u26 u27 u28 u29 u30 u31 u32 u33 u34 u35 u36 u37 u38 u39 u40 u41 u42 u43 u44 u45 u46 u47 u48 u49 u50 u51 u52 u53 u54 u55 u56 u57 u58 u59 u60 : Value, a' = { tmps := #[.func (.yield lp) #[] #[], .pointer (some ⟨b1, 0, none⟩), .pointer (some ⟨b2, 0, none⟩), .pointer (some ⟨b3, 0, none⟩), .pointer (some ⟨W.heap.size, 0, none⟩), .pointer (some ⟨W.heap.size + 1, 0, none⟩), u6, u7, .pointer (some ⟨B8, 0, none⟩), v, u10, u11, u12, u13, u14, u15, u16, u17, u18, u19, u20, u21, u22, u23, u24, u25, u26, u27, u28, u29, u30, u31, u32, u33, u34, u35, u36, u37, u38, u39, u40, u41, u42, u43, u44, u45, u46, u47, u48, u49, u50, u51, u52, u53, u54, u55, u56, u57, u58, u59, u60], defers := [] }) ?assign ?body ?done
          case assign =>
            intro l v Wd K hK
            gi_wp2_with fail
          case done =>
            intro D Wd hD hId hDd; have HID := Aside0.mk hId; have hq8 := hId.b8.cell; clear hId
            gi_wp2_with fail
            have hne : D ∉ Ds := fun h => by have := HDs.out D h; omega
            refine ⟨⟨k + 1, Wd.heap.size, n, D :: Ds, ?_⟩, ?_⟩
            · (repeat apply Exists.intro)
              refine ⟨?_, rfl⟩; refine ⟨by omega, ⟨?_⟩, ⟨List.nodup_cons.2 ⟨hne, hnd.out⟩⟩⟩; have h9 := HID.out.next HSJ.out D (by omega) hDd (n + 1); rw [waysTo_succ, ← HNN.out, show wayLo want now x xs + ((k + 1 : Nat) : Int) = n + 1 by rw [HNN.out]; omega]
              first | exact h9 | (trace_state; exact h9)
            · refine way_mu (B1 := Wd.heap.size) (B2 := B8) (n := n) rfl ?_ rfl (hc8 0) (by rw [HNN.out]; omega) (by rw [HNN.out]; omega)
              exact (Bx.new1 Wd #[.int .i64 (n + 1)] 3 _ rfl).cell 0
          case body =>
            rintro l pre y post v a' Wd hl ⟨r, hlr⟩ hL hIp ⟨A9, c9, rfl, hc9, hRc⟩ ⟨u6, u7, u10, u11, u12, u13, u14, u15, u16, u17, u18, u19, u20, u21, u22, u23, u24, u25, u26, u27, u28, u29, u30, u31, u32, u33, u34, u35, u36, u37, u38, u39, u40, u41, u42, u43, u44, u45, u46, u47, u48, u49, u50, u51, u52, u53, u54, u55, u56, u57, u58, u59, u60, rfl⟩
            dsimp only
            have hq4 := hIp.b4.cell; have hq8 := hIp.b8.cell
            have hq4b : ∀ (C : Obj) o, (Wd.alloc C).cell? ⟨W.heap.size, o, none⟩ = (#[.func (.yield lp) #[] #[]] : Array Value)[o]? := fun C o => (hIp.b4.up ((Up.refl _).alloc C)).cell o
            have hq8b : ∀ (C : Obj) o, (Wd.alloc C).cell? ⟨B8, o, none⟩ = (#[.int .i64 n] : Array Value)[o]? := fun C o => (hIp.b8.up ((Up.refl _).alloc C)).cell o
            have hq4c : ∀ (C D : Obj) o, ((Wd.alloc C).alloc D).cell? ⟨W.heap.size, o, none⟩ = (#[.func (.yield lp) #[] #[]] : Array Value)[o]? := fun C D o => (hIp.b4.up (((Up.refl _).alloc C).alloc D)).cell o
            have HIP := Aside0.mk hIp; have HRC := Aside0.mk hRc.rc; clear hIp hRc
            gi_wp2_with fail
            have hyl : y.length ≤ 50 := by
              have h9 := waysL_len want xs (afterA now ⟨x.f, x.t, n⟩) y (by rw [← hL]; simp); omega
            obtain ⟨suf, hsuf⟩ := waysTo_split want xs x now (wayLo want now x xs) k (wayN want now x xs) hlt
            have HEQ : Aside0 ((waysTo want xs x now (wayLo want now x xs) k ++ pre.map (n :: ·)) ++ (n :: y) :: (post.map (n :: ·) ++ suf) = waysL want (x :: xs) now) := ⟨by
              have h9 : waysL want (x :: xs) now = waysTo want xs x now (wayLo want now x xs) (wayN want now x xs) := rfl; rw [h9, hsuf, waysTo_succ, ← HNN.out, ← hL]
              simp⟩
            clear hsuf
            gi_region_with (first | (refine ⟨trivial, (CallsIn.inRound _ (callsIn_wide.2 (concat1 n Wd.heap.size A9 c9 y (Wd.heap.size + 1) _ bxA bxA (HRC.out.up upA) hc9 hyl))).mono ?_⟩; rintro e w1 ⟨v1, rfl, ho1, hu1⟩; have HU1 := Aside0.mk hu1; have hI2 := HIP.out.up (Wd := w1) HSJ.out upA; have hUK : Aside0 (Kt fillLo Wd w1) := ⟨Kt.up upA⟩; have hq4d := hI2.b4.cell; obtain ⟨fn, tmps, assign, body, hy, hR⟩ := HY.out _ _ _ v1 w1 HEQ.out hI2.j hI2.kt (Rd.ofOwn ho1); have HI2 := Aside0.mk hI2; have HR1 := Aside0.mk hR; clear ho1 hu1 hI2 hR) | (refine (roundIn_any HR1.out _ _).mono ?_; rintro e W3 ⟨rfl, hJ3, hK3⟩; have HJ3 := Aside0.mk hJ3; have HK3 := Aside0.mk hK3; clear hJ3 hK3))
            all_goals
              gi_wp2_with fail
              refine ⟨hUK.out.trans HK3.out, ?_⟩; have h9 := HI2.out.kt2 HK3.out (ys' := waysTo want xs x now (wayLo want now x xs) k ++ (pre ++ [y]).map (n :: ·)) (by simpa using HJ3.out); exact h9
      · obtain rfl : k = wayN want now x xs := by omega
        have hdl : decide (wayLo want now x xs + ((wayN want now x xs : Nat) : Int) ≤ min lst 100) = false := by rw [hhi.out]; simp; omega
        clear hN hlb hhb
        gi_wp2_with fail
        exact ways_fin hIc.out HSJ.out hnd.out
end Go.Proofs.Ytdlekcdedahbhaa
namespace Go.Proofs.Ytdlekcdedahbhaa
open Go.RowKit Go.Shelf Go.Proofs.YtdlekcdedahbhaaW.PrintWords
set_option linter.unusedVariables false
set_option linter.unusedSimpArgs false
def noDefer (l : List Oper) : Bool := l.all fun o => match o.op with | Op.defer _ => false | _ => true
theorem noDefer_spec {l : List Oper} (h : noDefer l = true) {i : Nat} {o : Oper} (hi : l[i]? = some o) : ∀ c : Call, o.op ≠ Op.defer c := by
  intro c e; have h1 := List.all_eq_true.1 h o (List.mem_of_getElem? hi); rw [e] at h1
  cases h1
theorem opIn_of_still {P : Program} {w : World} {n l0 : Nat} {o : Oper} (hnd : ∀ c : Call, o.op ≠ Op.defer c) {a : Act} {K : Act → Prop} {K' : Act → World → Prop} {Q' : Exit → Act → World → Prop} (h : ∀ a, K a → K' a w) (hh : o.still P a w K) : o.wpIn (Fence.wide.inRound l0) n P a w K' Q' := by
  unfold Oper.still at hh
  unfold Oper.wpIn
  refine ⟨fun f _ => trivial, ?_⟩; rw [Oper.semAt_eq _ _ _ hnd]
  generalize (execOp a.eval o).run P w = r at *
  cases r with
  | ok nx w' =>
    cases nx <;> simp only [Oper.stillUpon] at hh <;> simp only [Oper.uponIn]
    case enter f args =>
      obtain ⟨rfl, v, hc, hn⟩ := hh; refine ⟨fun hd => by simp [Fence.wide, Fence.inRound] at hd, ?_⟩
      exact (CallsIn.inRound _ (callsIn_wide.2 hc)).mono fun e w'' ⟨he, hw⟩ => by subst he; subst hw; exact h _ hn
    all_goals (obtain ⟨rfl, h2⟩ := hh; exact h _ h2)
  | halt x w' => simp only [Oper.stillUpon] at hh
theorem opsIn_of_still {P : Program} {ops : Array Oper} {w : World} {n l0 : Nat} {i : Nat} {a : Act} (hnd : ∀ o : Oper, ops[i]? = some o → ∀ c : Call, o.op ≠ Op.defer c) {K : Act → Prop} {K' : Act → World → Prop} {Q' : Exit → Act → World → Prop} (h : ∀ a, K a → K' a w) (hh : stOp P ops w i K a) : wpOpIn (Fence.wide.inRound l0) n P ops Q' i K' a w := by
  unfold stOp at hh
  unfold wpOpIn
  split
  · rename_i ho; simp only [ho] at hh; exact h _ hh
  · rename_i o ho
    simp only [ho] at hh
    split
    · rename_i hw; simp only [hw, if_true] at hh; exact opIn_of_still (hnd o ho) h hh
    · rename_i hw; simp only [hw] at hh; exact ⟨fun f _ => trivial, h _ hh⟩
theorem anyIn_of_head {P : Program} {md : Region.Mode} {ops : Array Oper} {w : World} {m l0 : Nat} (hnd : ∀ (i : Nat) (o : Oper), ops[i]? = some o → ∀ c : Call, o.op ≠ Op.defer c) {n g : Nat} {L : Array Bool → Act → Prop} {Q' : Exit → Act → World → Prop} (hL : ∀ listed a, L listed a → wpAnyIn (Fence.wide.inRound l0) m P md ops Q' g listed a w) :
    ∀ (f : Nat) (listed : Array Bool) (a : Act), wpAnyL P md ops w n L f listed a → wpAnyIn (Fence.wide.inRound l0) m P md ops Q' (f + g) listed a w
  | 0, listed, a, h => by rw [Nat.zero_add]; exact hL _ _ h
  | f + 1, listed, a, h => by
    rw [show f + 1 + g = (f + g) + 1 by omega]; exact ⟨fun h0 => absurd h0 h.1, fun i hi => opsIn_of_still (hnd i) (fun a' h' => anyIn_of_head hnd hL f _ a' h') (h.2 i hi).2⟩
theorem anyIn_of_seq {F : Fence} {m : Nat} {P : Program} {md : Region.Mode} {ops : Array Oper} {Q' : Exit → Act → World → Prop} : ∀ (l : List Oper) (k : Nat) (listed : Array Bool) (a : Act) (w : World), (∀ j, l[j]? = ops[k + j]?) →
    Region.seqB md ops l.length k listed = true → wpListIn F m P ops Q' l a w → wpAnyIn F m P md ops Q' l.length listed a w
  | [], _, _, _, _, _, hB, h => ⟨by simpa [Region.seqB] using hB, h⟩
  | o :: l, k, listed, a, w, hl, hB, h => by
    have h0 : ops[k]? = some o := by simpa using (hl 0).symm
    simp only [List.length_cons, Region.seqB, Bool.and_eq_true, decide_eq_true_eq] at hB; refine ⟨fun h1 => (by rw [hB.1] at h1; cases h1), fun i hi => ?_⟩; rw [hB.1] at hi
    have hik : i = k := by simpa using hi
    subst hik
    have hw : wpOpIn F m P ops Q' i (wpListIn F m P ops Q' l) a w := by unfold wpOpIn; simp only [h0]; exact h
    exact wpOpIn_mono (fun a' w' h' => anyIn_of_seq l (i + 1) _ a' w' (fun j => by have := hl (j + 1); simpa [Nat.add_assoc, Nat.add_comm 1 j] using this) hB.2 h') hw
theorem regionIn_still_tail {P : Program} {l0 m : Nat} {id : Nat} {Q : Exit → Act → World → Prop} {a : Act} {w : World} {l : List Oper} (n : Nat) (hm : P.follows .mixedOrders = true) (hB : Region.lexTailB .any l.toArray n = true) (hnd : noDefer l = true)
    (h : wpStill P l.toArray { w with drawn := w.drawn + 1 } (fun a' => wpListIn (Fence.wide.inRound l0) m P l.toArray Q (l.drop n) a' { w with drawn := w.drawn + 1 }) (l.take n) a) : (Code.region id l.toArray true).wpIn (Fence.wide.inRound l0) m P Q a w := by
  simp only [Region.lexTailB, Bool.and_eq_true, decide_eq_true_eq] at hB; obtain ⟨⟨⟨⟨hsel, hn⟩, hs⟩, hc⟩, hlex⟩ := hB
  have hn' : n < l.length := by simpa using hn
  have htl : (l.take n).length = n := by simp; omega
  have hdl : (l.drop n).length = l.toArray.size - n := by simp
  have inv0 : HeadInv .any l.toArray n (Array.replicate l.toArray.size false) :=
    ⟨by simp, fun j oj _ hl => (by rw [getD_replicate_false] at hl; cases hl), fun t _ ht => getD_in (by simpa using ht) (getD_replicate_false _ _)⟩
  have H := wpAnyL_lex (md := .any) (g := l.toArray.size - n) hsel hs hc hn (l.take n) 0 _ a (fun j hj => by
    have hj' : j < n := by rw [htl] at hj; exact hj
    simp [hj']) (by simpa using htl) inv0 (by rw [htl]; exact hlex) h
  refine wpIn_region_any hm ?_
  have := anyIn_of_head (Q' := Q) (m := m) (l0 := l0) (g := l.toArray.size - n) (fun i o hi => noDefer_spec hnd (by simpa using hi)) (fun listed a' hL => by
    have := anyIn_of_seq (md := .any) (Q' := Q) (l.drop n) n listed a' { w with drawn := w.drawn + 1 } (fun j => by simp [List.getElem?_drop]) (by rw [hdl]; exact hL.1) hL.2
    rwa [hdl] at this) _ _ _ H
  rw [htl, show n + (l.toArray.size - n) = l.toArray.size by omega] at this; exact this
end Go.Proofs.Ytdlekcdedahbhaa
namespace Go.Proofs.Ytdlekcdedahbhaa
open Go.RowKit Go.Shelf Go.Proofs.YtdlekcdedahbhaaW.PrintWords
set_option linter.unusedVariables false
set_option linter.unusedSimpArgs false
theorem ways1_gives (want : Acc) (hw : AccB 100000 want) : ∀ (blots : List Ent) (m : Int) (now : Acc) (A : Option Addr) (c b1 b2 b3 : Nat) (w : World), AccB m now → m + 200 * (blots.length : Int) ≤ 9000 → blots.length ≤ 50 →
    (∀ x ∈ blots, (0 ≤ x.f ∧ x.f ≤ 5) ∧ (0 ≤ x.t ∧ x.t ≤ 5)) → Bx w b1 #[.slice A blots.length c] 46 → Bx w b2 #[.int .i64 (now).a0, .int .i64 (now).a1, .int .i64 (now).a2, .int .i64 (now).a3, .int .i64 (now).a4, .int .i64 (now).a5] 135 → Bx w b3 #[.int .i64 (want).a0, .int .i64 (want).a1, .int .i64 (want).a2, .int .i64 (want).a3, .int .i64 (want).a4, .int .i64 (want).a5] 135 → Er w A blots → blots.length ≤ c →
    Gives Fence.wide 5 Try.prog 92 #[.pointer (some ⟨b1, 0, none⟩), .pointer (some ⟨b2, 0, none⟩), .pointer (some ⟨b3, 0, none⟩)] Rd fillLo wayOw (waysL want blots now) w
  | [], m, now, A, c, b1, b2, b3, w, hn, hm, hl, he, h1, h2, h3, hr, hc => ways_nil want now A c b1 b2 b3 w h1 h2 h3
  | x :: xs, m, now, A, c, b1, b2, b3, w, hn, hm, hl, he, h1, h2, h3, hr, hc => by
    simp only [List.length_cons] at hm hl hc h1; have hx := he x (List.mem_cons_self ..)
    exact ways_cons want now x xs A c b1 b2 b3 m w hw hn (by omega) hx.1 hx.2 h1 h2 h3 hr hc (by omega) fun now' A' c' b1' b2' b3' w' g1 g2 g3 g4 g5 g6 =>
      (ways1_gives want hw xs (m + 200) now' A' c' b1' b2' b3' w' g1 (by omega) (by omega) (fun y hy => he y (List.mem_cons_of_mem _ hy)) g2 g3 g4 g5 g6).any 4
theorem range_gives_fr {α : Type} {F : Fence} {n : Nat} {P : Program} {g : Operand} {ps : Array Tmp} {assign body : Code} {Q : Exit → Act → World → Prop} {a : Act} {w : World}
    (hro : F.round = none) (h1 : 1 ≤ n) {gf : Nat} {lb : Array Value} (hg : a.eval g = .func (.func gf) #[] lb) (hFg : F.fn gf) (eg : ∀ args w, (callFunc gf args).run P w = .ok (.enter gf args) w)
    {G : World → Value → α → Prop} {lo ow : Nat → Prop} {L : List α} {w0 : World} (hseq : Gives F (n - 1) P gf lb G lo ow L w0) (hb0 : Up w0 w) (hps : ps.size = 1)
    (hG : ∀ (W : World) (l : Nat) (o o' : Obj) v x, W.heap[l]? = some o → o.isCells = false → G W v x → G (W.putObj l o') v x)
    (I : List α → World → Prop) (hI : Stays ow w.heap.size I) (h0 : I [] w) {fr : Value → Act}
    (hassign : ∀ (l : Nat) (v : Value) (W : World) (K : Act → World → Prop), K (fr v) W →
      assign.wpIn (F.inRound l) (n - 1 - 1) P (Exit.then K (fun _ _ _ => False)) { tmps := (ps.zip #[v]).foldl (fun t (p, v) => t.setIfInBounds p v) a.tmps, defers := [] } W)
    (hbody : ∀ (l : Nat) (pre : List α) (x : α) (post : List α) (v : Value) (W : World), w.heap.size ≤ l → (∃ r, W.heap[l]? = some (.loop r)) → pre ++ x :: post = L → I pre W → G W v x → body.wpIn (F.inRound l) (n - 1 - 1) P (givesPost lo I (pre ++ [x]) W) (fr v) W)
    (hdone : ∀ (D : Nat) (W : World), w.heap.size ≤ D → I L W → W.heap[D]? = some (.deferred (some [])) → Q .normal { a with defers := { target := .collected D, args := #[] } :: a.defers } W) :
    (Code.rangeFunc g ps assign body).wpIn F n P Q a w :=
  range_gives hro h1 hg hFg eg hseq hb0 hps hG I hI h0 (fun v a' => a' = fr v) (fun l v W K hK => hassign l v W K (hK _ rfl)) (fun l pre x post v a' W h1 h2 h3 h4 h5 h6 => by subst h6; exact hbody l pre x post v W h1 h2 h3 h4 h5) hdone
def blotsL (l : List Ent) : List Ent := l.filter fun x => x.a == -1
def readL (l : List Ent) : List Ent := l.filter fun x => !(x.a == -1)
def initAt (y : List Int) : Nat → List Sp
  | 0 => List.replicate y.length ⟨0, 0⟩
  | k + 1 => (initAt y k).set k ⟨rd y k, rd y k⟩
def joinAt (s : List Sp) (y : List Int) : Nat → List Sp
  | 0 => s
  | k + 1 => (joinAt s y k).set k ⟨min (rdS (joinAt s y k) k).lo (rd y k), max (rdS (joinAt s y k) k).hi (rd y k)⟩
def joinAll (s : List Sp) (y : List Int) : List Sp := joinAt s y y.length
def initAll (y : List Int) : List Sp := initAt y y.length
def fillTo : List (List Int) → List Sp
  | [] => []
  | y :: ys => ys.foldl joinAll (joinAll (initAll y) y)
theorem initAt_len (y : List Int) : ∀ k, (initAt y k).length = y.length
  | 0 => by simp [initAt]
  | k + 1 => by simp [initAt, initAt_len y k]
theorem joinAt_len (s : List Sp) (y : List Int) : ∀ k, (joinAt s y k).length = s.length
  | 0 => by simp [joinAt]
  | k + 1 => by simp [joinAt, joinAt_len s y k]
theorem fillTo_snoc (pre : List (List Int)) (y : List Int) : fillTo (pre ++ [y]) = joinAll (if pre = [] then initAll y else fillTo pre) y := by
  cases pre with
  | nil => simp [fillTo]
  | cons z zs => simp [fillTo]
theorem foldl_len (n : Nat) : ∀ (ys : List (List Int)) (s : List Sp), s.length = n → (ys.foldl joinAll s).length = n
  | [], s, h => h
  | y :: ys, s, h => by rw [List.foldl_cons]; exact foldl_len n ys _ (by rw [joinAll, joinAt_len, h])
theorem fillTo_len (n : Nat) (pre : List (List Int)) (h : ∀ y ∈ pre, y.length = n) (h0 : pre ≠ []) : (fillTo pre).length = n := by
  cases pre with
  | nil => exact absurd rfl h0
  | cons y ys => exact foldl_len n ys _ (by rw [joinAll, joinAt_len, initAll, initAt_len]; exact h y (List.mem_cons_self ..))
def fillW (l : List Ent) (b : List Int) : List (List Int) := waysL (balA b) (blotsL l) (allA (readL l))
def fillE (l : List Ent) (b : List Int) : Int := if chkE l = 0 then (if (blotsL l).length > 3 then 8 else if balB b then (if fillW l b = [] then 9 else 0) else 4) else chkE l
def fillS (l : List Ent) (b : List Int) : List Sp := if fillE l b = 0 then fillTo (fillW l b) else []
def encEnt (x : Ent) : List Value := [.int .i64 x.f, .int .i64 x.t, .int .i64 x.a]
theorem info_ent : (Try.prog.info? 101).map (fun i => (i.zero, i.size, i.bytes)) = some (some (.agg #[.int .i64 0, .int .i64 0, .int .i64 0]), 3, 24) := by kernel_rfl
theorem blotsL_take (l : List Ent) (k : Nat) (h : k < l.length) : blotsL (l.take (k + 1)) = if (rdEnt l k).a = -1 then blotsL (l.take k) ++ [rdEnt l k] else blotsL (l.take k) := by
  have e : l[k] = rdEnt l k := by simp [rdEnt, h]
  rw [List.take_succ_eq_append_getElem h, blotsL, List.filter_append, e]
  by_cases h1 : (rdEnt l k).a = -1
  · simp [h1, blotsL]
  · have h2 : ((rdEnt l k).a == -1) = false := by simpa using h1
    simp [h1, h2, blotsL]
theorem readL_take (l : List Ent) (k : Nat) (h : k < l.length) : readL (l.take (k + 1)) = if (rdEnt l k).a = -1 then readL (l.take k) else readL (l.take k) ++ [rdEnt l k] := by
  have e : l[k] = rdEnt l k := by simp [rdEnt, h]
  rw [List.take_succ_eq_append_getElem h, readL, List.filter_append, e]
  by_cases h1 : (rdEnt l k).a = -1
  · simp [h1, readL]
  · have h2 : ((rdEnt l k).a == -1) = false := by simpa using h1
    simp [h1, h2, readL]
theorem allA_snoc (l : List Ent) (x : Ent) : allA (l ++ [x]) = afterA (allA l) x := by simp [allA]
theorem readL_bd (l : List Ent) (hl : l.all entB = true) (hn : l.length ≤ 12) (k : Nat) : AccB 2400 (allA (readL (l.take k))) := by
  have h1 : (readL (l.take k)).length ≤ 12 := by
    have h2 := List.length_filter_le (fun x : Ent => !(x.a == -1)) (l.take k); rw [List.length_take] at h2; simp only [readL]; omega
  have h3 : (readL (l.take k)).all entB = true := List.all_eq_true.2 fun x hx => List.all_eq_true.1 hl x (List.mem_of_mem_take (List.mem_filter.1 hx).1)
  have h4 := allA_bd _ h3 _ (Nat.le_refl _); rw [List.take_length] at h4; exact h4.mono (by omega)
theorem Er.ofOwn {w : World} {base : Nat} {v : Value} {l : List Ent} (h : w.ownsRow base 101 3 v l.length (l.flatMap encEnt)) : ∃ A c, v = .slice A l.length c ∧ l.length ≤ c ∧ Er w A l := by
  rcases h.2 with ⟨rfl, h0⟩ | ⟨g, cap, cur, rfl, hb, hg, hcap, _, hsz, htk⟩
  · exact ⟨none, 0, by rw [h0], by omega, fun hl => by omega⟩
  · refine ⟨some ⟨g, 0, none⟩, cap, rfl, hcap, fun hl => ⟨g, 0, cur, rfl, hg, fun j hj => ?_⟩⟩
    have hget : ∀ k, k < l.length * 3 → cur[k]? = (l.flatMap encEnt)[k]? := by
      intro k hk; rw [← htk, List.getElem?_take, if_pos hk, Array.getElem?_toList]
    have hx : l[j]? = some (rdEnt l j) := by simp [rdEnt, hj]
    have e0 := flat_get encEnt 3 (fun _ => rfl) l j _ 0 hx (by omega); have e1 := flat_get encEnt 3 (fun _ => rfl) l j _ 1 hx (by omega); have e2 := flat_get encEnt 3 (fun _ => rfl) l j _ 2 hx (by omega); refine ⟨?_, ?_, ?_⟩
    · rw [hget _ (by omega), show 0 + 3 * j = j * 3 + 0 by omega, e0]; rfl
    · rw [hget _ (by omega), show 0 + 3 * j + 1 = j * 3 + 1 by omega, e1]; rfl
    · rw [hget _ (by omega), show 0 + 3 * j + 2 = j * 3 + 2 by omega, e2]; rfl
theorem Kt.set {lo : Nat → Prop} {A : World} {b : Nat} {C : Array Value} {T : TypeId} (hb : Bx A b C T) (hT : lo T) (o : Nat) (v : Value) : Kt lo A (A.setCell ⟨b, o, none⟩ v) := by
  have hb0 := Below.setCell (B := 0) (Below.refl 0 A) (p := ⟨b, o, none⟩) (Nat.zero_le _) v; refine ⟨hb0.os, hb0.tape, hb0.output, hb0.size, fun k o' hk hl => ?_⟩
  by_cases e : k = b
  · subst e
    rw [show A.heap[k]? = _ from hb] at hk
    cases hk
    exact absurd hT (hl _ _ _ rfl)
  · exact (Below.heap_setCell A ⟨b, o, none⟩ v k e).trans hk
theorem grown_bx {A A' : World} {row : Option Nat} {B b : Nat} {C : Array Value} {T : TypeId} (hb : Bx A b C T) (hg : A.grownBy A' row) (hr : ∀ r, row = some r → B ≤ r ∧ ∃ o : Obj, A.heap[r]? = some o ∧ (o.isCells = false ∨ ∃ C T z, o = Obj.cells C T z ∧ wayOw T)) (hT : ¬ wayOw T) : Bx A' b C T := by
  refine (hg.block b hb.lt (fun e => ?_)).trans hb; obtain ⟨_, o, h1, h2⟩ := hr b e.symm; rw [show A.heap[b]? = _ from hb] at h1
  cases h1
  rcases h2 with h2 | ⟨C', T', z, h3, h4⟩
  · cases h2
  · cases h3
    exact hT h4
structure FillI (w : World) (B4 B13 n : Nat) (pre : List (List Int)) (Wd : World) : Prop where
  up : Up w Wd
  sp : ∃ v, Bx Wd B4 #[v] 36 ∧ ((pre = [] ∧ v = .slice none 0 0) ∨ (pre ≠ [] ∧ ∃ g, v = .slice (some ⟨g, 0, none⟩) n n ∧ w.heap.size ≤ g ∧ Spc Wd g 44 n (fillTo pre)))
  dn : Bx Wd B13 #[.bool (decide (pre ≠ []))] 4
theorem FillI.stays {w : World} {B4 B13 n B : Nat} (hB : w.heap.size ≤ B) : Stays wayOw B (FillI w B4 B13 n) := by
  rintro pre A A' row ⟨hu, ⟨v, hb4, hs⟩, hd⟩ hg hr; refine ⟨?_, ⟨v, grown_bx hb4 hg hr (by simp [wayOw]), ?_⟩, grown_bx hd hg hr (by simp [wayOw])⟩
  · refine ⟨hg.os.trans hu.os, hg.tape.trans hu.tape, hg.output.trans hu.output, Nat.le_trans hu.size hg.size, fun k hk => ?_⟩
    exact (hg.block k (Nat.lt_of_lt_of_le hk hu.size) (fun e => by have := (hr k e.symm).1; omega)).trans (hu.block k hk)
  · rcases hs with h | ⟨h1, g, h2, h3, h4, cur, h5, h6⟩
    · exact .inl h
    · exact .inr ⟨h1, g, h2, h3, h4, cur, grown_bx h5 hg hr (by simp [wayOw]), h6⟩
theorem Bx.ne {w : World} {a b : Nat} {C D : Array Value} {T S : TypeId} (h : Bx w a C T) (k : Bx w b D S) (hTS : T ≠ S) : a ≠ b := by
  rintro rfl
  unfold Bx at h k
  rw [h] at k
  injection k with k
  injection k with _ h2
  exact hTS h2
theorem Spc.bx {w g T cap xs} (h : Spc w g T cap xs) : ∃ cur, Bx w g cur T := ⟨h.2.choose, h.2.choose_spec.1⟩
theorem own_putObj {W : World} {base e s n : Nat} {v : Value} {xs : List Value} (h : W.ownsRow base e s v n xs) {D : Nat} {o : Obj} (o' : Obj) (hl : W.heap[D]? = some o) (ho : o.isCells = false) : (W.putObj D o').ownsRow base e s v n xs := by
  rcases h.2 with h0 | ⟨g, cap, cur, hv, hb, hg, h1, h2, h3, h4⟩
  · exact ⟨h.1, .inl h0⟩
  · exact ⟨h.1, .inr ⟨g, cap, cur, hv, hb, Bx.own (show Bx W g cur e from hg) (grownBy_putObj' W D o') (fun r e => by cases e; exact ⟨o, hl, ho⟩), h1, h2, h3, h4⟩⟩
theorem up_putObj {w W : World} (h : Up w W) {D : Nat} (o' : Obj) (hD : w.heap.size ≤ D) : Up w (W.putObj D o') :=
  ⟨h.os, h.tape, h.output, by simpa using h.size, fun k hk => (World.putObj_heap_other (by omega)).trans (h.block k hk)⟩
theorem fill_fin {w W : World} {D n m : Nat} {v : Value} {cs : List Value} {fn : Func} {tmps : Array Value} {R : Ending → World → Prop} (hD : w.heap.size ≤ D) (hDd : W.heap[D]? = some (.deferred (some []))) (hB4 : Bx W w.heap.size #[v] 36)
    (hO : W.ownsRow w.heap.size 44 2 v m cs) (hU : Up w W)
    (hres : ∀ W' : World, W'.cell? ⟨w.heap.size, 0, none⟩ = some v → W'.ownsRow w.heap.size 44 2 v m cs → Up w W' → ∃ r, (results fn tmps).run Try.prog W' = .ok r W' ∧ R (.returned r) W') :
    LeavesInM Fence.wide n Try.prog fn tmps R [{ target := .collected D, args := #[] }] .returning W :=
  leaves_coll (B := w.heap.size) (fun W' => Bx W' w.heap.size #[v] 36 ∧ W'.ownsRow w.heap.size 44 2 v m cs ∧ Up w W')
    (fun W' D' hB h hd => ⟨h.1.own (grownBy_putObj' W' D' _) (fun r e => by cases e; exact ⟨_, hd, rfl⟩), own_putObj h.2.1 _ hd rfl, up_putObj h.2.2 _ hB⟩)
    (fun W' h => by
      obtain ⟨r, h1, h2⟩ := hres W' (h.1.cell 0) h.2.1 h.2.2
      exact ⟨r, h1, h2⟩) [D] W (fun D' h => by simp at h; subst h; exact ⟨hD, hDd⟩) (by simp) ⟨hB4, hO, hU⟩
theorem made_spc (W : World) (y : List Int) (hn : y.length ≤ 1000) : Spc (W.alloc (.cells (madeCells #[.int .i64 0, .int .i64 0] (y.length * 2)) 44)) W.heap.size 44 y.length (initAt y 0) := by
  refine ⟨⟨by simp [initAt], by unfold maxLen; omega⟩, _, Bx.new W _ _, by simp [madeCells], fun i hi => ?_⟩
  have hi2 : i < y.length := by simpa [initAt] using hi
  have hr : rdS (initAt y 0) (i : Int) = ⟨0, 0⟩ := by simp [rdS, initAt, hi2]
  rw [hr]
  have e0 : (2 * i) % 2 = 0 := by omega
  have e1 : (2 * i + 1) % 2 = 1 := by omega
  have g0 : 2 * i < y.length * 2 := by omega
  have g1 : 2 * i + 1 < y.length * 2 := by omega
  constructor
  · simp [madeCells, g0]
  · simp [madeCells, g1, e1]
theorem make_spans (n : Nat) (hn : n ≤ 1000) (W : World) : (Instr.makeSlice 36 (.int .i64 (n : Int)) (.int .i64 (n : Int))).run Try.prog W = .ok (.slice (some ⟨W.heap.size, 0, none⟩) n n) (W.alloc (.cells (madeCells #[.int .i64 0, .int .i64 0] (n * 2)) 44)) := by
  obtain ⟨i0, hi0, hk0, hk1, hk2⟩ := info_parts info_span; have h := run_make (P := Try.prog) W 36 44 i0 _ Try.underlying36 hi0 hk0 .i64 .i64 (n : Int) (n : Int) (by omega) (by omega) (by rw [hk2]; omega) (by omega)
  simpa [hk1, Value.cells] using h
theorem Ri.set {W : World} {A : Option Addr} {l : List Int} (h : Ri W A l) {b : Nat} {C : Array Value} {T : TypeId} (hb : Bx W b C T) (hT : 3 ≠ T) (o : Nat) (v : Value) : Ri (W.setCell ⟨b, o, none⟩ v) A l := fun h0 => by
  obtain ⟨g, C, rfl, hg, hc⟩ := h h0; exact ⟨g, C, rfl, hg.far (hg.ne hb hT) o v, hc⟩
structure FB (w Wd : World) (B13 G : Nat) (A9 : Option Addr) (y : List Int) (s : List Sp) (Wr : World) : Prop where
  b4 : Bx Wr w.heap.size #[.slice (some ⟨G, 0, none⟩) y.length y.length] 36
  b13 : Bx Wr B13 #[.bool true] 4
  sp : Spc Wr G 44 y.length s
  ri : Ri Wr A9 y
  up : Up w Wr
  kt : Kt fillLo Wd Wr
  hg : w.heap.size ≤ G
  len : s.length = y.length
theorem FB.ups {w Wd : World} {B13 G : Nat} {A9 : Option Addr} {y : List Int} {s : List Sp} {Wr W' : World} (h : FB w Wd B13 G A9 y s Wr) (hu : Up Wr W') : FB w Wd B13 G A9 y s W' :=
  ⟨h.b4.up hu, h.b13.up hu, h.sp.up hu, h.ri.up hu, h.up.then hu, h.kt.trans (Kt.up hu), h.hg, h.len⟩
theorem FB.put {w Wd : World} {B13 G : Nat} {A9 : Option Addr} {y : List Int} {s : List Sp} {Wr : World} (h : FB w Wd B13 G A9 y s Wr) (k : Nat) (hk : k < y.length) (a b : Int) :
    FB w Wd B13 G A9 y (s.set k ⟨a, b⟩) ((Wr.setCell ⟨G, k * 2, none⟩ (.int .i64 a)).setCell ⟨G, k * 2 + 1, none⟩ (.int .i64 b)) := by
  obtain ⟨cur, hc⟩ := h.sp.bx; have h4 := (hc.ne h.b4 (by decide)).symm; have h13 := (hc.ne h.b13 (by decide)).symm; have hs := h.sp.set k (by rw [h.len]; exact hk) a b; rw [Nat.mul_comm] at hs
  exact ⟨(h.b4.far h4 _ _).far h4 _ _, (h.b13.far h13 _ _).far h13 _ _, hs, (h.ri.set hc (by decide) _ _).set (hc.set _ _) (by decide) _ _, (h.up.set _ _ h.hg).set _ _ h.hg,
    (h.kt.trans (Kt.set hc (by simp [fillLo]) _ _)).trans (Kt.set (hc.set _ _) (by simp [fillLo]) _ _), h.hg, by rw [List.length_set]; exact h.len⟩
theorem FB.cells {w Wd : World} {B13 G : Nat} {A9 : Option Addr} {y : List Int} {s : List Sp} {Wr : World} (h : FB w Wd B13 G A9 y s Wr) (k : Nat) (hk : k < y.length) :
    Wr.cell? ⟨G, k * 2, none⟩ = some (.int .i64 (rdS s k).lo) ∧ Wr.cell? ⟨G, k * 2 + 1, none⟩ = some (.int .i64 (rdS s k).hi) := by
  have h9 := h.sp.sps.cell k (by rw [h.len]; exact hk); rw [Nat.mul_comm] at h9; exact h9
theorem FB.start {w Wd : World} {B13 : Nat} {A9 : Option Addr} {y : List Int} {v4 v13 : Value} (hy : y.length ≤ 1000) (hb4 : Bx Wd w.heap.size #[v4] 36) (hb13 : Bx Wd B13 #[v13] 4) (hr : Ri Wd A9 y) (hu : Up w Wd) (h13 : w.heap.size ≤ B13) :
    FB w Wd B13 Wd.heap.size A9 y (initAt y 0) (((Wd.setCell ⟨w.heap.size, 0, none⟩ (.slice (some ⟨Wd.heap.size, 0, none⟩) y.length y.length)).setCell ⟨B13, 0, none⟩ (.bool true)).alloc (.cells (madeCells #[.int .i64 0, .int .i64 0] (y.length * 2)) 44)) := by
  have hne : w.heap.size ≠ B13 := hb4.ne hb13 (by decide); have hs := made_spc ((Wd.setCell ⟨w.heap.size, 0, none⟩ (.slice (some ⟨Wd.heap.size, 0, none⟩) y.length y.length)).setCell ⟨B13, 0, none⟩ (.bool true)) y hy; simp only [World.size_setCell] at hs; have hua : Up ((Wd.setCell ⟨w.heap.size, 0, none⟩ (.slice (some ⟨Wd.heap.size, 0, none⟩) y.length y.length)).setCell ⟨B13, 0, none⟩ (.bool true)) (((Wd.setCell ⟨w.heap.size, 0, none⟩ (.slice (some ⟨Wd.heap.size, 0, none⟩) y.length y.length)).setCell ⟨B13, 0, none⟩ (.bool true)).alloc (.cells (madeCells #[.int .i64 0, .int .i64 0] (y.length * 2)) 44)) := (Up.refl _).alloc _
  exact ⟨((hb4.set 0 _).far hne _ _).up hua, ((hb13.far hne.symm _ _).set 0 _).up hua, hs, ((hr.set hb4 (by decide) _ _).set (hb13.far hne.symm _ _) (by decide) _ _).up hua, ((hu.set _ _ (Nat.le_refl _)).set _ _ h13).then hua,
    ((Kt.set hb4 (by simp [fillLo]) _ _).trans (Kt.set (hb13.far hne.symm _ _) (by simp [fillLo]) _ _)).trans (Kt.up hua), hu.le, by simp [initAt]⟩
theorem Ri.cell {W : World} {A : Option Addr} {y : List Int} (h : Ri W A y) (k : Nat) (hk : k < y.length) : ∃ g, A = some ⟨g, 0, none⟩ ∧ W.cell? ⟨g, k, none⟩ = some (.int .i64 (rd y k)) := by
  obtain ⟨g, C, rfl, hb, hc⟩ := h (by omega); exact ⟨g, rfl, by rw [hb.cell]; apply hc; simp [nums, hk, rd]⟩
end Go.Proofs.Ytdlekcdedahbhaa
namespace Go.Proofs.Ytdlekcdedahbhaa
open Go.RowKit Go.Shelf Go.Proofs.YtdlekcdedahbhaaW.PrintWords
set_option linter.unusedVariables false
set_option linter.unusedSimpArgs false
attribute [local go_sem] Oper.semAt_some bi_max2 bi_min2 bi_max_two bi_min_two
set_option maxRecDepth 100000 in
set_option maxHeartbeats 40000000 in
theorem fill_ok (A : Option Addr) (c : Nat) (l : List Ent) (A2 : Option Addr) (c2 : Nat) (b : List Int) (w : World) (hr : Kd.C kEnt w A l.length l) (hc : l.length ≤ c) (hr2 : Kd.C (Kd.int .i64) w A2 b.length b) (hc2 : b.length ≤ c2) (h1 : chkE l = 0) :
    Calls Try.prog 39 #[.slice A l.length c, .slice A2 b.length c2] w fun e w' => ∃ v, e = .returned (.tuple #[v, .int .i64 (fillE l b)]) ∧ w'.ownsRow w.heap.size 44 2 v (fillS l b).length (cellsS (fillS l b)) ∧ Up w w' := by
  refine (callsIn_wide (n := 7)).1 ?_; refine callsIn_of_wp_marks Try.func39 rfl trivial ?_ rfl; simp only [Try.ntmps39, List.size_toArray, List.length_cons, List.length_nil, Nat.reduceAdd, Nat.reduceSub, Array.replicate_succ, Array.replicate_zero, List.push_toArray, List.append_toArray, List.nil_append, List.cons_append]; have hm := CF_len hr; have HR := Aside0.mk hr; have HR2 := Aside0.mk hr2
  have hb1 : (chkE l != 0) = false := by simp [h1]
  have HL := Aside0.mk (chk_of l h1).2; have hn := (chk_of l h1).1; have H1 := Aside0.mk h1; obtain ⟨i0, hi0, hk0, hk1, hk2⟩ := info_parts info_ent; clear hr hr2 h1
  gi_wp2_with fail
  refine ⟨trivial, (callsIn_wide.2 (chk_ A c l _ (C_up HR.out upA) hc)).mono ?_⟩; rintro e w1 ⟨rfl, hu1⟩; have HU1 : Aside0 (Up w w1) := ⟨((Up.refl w).alloc _).then hu1⟩; have HB4 : Aside0 (Bx w1 w.heap.size #[.slice none 0 0] 36) := ⟨(Bx.new w _ _).up hu1⟩; clear hu1; have hwlt := HB4.out.lt; obtain ⟨B7, hB7⟩ : ∃ B, w1.heap.size = B := ⟨_, rfl⟩
  gi_wp2_with fail
  gi_loopw [8, 26] (fun v8 i wr => ∃ (k : Nat) (v : Value), k ≤ l.length ∧ v8 = v ∧ i = .int .i64 k ∧ Aside0 (Bx wr B7 #[.int .i64 (allA (readL (l.take k))).a0, .int .i64 (allA (readL (l.take k))).a1, .int .i64 (allA (readL (l.take k))).a2, .int .i64 (allA (readL (l.take k))).a3, .int .i64 (allA (readL (l.take k))).a4, .int .i64 (allA (readL (l.take k))).a5] 135) ∧ Aside0 (wr.ownsRow w.heap.size 101 3 v (blotsL (l.take k)).length ((blotsL (l.take k)).flatMap encEnt)) ∧ Aside0 (Bx wr w.heap.size #[.slice none 0 0] 36) ∧ Aside0 (Up w wr)) (fun _ i _ => l.length - (intOf i).toNat)
  case atStart =>
    refine ⟨0, _, Nat.zero_le _, rfl, rfl, ⟨?_⟩, ⟨⟨by simp [blotsL], .inl ⟨rfl, rfl⟩⟩⟩, ⟨HB4.out.up ((Up.refl _).alloc _)⟩, ⟨HU1.out.alloc _⟩⟩; rw [← hB7]; exact Bx.new w1 _ _
  case round =>
    obtain ⟨k, v, hk, rfl, rfl, hB, hO, hBs, hU⟩ := hrel
    have hwB : w.heap.size < B7 := by omega
    clear HB4 HU1 hB7
    by_cases hlt : k < l.length
    · obtain ⟨ad, e, hx0, hx1, hx2⟩ := at_Ent (C_up HR.out hU.out) k (by omega) (by omega)
      cases e
      simp only [Int.toNat_natCast] at hx0 hx1 hx2
      have hi0' : (0 : Int) ≤ (k : Int) := by omega
      have hi1 : (k : Int) < (l.length : Int) := by omega
      have hdl : decide ((k : Int) < (l.length : Int)) = true := by simp; omega
      have hBT := Aside0.mk (blotsL_take l k hlt); have hRT := Aside0.mk (readL_take l k hlt); have hbd := readL_bd l HL.out hn k
      have hbl : (blotsL (l.take k)).length ≤ 12 := by
        have h2 := List.length_filter_le (fun x : Ent => x.a == -1) (l.take k); rw [List.length_take] at h2; simp only [blotsL]; omega
      have hen := (entB_iff _).1 (List.all_eq_true.1 HL.out _ (rdEnt_mem l k (by omega) (by omega))); have hz := hB.out.lt; have hzs := hBs.out.lt; have hwle := hU.out.le
      generalize hRL : readL (l.take k) = rl at *
      generalize hBL : blotsL (l.take k) = bl at *
      clear hRL hBL; have hAS := Aside0.mk (allA_snoc rl (rdEnt l k))
      generalize hAA : allA rl = a at *
      have hu := Try.underlying101
      have hu44 : wr.heap.size < wr.heap.size + 1 := by omega
      generalize rdEnt l k = x at *
      have hcall := after_ a x
      by_cases hx : x.a = -1
      · have hxb : (x.a == -1) = true := by simp [hx]
        rw [if_pos hx] at hBT hRT; clear hx
        gi_wp2_with fail
        refine ⟨trivial, (callsIn_wide.2 (isBlot x _)).mono ?_⟩; rintro e w2 ⟨rfl, hu2⟩; have hq10 := ((Bx.new wr #[.int .i64 (x).f, .int .i64 (x).t, .int .i64 (x).a] 101).up hu2).cell; have HU2 : Aside0 (Up wr w2) := ⟨((Up.refl wr).alloc _).then hu2⟩; have HO2 := Aside0.mk (own_up hO.out HU2.out); have hle2 := HU2.out.le; clear hu2 hcall
        gi_wp2_with (gi_at_builtin; go_loud (refine wpListIn_append_own _ rfl _ _ 46 rfl w.heap.size 101 i0 _ 3 24 Try.underlying46 hi0 hk0 hk1 hk2 rfl (by decide) u8 bl.length (bl.flatMap encEnt) rfl (own_up HO2.out ((Up.refl _).alloc _)) ⟨w2.heap.size, 0, none⟩ 1 1 [.int .i64 x.f, .int .i64 x.t, .int .i64 x.a] (by first | rfl | go_simp) rfl ?qc2 ?qc3 ?qc4 ?qc5 ?qc6 ?_))
        case qc2 =>
          intro j u hu
          match j, hu with
          | 0, hu => simp at hu; subst hu; simp [go_sem]
          | 1, hu => simp at hu; subst hu; simp [go_sem]
          | 2, hu => simp at hu; subst hu; simp [go_sem]
        case qc3 => intro u hu; simp at hu; rcases hu with rfl | rfl | rfl <;> rfl
        case qc4 => unfold maxLen; omega
        case qc5 => omega
        case qc6 => simp; omega
        intro v' w3 hown hgrow _; have HO3 : Aside0 (w3.ownsRow w.heap.size 101 3 v' (bl ++ [x]).length ((bl ++ [x]).flatMap encEnt)) := ⟨by simpa [encEnt] using hown⟩; have HB3 := Aside0.mk (((hB.out.up HU2.out).up ((Up.refl _).alloc _)).grown (own_up HO2.out ((Up.refl _).alloc _)) (by decide) hgrow); have HBs3 := Aside0.mk (((hBs.out.up HU2.out).up ((Up.refl _).alloc _)).grown (own_up HO2.out ((Up.refl _).alloc _)) (by decide) hgrow); have HU3 := Aside0.mk (((hU.out.then HU2.out).alloc _).grown (own_up HO2.out ((Up.refl _).alloc _)) (Nat.le_refl _) hgrow); clear hown hgrow
        gi_wp2_with fail
        go_roundw
        case rel => exact ⟨k + 1, _, by omega, rfl, by go_num, ⟨by rw [hRT.out, hAA]; exact HB3.out⟩, ⟨by rw [hBT.out]; exact HO3.out⟩, HBs3, HU3⟩
        case measure => simp [intOf]; omega
      · have hxb : (x.a == -1) = false := by simp [hx]
        rw [if_neg hx] at hBT hRT; clear hx
        gi_wp2_with fail
        refine ⟨trivial, (callsIn_wide.2 (isBlot x _)).mono ?_⟩; rintro e w2 ⟨rfl, hu2⟩; have hq10 := ((Bx.new wr #[.int .i64 (x).f, .int .i64 (x).t, .int .i64 (x).a] 101).up hu2).cell; have HU2 : Aside0 (Up wr w2) := ⟨((Up.refl wr).alloc _).then hu2⟩; have hq7 := (hB.out.up HU2.out).cell; have hle2 := HU2.out.le; have hcall2 := after_ a x w2 (hbd.mono (by omega)) hen.1 hen.2.1 (by omega); clear hu2 hcall
        gi_wp2_with fail
        refine ⟨trivial, (callsIn_wide.2 hcall2).mono ?_⟩; clear hcall2; rintro e w3 ⟨rfl, hu3⟩; have HU3 : Aside0 (Up wr w3) := ⟨HU2.out.then hu3⟩; have HB3 := Aside0.mk (hB.out.up HU3.out); have HO3 := Aside0.mk (own_up hO.out HU3.out); have HBs3 := Aside0.mk (hBs.out.up HU3.out); have hf7 := HB3.out.frozen; have hq7b := HB3.out.cell
        have hne7 : w.heap.size ≠ B7 := by omega
        clear hu3 hq7 hq10
        gi_wp2_with fail
        go_roundw
        case rel =>
          refine ⟨k + 1, u8, by omega, rfl, by go_num, ⟨?_⟩, ⟨?_⟩, ⟨?_⟩, ⟨?_⟩⟩
          · rw [hRT.out, hAS.out]
            exact ((((((HB3.out.set 0 (.int .i64 (afterA a x).a0)).set 1 (.int .i64 (afterA a x).a1)).set 2 (.int .i64 (afterA a x).a2)).set 3 (.int .i64 (afterA a x).a3)).set 4 (.int .i64 (afterA a x).a4)).set 5 (.int .i64 (afterA a x).a5))
          · rw [hBT.out]
            have s0 := own_far HO3.out HB3.out (by decide) 0 (.int .i64 (afterA a x).a0); have s1 := own_far s0 (HB3.out.set 0 _) (by decide) 1 (.int .i64 (afterA a x).a1); have s2 := own_far s1 ((HB3.out.set 0 _).set 1 _) (by decide) 2 (.int .i64 (afterA a x).a2); have s3 := own_far s2 (((HB3.out.set 0 _).set 1 _).set 2 _) (by decide) 3 (.int .i64 (afterA a x).a3); have s4 := own_far s3 ((((HB3.out.set 0 _).set 1 _).set 2 _).set 3 _) (by decide) 4 (.int .i64 (afterA a x).a4); exact own_far s4 (((((HB3.out.set 0 _).set 1 _).set 2 _).set 3 _).set 4 _) (by decide) 5 (.int .i64 (afterA a x).a5)
          · exact (((((HBs3.out.far hne7 _ _).far hne7 _ _).far hne7 _ _).far hne7 _ _).far hne7 _ _).far hne7 _ _
          · exact ((((((hU.out.then HU3.out).set _ _ (by simp; omega)).set _ _ (by simp; omega)).set _ _ (by simp; omega)).set _ _ (by simp; omega)).set _ _ (by simp; omega)).set _ _ (by simp; omega)
        case measure => simp [intOf]; omega
    · obtain rfl : k = l.length := by omega
      have hdl : decide (((l.length : Nat) : Int) < (l.length : Int)) = false := by simp
      rw [List.take_length] at hB hO; have hbd := readL_bd l HL.out hn l.length; rw [List.take_length] at hbd
      have hbl : (blotsL l).length ≤ 12 := by
        have h2 := List.length_filter_le (fun x : Ent => x.a == -1) l; simp only [blotsL]; omega
      have HBE : Aside0 (∀ x ∈ blotsL l, entB x = true) := ⟨fun x hx => List.all_eq_true.1 HL.out x (List.mem_filter.1 hx).1⟩; have HFW : Aside0 (fillW l b = waysL (balA b) (blotsL l) (allA (readL l))) := ⟨rfl⟩; have HFE : Aside0 (fillE l b = (if (blotsL l).length > 3 then 8 else if balB b then (if fillW l b = [] then 9 else 0) else 4)) := ⟨by unfold fillE; rw [if_pos H1.out]⟩; have HFS : Aside0 (fillS l b = if fillE l b = 0 then fillTo (fillW l b) else []) := ⟨rfl⟩
      generalize hBL : blotsL l = bl at *
      generalize hAA : allA (readL l) = a at *
      clear hBL hAA; have hq7 := hB.out.cell; have hwB7 := hB.out.lt
      gi_wp2_with fail
      refine ⟨trivial, (callsIn_wide.2 (bal_ A2 c2 b _ (C_up HR2.out hU.out) hc2)).mono ?_⟩; rintro e w2 ⟨rfl, hu2⟩; have HU2 := Aside0.mk hu2; have HB2 := Aside0.mk (hB.out.up hu2); have HS2 := Aside0.mk (hBs.out.up hu2); have HO2 := Aside0.mk (own_up hO.out hu2); have HUW := Aside0.mk (hU.out.then hu2); have hsz := hu2.le; clear hu2 hq7 hB hBs hO hU HR HR2; obtain ⟨want, hw⟩ : ∃ q, q = balA b := ⟨_, rfl⟩; rw [← hw] at HFW; rw [← hw]; have HWE := Aside0.mk hw; clear hw; obtain ⟨A8, c8, rfl, hc8, her⟩ := Er.ofOwn HO2.out; have HER := Aside0.mk her; clear her
      by_cases h3 : bl.length > 3
      · have HE : Aside0 (fillE l b = 8) := ⟨by rw [HFE.out, if_pos h3]⟩
        have HS : Aside0 (fillS l b = []) := ⟨by rw [HFS.out, HE.out]; rfl⟩
        have hd3 : decide ((bl.length : Int) > 3) = true := by simp; omega
        have hq4 : ∀ (C : Obj) o, (w2.alloc C).cell? ⟨w.heap.size, o, none⟩ = (#[.slice none 0 0] : Array Value)[o]? := fun C o => (HS2.out.up ((Up.refl _).alloc C)).cell o
        have hf4 : ∀ (C : Obj) o, (w2.alloc C).frozen? ⟨w.heap.size, o, none⟩ = false := fun C o => (HS2.out.up ((Up.refl _).alloc C)).frozen o
        gi_wp2_with fail
        have hb4 := (Bx.set (HS2.out.up ((Up.refl _).alloc (.cells #[.int .i64 (want).a0, .int .i64 (want).a1, .int .i64 (want).a2, .int .i64 (want).a3, .int .i64 (want).a4, .int .i64 (want).a5] 135))) 0 (.slice none 0 0)).cell; have hup4 := ((HUW.out.alloc (.cells #[.int .i64 (want).a0, .int .i64 (want).a1, .int .i64 (want).a2, .int .i64 (want).a3, .int .i64 (want).a4, .int .i64 (want).a5] 135)).set ⟨w.heap.size, 0, none⟩ (.slice none 0 0) (Nat.le_refl _)); refine ⟨.tuple #[.slice none 0 0, .int .i64 (fillE l b)], ?_, .slice none 0 0, rfl, by rw [HS.out]; exact ⟨rfl, .inl ⟨rfl, rfl⟩⟩, hup4⟩; rw [HE.out]; have h0 := hb4 0
        simp [results, Try.results39, go_sem, h0]
      · have hd3 : decide ((bl.length : Int) > 3) = false := by simp; omega
        cases hbb : balB b
        · have HE : Aside0 (fillE l b = 4) := ⟨by rw [HFE.out, if_neg h3, hbb]; rfl⟩
          have HS : Aside0 (fillS l b = []) := ⟨by rw [HFS.out, HE.out]; rfl⟩
          have hq4 : ∀ (C : Obj) o, (w2.alloc C).cell? ⟨w.heap.size, o, none⟩ = (#[.slice none 0 0] : Array Value)[o]? := fun C o => (HS2.out.up ((Up.refl _).alloc C)).cell o
          have hf4 : ∀ (C : Obj) o, (w2.alloc C).frozen? ⟨w.heap.size, o, none⟩ = false := fun C o => (HS2.out.up ((Up.refl _).alloc C)).frozen o
          gi_wp2_with fail
          have hb4 := (Bx.set (HS2.out.up ((Up.refl _).alloc (.cells #[.int .i64 (want).a0, .int .i64 (want).a1, .int .i64 (want).a2, .int .i64 (want).a3, .int .i64 (want).a4, .int .i64 (want).a5] 135))) 0 (.slice none 0 0)).cell; have hup4 := ((HUW.out.alloc (.cells #[.int .i64 (want).a0, .int .i64 (want).a1, .int .i64 (want).a2, .int .i64 (want).a3, .int .i64 (want).a4, .int .i64 (want).a5] 135)).set ⟨w.heap.size, 0, none⟩ (.slice none 0 0) (Nat.le_refl _)); refine ⟨.tuple #[.slice none 0 0, .int .i64 (fillE l b)], ?_, .slice none 0 0, rfl, by rw [HS.out]; exact ⟨rfl, .inl ⟨rfl, rfl⟩⟩, hup4⟩; rw [HE.out]; have h0 := hb4 0
          simp [results, Try.results39, go_sem, h0]
        · have hbw : AccB 100000 want := by rw [HWE.out]; exact balA_bd b hbb
          have HE0 : Aside0 (fillE l b = if fillW l b = [] then 9 else 0) := ⟨by rw [HFE.out, if_neg h3, hbb]; rfl⟩
          have hq7 : ∀ (C D : Obj) o, ((w2.alloc C).alloc D).cell? ⟨B7, o, none⟩ = (#[.int .i64 (a).a0, .int .i64 (a).a1, .int .i64 (a).a2, .int .i64 (a).a3, .int .i64 (a).a4, .int .i64 (a).a5] : Array Value)[o]? := fun C D o => ((HB2.out.up ((Up.refl _).alloc C)).up ((Up.refl _).alloc D)).cell o
          have hq11 : ∀ (D : Obj) o, ((w2.alloc (.cells #[.int .i64 (want).a0, .int .i64 (want).a1, .int .i64 (want).a2, .int .i64 (want).a3, .int .i64 (want).a4, .int .i64 (want).a5] 135)).alloc D).cell? ⟨w2.heap.size, o, none⟩ = (#[.int .i64 (want).a0, .int .i64 (want).a1, .int .i64 (want).a2, .int .i64 (want).a3, .int .i64 (want).a4, .int .i64 (want).a5] : Array Value)[o]? := fun D o => ((Bx.new w2 _ _).up ((Up.refl _).alloc D)).cell o
          have HBW := Aside0.mk hbw; clear HFE hbw hbb
          gi_wp2_with fail
          refine ⟨trivial, (callsIn_wide.2 (ways_ a want A8 bl.length c8 _)).mono ?_⟩; rintro e wc ⟨rfl, hwx⟩
          have hsz2 : ((w2.alloc (.cells #[.int .i64 (want).a0, .int .i64 (want).a1, .int .i64 (want).a2, .int .i64 (want).a3, .int .i64 (want).a4, .int .i64 (want).a5] 135)).alloc (.cells #[.bool false] 4)).heap.size = w2.heap.size + 2 := by simp
          obtain ⟨W0, hW0⟩ : ∃ q, q = (w2.alloc (.cells #[.int .i64 (want).a0, .int .i64 (want).a1, .int .i64 (want).a2, .int .i64 (want).a3, .int .i64 (want).a4, .int .i64 (want).a5] 135)).alloc (.cells #[.bool false] 4) := ⟨_, rfl⟩; rw [← hW0] at hwx hsz2; rw [← hW0]
          have hU0 : Up w2 W0 := by rw [hW0]; exact upA
          have hU1 : Up W0 wc := ways_up hwx
          have hbb2 : Bx wc W0.heap.size #[.int .i64 (a).a0, .int .i64 (a).a1, .int .i64 (a).a2, .int .i64 (a).a3, .int .i64 (a).a4, .int .i64 (a).a5] 135 := by rw [hwx]; exact bxA
          have hbb3 : Bx wc (W0.heap.size + 1) #[.int .i64 (want).a0, .int .i64 (want).a1, .int .i64 (want).a2, .int .i64 (want).a3, .int .i64 (want).a4, .int .i64 (want).a5] 135 := by rw [hwx]; exact bxA
          have hbb1 : Bx wc (W0.heap.size + 2) #[.slice A8 bl.length c8] 46 := by rw [hwx]; exact bxA
          have hszw : wc.heap.size = W0.heap.size + 3 := by rw [hwx]; simp
          obtain ⟨B13, hB13⟩ : ∃ q, q = w2.heap.size + 1 := ⟨_, rfl⟩
          have hb13 : Bx wc B13 #[.bool false] 4 := by rw [hB13]; exact (show Bx W0 (w2.heap.size + 1) #[.bool false] 4 by rw [hW0]; exact bxA).up hU1
          have hseq := ways1_gives want HBW.out bl 2400 a A8 c8 (W0.heap.size + 2) W0.heap.size (W0.heap.size + 1) wc hbd (by omega) (by omega) (fun x hx => by have h9 := (entB_iff _).1 (HBE.out x hx); exact ⟨h9.1, h9.2.1⟩) hbb1 hbb2 hbb3 (HER.out.up (hU0.then hU1)) hc8; have hI0 : FillI w w.heap.size B13 bl.length [] wc := ⟨HUW.out.then (hU0.then hU1), ⟨_, HS2.out.up (hU0.then hU1), .inl ⟨rfl, rfl⟩⟩, by simpa using hb13⟩; have HI0 := Aside0.mk hI0; have hwle := HUW.out.le; have HSZ2 := Aside0.mk hsz2; have HSZW := Aside0.mk hszw; have HB13 := Aside0.mk hB13
          have hwle2 : w.heap.size ≤ wc.heap.size := by omega
          rw [← hB13]; clear hsz2 hszw hB13; clear hwx hW0 hbb1 hbb2 hbb3 hI0 hq7 hq11 hb13
          gi_wp2_with fail
          apply range_gives_fr (F := Fence.wide) (n := 7) rfl (by omega) (gf := 92) (lb := #[.pointer (some ⟨W0.heap.size + 2, 0, none⟩), .pointer (some ⟨W0.heap.size, 0, none⟩), .pointer (some ⟨W0.heap.size + 1, 0, none⟩)]) rfl trivial ways1_enter (G := Rd) (lo := fillLo) (ow := wayOw) (L := waysL want bl a) (hseq.any 6) (Up.refl _) rfl Rd.putObj
            (FillI w w.heap.size B13 bl.length) (FillI.stays (by omega)) HI0.out
            ?assign ?body ?done
          case assign =>
            intro l v Wd K hK; have HK := Aside0.mk hK; clear hK
            gi_wp2_with fail
            exact HK.out
          case done =>
            intro D Wd hD hId hDd; obtain ⟨hU, ⟨v4, hb4, hs4⟩, hd⟩ := hId; have hq13 := hd.cell; have hq4 := hb4.cell; have hf4 := hb4.frozen; have HD13 := Aside0.mk hd; have HB4 := Aside0.mk hb4; have HUD := Aside0.mk hU
            have hDw : w.heap.size ≤ D := by omega
            clear hd hb4 hU; have hDl := (Array.getElem?_eq_some_iff.1 hDd).1; have hw4l := HB4.out.lt
            rcases hs4 with ⟨hL0, rfl⟩ | ⟨hL0, g, rfl, hg, hsp⟩
            · have HE : Aside0 (fillE l b = 9) := ⟨by rw [HE0.out, HFW.out, hL0]; rfl⟩
              have HS : Aside0 (fillS l b = []) := ⟨by rw [HFS.out, HE.out]; rfl⟩
              have hdd : decide (waysL want bl a ≠ []) = false := by simp [hL0]
              rw [hdd] at hq13; clear hL0 hdd
              gi_wp2_with fail
              refine fill_fin (v := .slice none 0 0) (m := 0) (cs := []) hDw ((KeepsOthers.setCell Wd ⟨w.heap.size, 0, none⟩ (.slice none 0 0)).same D _ hDd rfl) (HB4.out.set 0 _) ⟨rfl, .inl ⟨rfl, rfl⟩⟩ (HUD.out.set _ _ (Nat.le_refl _)) ?_; intro W' h0 ho hu; refine ⟨.tuple #[.slice none 0 0, .int .i64 (fillE l b)], ?_, _, rfl, by rw [HS.out]; exact ho, hu⟩; rw [HE.out]
              simp [results, Try.results39, go_sem, h0]
            · have HE : Aside0 (fillE l b = 0) := ⟨by rw [HE0.out, HFW.out, if_neg hL0]⟩
              have HS : Aside0 (fillS l b = fillTo (waysL want bl a)) := ⟨by rw [HFS.out, HE.out, HFW.out]; rfl⟩
              have hdd : decide (waysL want bl a ≠ []) = true := by simp [hL0]
              rw [hdd] at hq13; have hfl : (fillTo (waysL want bl a)).length = bl.length := fillTo_len _ _ (fun y hy => waysL_len want bl a y hy) hL0; obtain ⟨cur, hcur⟩ := hsp.bx; have hne := hcur.ne HB4.out (by decide); have HSP := Aside0.mk hsp; clear hL0 hdd hcur hsp
              gi_wp2_with fail
              refine fill_fin (v := .slice (some ⟨g, 0, none⟩) bl.length bl.length) (m := (fillTo (waysL want bl a)).length) (cs := cellsS (fillTo (waysL want bl a))) hDw ((KeepsOthers.setCell Wd ⟨w.heap.size, 0, none⟩ _).same D _ hDd rfl) (HB4.out.set 0 _) ?_ (HUD.out.set _ _ (Nat.le_refl _)) ?_
              · have h9 := (HSP.out.far hne 0 (.slice (some ⟨g, 0, none⟩) bl.length bl.length)).toOwn hg
                rw [hfl] at h9 ⊢; exact h9
              · intro W' h0 ho hu
                refine ⟨.tuple #[.slice (some ⟨g, 0, none⟩) bl.length bl.length, .int .i64 (fillE l b)], ?_, _, rfl, by rw [HS.out]; exact ho, hu⟩; rw [HE.out]
                simp [results, Try.results39, go_sem, h0]
          case body =>
            rintro lq pre y post v Wd hl ⟨rq, hlr⟩ hL hIp ⟨A9, c9, rfl, hc9, hRi⟩
            try dsimp only
            have hyl : y.length = bl.length := waysL_len want bl a y (by rw [← hL]; simp)
            have hy3 : y.length ≤ 3 := by omega
            have HYL := Aside0.mk hyl; have HPL : Aside0 (∀ z ∈ pre, z.length = y.length) := ⟨fun z hz => by rw [hyl]; exact waysL_len want bl a z (by rw [← hL]; simp [hz])⟩
            have hw13 : w.heap.size ≤ B13 := by have := HB13.out; omega
            obtain ⟨hU, ⟨v4, hb4, hs4⟩, hd⟩ := hIp; have HUD := Aside0.mk hU; have HB4 := Aside0.mk hb4; have HD13 := Aside0.mk hd; have HRI := Aside0.mk hRi; have hw4l := hb4.lt; have hw13l := hd.lt; have hne413 : w.heap.size ≠ B13 := hb4.ne hd (by decide); have hq13 := hd.cell; have hq4 := hb4.cell; have hf13 := hd.frozen; have hf4 := hb4.frozen; have hzU := hU.le; clear hU hb4 hd hRi hyl
            gi_upto_if 58 with fail
            gi_cut [58] from 59 (fun u58 wx => ∃ g, Aside0 (FB w Wd B13 g A9 y (if pre = [] then initAll y else fillTo pre) wx))
            case first =>
              rcases hs4 with ⟨hp, rfl⟩ | ⟨hp, g, rfl, hg, hsp⟩
              · have hdd : decide (pre ≠ []) = false := by simp [hp]
                rw [hdd] at hq13; have HP := Aside0.mk hp
                have hpe : (decide (pre = [])) = true := by simp [hp]
                have hmk := make_spans y.length (by omega); have HF0 := Aside0.mk (FB.start (A9 := A9) (y := y) (by omega) HB4.out HD13.out HRI.out HUD.out hw13); clear hdd
                gi_wp2_with fail
                obtain ⟨G, hG⟩ : ∃ G, Wd.heap.size = G := ⟨_, rfl⟩; rw [hG] at HF0; rw [hG]; clear hG hmk hq13 hq4 hf13 hf4
                gi_loopw [64] (fun i Wr => ∃ k : Nat, k ≤ y.length ∧ i = .int .i64 (k : Int) ∧ Aside0 (FB w Wd B13 G A9 y (initAt y k) Wr)) (fun i _ => y.length - (intOf i).toNat)
                case atStart => exact ⟨0, Nat.zero_le _, rfl, HF0⟩
                case round =>
                  obtain ⟨k, hk, rfl, hF⟩ := hrel; clear HF0
                  by_cases hlt : k < y.length
                  · obtain ⟨g9, e9, hx9⟩ := hF.out.ri.cell k hlt
                    subst e9; obtain ⟨hx0, hx1⟩ := hF.out.cells k hlt; have hq4 := hF.out.b4.cell; have hfG := hF.out.sp.sps.frozen
                    have hi0 : (0 : Int) ≤ (k : Int) := by omega
                    have hi1 : (k : Int) < (y.length : Int) := by omega
                    have hdl : decide ((k : Int) < (y.length : Int)) = true := by simp; omega
                    have HFP := Aside0.mk (hF.out.put k hlt (rd y k) (rd y k))
                    gi_wp2_with fail
                    go_roundw
                    case rel => exact ⟨k + 1, by omega, by go_num, HFP⟩
                    case measure => simp [intOf]; omega
                  · obtain rfl : k = y.length := by omega
                    have hdl : decide ((y.length : Int) < (y.length : Int)) = false := by simp
                    gi_wp2_with fail
                    gi_meet
                    exact ⟨G, ⟨by rw [if_pos HP.out]; exact hF.out⟩⟩
              · have hdd : decide (pre ≠ []) = true := by simp [hp]
                rw [hdd] at hq13; have HP := Aside0.mk hp; have HDT : Aside0 (Bx Wd B13 #[.bool true] 4) := ⟨by have h9 := HD13.out; rw [hdd] at h9; exact h9⟩; have HF0 : Aside0 (FB w Wd B13 g A9 y (fillTo pre) Wd) := ⟨⟨by rw [HYL.out]; exact HB4.out, HDT.out, by rw [HYL.out]; exact hsp, HRI.out, HUD.out, Kt.refl _ _, hg, fillTo_len _ _ HPL.out hp⟩⟩; clear hdd hsp
                gi_wp2_with fail
                gi_meet
                exact ⟨g, ⟨by rw [if_neg HP.out]; exact HF0.out⟩⟩
            case rest =>
              obtain ⟨g, HF0⟩ := hcut; obtain ⟨s, hs⟩ : ∃ s, s = (if pre = [] then initAll y else fillTo pre) := ⟨_, rfl⟩; rw [← hs] at HF0; have HS := Aside0.mk hs; clear hs hs4 hq13 hq4 hf13 hf4
              gi_wp2_with fail
              gi_loopw [78] (fun i Wr => ∃ k : Nat, k ≤ y.length ∧ i = .int .i64 (k : Int) ∧ Aside0 (FB w Wd B13 g A9 y (joinAt s y k) Wr)) (fun i _ => y.length - (intOf i).toNat)
              case atStart => exact ⟨0, Nat.zero_le _, rfl, HF0⟩
              case round =>
                obtain ⟨k, hk, rfl, hF⟩ := hrel; clear HF0
                by_cases hlt : k < y.length
                · obtain ⟨g9, e9, hx9⟩ := hF.out.ri.cell k hlt
                  subst e9; obtain ⟨hx0, hx1⟩ := hF.out.cells k hlt; have hq4 := hF.out.b4.cell; have hfG := hF.out.sp.sps.frozen
                  have hi0 : (0 : Int) ≤ (k : Int) := by omega
                  have hi1 : (k : Int) < (y.length : Int) := by omega
                  have hdl : decide ((k : Int) < (y.length : Int)) = true := by simp; omega
                  have HFP := Aside0.mk ((hF.out.put k hlt (min (rdS (joinAt s y k) k).lo (rd y k)) (max (rdS (joinAt s y k) k).hi (rd y k))).ups ((Up.refl _).drew))
                  gi_wp2_with fail
                  refine regionIn_still_tail 18 sqF sqF sqF ?_; simp only [List.take_succ_cons, List.take_zero, List.drop_succ_cons, List.drop_zero]
                  repeat still_step
                  try refine wpStill_nil ?_
                  gi_wp2_with fail
                  go_roundw
                  case rel => exact ⟨k + 1, by omega, by go_num, HFP⟩
                  case measure => simp [intOf]; omega
                · obtain rfl : k = y.length := by omega
                  have hdl : decide ((y.length : Int) < (y.length : Int)) = false := by simp
                  gi_wp2_with fail
                  have hF2 := hF.out; refine ⟨hF2.kt, hF2.up, ⟨_, hF2.b4, .inr ⟨by simp, g, by rw [HYL.out], hF2.hg, ?_⟩⟩, by simpa using hF2.b13⟩; rw [fillTo_snoc, ← HS.out, ← HYL.out]; exact hF2.sp
end Go.Proofs.Ytdlekcdedahbhaa
namespace Go.Proofs.Ytdlekcdedahbhaa
open Go.RowKit Go.Shelf Go.Proofs.YtdlekcdedahbhaaW.PrintWords
set_option linter.unusedVariables false
set_option linter.unusedSimpArgs false
attribute [local go_sem] Oper.semAt_some
set_option maxRecDepth 100000 in
set_option maxHeartbeats 4000000 in
theorem fill_err (A : Option Addr) (c : Nat) (l : List Ent) (A2 : Option Addr) (c2 : Nat) (b : List Int) (w : World) (hr : Kd.C kEnt w A l.length l) (hc : l.length ≤ c) (h1 : ¬ chkE l = 0) :
    Calls Try.prog 39 #[.slice A l.length c, .slice A2 b.length c2] w fun e w' => ∃ v, e = .returned (.tuple #[v, .int .i64 (fillE l b)]) ∧ w'.ownsRow w.heap.size 44 2 v (fillS l b).length (cellsS (fillS l b)) ∧ Up w w' := by
  refine (callsIn_wide (n := 7)).1 ?_; refine callsIn_of_wp_marks Try.func39 rfl trivial ?_ rfl; simp only [Try.ntmps39, List.size_toArray, List.length_cons, List.length_nil, Nat.reduceAdd, Nat.reduceSub, Array.replicate_succ, Array.replicate_zero, List.push_toArray, List.append_toArray, List.nil_append, List.cons_append]; have HR := Aside0.mk hr
  have hb1 : (chkE l != 0) = true := by simp [h1]
  have HE : Aside0 (fillE l b = chkE l) := ⟨by unfold fillE; rw [if_neg h1]⟩; have HS : Aside0 (fillS l b = []) := ⟨by unfold fillS; rw [HE.out, if_neg h1]⟩; clear hr h1
  gi_wp2_with fail
  refine ⟨trivial, (callsIn_wide.2 (chk_ A c l _ (C_up HR.out upA) hc)).mono ?_⟩; rintro e w1 ⟨rfl, hu1⟩; have HU1 : Aside0 (Up w w1) := ⟨((Up.refl w).alloc _).then hu1⟩; have HB4 : Aside0 (Bx w1 w.heap.size #[.slice none 0 0] 36) := ⟨(Bx.new w _ _).up hu1⟩; clear hu1; have hq4 := HB4.out.cell; have hf4 := HB4.out.frozen; have hw4 := HB4.out.lt
  gi_wp2_with fail
  have hb4 := (HB4.out.set 0 (.slice none 0 0)).cell; refine ⟨.tuple #[.slice none 0 0, .int .i64 (fillE l b)], ?_, .slice none 0 0, rfl, by rw [HS.out]; exact ⟨rfl, .inl ⟨rfl, rfl⟩⟩, HU1.out.set _ _ (Nat.le_refl _)⟩; rw [HE.out]; have h0 := hb4 0
  simp [results, Try.results39, go_sem, h0]
theorem fill_ (A : Option Addr) (c : Nat) (l : List Ent) (A2 : Option Addr) (c2 : Nat) (b : List Int) (w : World) (hr : Kd.C kEnt w A l.length l) (hc : l.length ≤ c) (hr2 : Kd.C (Kd.int .i64) w A2 b.length b) (hc2 : b.length ≤ c2) :
    Calls Try.prog 39 #[.slice A l.length c, .slice A2 b.length c2] w fun e w' => ∃ v, e = .returned (.tuple #[v, .int .i64 (fillE l b)]) ∧ w'.ownsRow w.heap.size 44 2 v (fillS l b).length (cellsS (fillS l b)) ∧ Up w w' := by
  by_cases h : chkE l = 0
  · exact fill_ok A c l A2 c2 b w hr hc hr2 hc2 h
  · exact fill_err A c l A2 c2 b w hr hc h
end Go.Proofs.Ytdlekcdedahbhaa
namespace Go.Proofs.Ytdlekcdedahbhaa
open Go.RowKit Go.Proofs.YtdlekcdedahbhaaW.PrintWords
set_option linter.unusedVariables false
set_option linter.unusedSimpArgs false
attribute [local go_sem] bi_max2 bi_min2 bi_max_two bi_min_two
def dueW (t : Tar) (x : Wk) (f : Int) : Int := IntKind.i64.wrap (f - t.f * x.l)
def restW (t : Tar) (hour pound : Int) (x : Wk) (f : Int) : Int := IntKind.i64.wrap (IntKind.i64.wrap (dueW t x f - hour * hrs x) - pound * pds x)
def clothsL (t : Tar) (hour pound : Int) : List Wk → List Int → Int → Int → Int × Int
  | x :: xs, f :: fs, lo, hi => if dueW t x f < t.l then (1, 0) else clothsL t hour pound xs fs (if t.l < dueW t x f then max lo (restW t hour pound x f) else lo) (min hi (restW t hour pound x f))
  | _, _, lo, hi => (lo, hi)
theorem clothsL_drop (t : Tar) (hour pound : Int) (xs : List Wk) (fs : List Int) (lo hi : Int) (k : Nat) (h : k < xs.length) (h2 : k < fs.length) :
    clothsL t hour pound (xs.drop k) (fs.drop k) lo hi = if dueW t (rdWk xs k) (rd fs k) < t.l then (1, 0) else clothsL t hour pound (xs.drop (k + 1)) (fs.drop (k + 1)) (if t.l < dueW t (rdWk xs k) (rd fs k) then max lo (restW t hour pound (rdWk xs k) (rd fs k)) else lo) (min hi (restW t hour pound (rdWk xs k) (rd fs k))) := by
  have e1 : xs[k] = rdWk xs k := by simp [rdWk, h]
  have e2 : fs[k] = rd fs k := by simp [rd, h2]
  rw [List.drop_eq_getElem_cons h, List.drop_eq_getElem_cons h2, clothsL, e1, e2]
set_option maxRecDepth 100000 in
set_option maxHeartbeats 2000000 in
theorem cloths_ (t : Tar) (A : Option Addr) (c : Nat) (xs : List Wk) (A2 : Option Addr) (c2 : Nat) (fs : List Int) (hour pound : Int) (w : World) (hr : Kd.C kWk w A xs.length xs) (hc : xs.length ≤ c)
    (hr2 : Kd.C (Kd.int .i64) w A2 fs.length fs) (hc2 : fs.length ≤ c2) (hlen : fs.length = xs.length) (ht : tarB t = true) (hx : xs.all wkB = true) (hh : 0 ≤ hour ∧ hour ≤ 60) (hp : 0 ≤ pound ∧ pound ≤ 60) :
    Calls Try.prog 68 #[.agg #[.int .i64 t.c, .int .i64 t.h, .int .i64 t.p, .int .i64 t.l, .int .i64 t.f, .slice A xs.length c, .slice A2 fs.length c2], .int .i64 hour, .int .i64 pound] w fun e w' => e = .returned (.tuple #[.int .i64 (clothsL t hour pound xs fs 0 60).1, .int .i64 (clothsL t hour pound xs fs 0 60).2]) ∧ Up w w' := by
  have HR := Aside0.mk hr; have HR2 := Aside0.mk hr2; have hml := CF_len hr; have HL := Aside0.mk hlen; have HT := Aside0.mk ht; have HX := Aside0.mk hx; clear hr hr2 hlen ht hx
  go_enter Try.func68, Try.ntmps68
  go_wp2_with fail
  go_loopw [6, 7, 15] (fun v6 v7 i wr => ∃ (k : Nat) (lo hi : Int), k ≤ xs.length ∧ i = .int .i64 k ∧ v6 = .int .i64 lo ∧ v7 = .int .i64 hi ∧ Aside0 (clothsL t hour pound (xs.drop k) (fs.drop k) lo hi = clothsL t hour pound xs fs 0 60) ∧ Aside0 (Up (w.alloc (.cells #[.int .i64 t.c, .int .i64 t.h, .int .i64 t.p, .int .i64 t.l, .int .i64 t.f, .slice A xs.length c, .slice A2 fs.length c2] 131)) wr)) (fun _ _ i _ => xs.length - (intOf i).toNat)
  case atStart => exact ⟨0, 0, 60, Nat.zero_le _, rfl, rfl, rfl, ⟨rfl⟩, ⟨upA⟩⟩
  case round =>
    obtain ⟨k, lo, hi, hk, rfl, rfl, rfl, he, hu⟩ := hrel
    have hq : ∀ o, wr.cell? ⟨w.heap.size, o, none⟩ = (#[.int .i64 t.c, .int .i64 t.h, .int .i64 t.p, .int .i64 t.l, .int .i64 t.f, .slice A xs.length c, .slice A2 fs.length c2] : Array Value)[o]? := fun o => (hu.out.old.1 _ o (by simp)).trans (by simp [go_sem])
    have hz : w.heap.size < wr.heap.size := by have := hu.out.le; simp at this; omega
    by_cases hlt : k < xs.length
    · have hu0 : Up w wr := (((Up.refl w).alloc _).then hu.out)
      obtain ⟨ad, e, hx0, hx1, hx2⟩ := at_Wk (C_up HR.out hu0) k (by omega) (by omega)
      cases e
      obtain ⟨ad2, e2, hy⟩ := Kd.at_int (C_up HR2.out hu0) k (by omega) (by have := HL.out; omega)
      cases e2
      simp only [Int.toNat_natCast] at hx0 hx1 hx2 hy
      have hi0 : (0 : Int) ≤ (k : Int) := by omega
      have hi1 : (k : Int) < (xs.length : Int) := by omega
      have hi2 : (k : Int) < (fs.length : Int) := by have := HL.out; omega
      have HB : wkB (rdWk xs k) = true := List.all_eq_true.1 HX.out _ (rdWk_mem xs k (by omega) (by omega)); have b1 := (tarB_iff t).1 HT.out; have b2 := (wkB_iff _).1 HB; have b3 := mul_bd b1.2.2.2.1 b2.2.2; have HE := Aside0.mk ((clothsL_drop t hour pound xs fs lo hi k hlt (by have := HL.out; omega)).symm.trans he.out); have hw1 : IntKind.i64.wrap (t.f * (rdWk xs k).l) = t.f * (rdWk xs k).l := IntWalk.i64_in _ (by omega); have hw2 : IntKind.i64.wrap (rd fs k - t.f * (rdWk xs k).l) = dueW t (rdWk xs k) (rd fs k) := rfl; have b4 := mul_bd hh (hrs_bd _ HB); have b5 := mul_bd hp (pds_bd _ HB); have hw3 : IntKind.i64.wrap (hour * hrs (rdWk xs k)) = hour * hrs (rdWk xs k) := IntWalk.i64_in _ (by omega); have hw4 : IntKind.i64.wrap (pound * pds (rdWk xs k)) = pound * pds (rdWk xs k) := IntWalk.i64_in _ (by omega); have hw5 : IntKind.i64.wrap (IntKind.i64.wrap (dueW t (rdWk xs k) (rd fs k) - hour * hrs (rdWk xs k)) - pound * pds (rdWk xs k)) = restW t hour pound (rdWk xs k) (rd fs k) := rfl; have HBA := Aside0.mk HB
      have hy2 : ∀ C : Obj, (wr.alloc C).cell? (ad2.add k) = some (.int .i64 (rd fs k)) := fun C => Up.cell ((Up.refl wr).alloc C) hy
      clear b1 b2 b3 b4 b5 he HB hu0; have hu1 := Try.underlying124; have hu2 := Try.underlying25
      go_wp2_with fail
      go_quiet (fail)
      go_wp2_with fail
      have hq1 : ∀ o, ((wr.alloc (.cells #[.int .i64 (rdWk xs k).q, .int .i64 (rdWk xs k).o, .int .i64 (rdWk xs k).l] 124)).drewN nq).cell? ⟨w.heap.size, o, none⟩ = (#[.int .i64 t.c, .int .i64 t.h, .int .i64 t.p, .int .i64 t.l, .int .i64 t.f, .slice (some ad) xs.length c, .slice (some ad2) fs.length c2] : Array Value)[o]? := fun o => ((((Up.refl wr).alloc _).drewN nq).old.1 _ o hz).trans (hq o)
      have hq2 : ∀ o, ((wr.alloc (.cells #[.int .i64 (rdWk xs k).q, .int .i64 (rdWk xs k).o, .int .i64 (rdWk xs k).l] 124)).drewN nq).cell? ⟨wr.heap.size, o, none⟩ = (#[.int .i64 (rdWk xs k).q, .int .i64 (rdWk xs k).o, .int .i64 (rdWk xs k).l] : Array Value)[o]? := fun o => by simp [go_sem]
      have HU1 : Aside0 (Up (w.alloc (.cells #[.int .i64 t.c, .int .i64 t.h, .int .i64 t.p, .int .i64 t.l, .int .i64 t.f, .slice (some ad) xs.length c, .slice (some ad2) fs.length c2] 131)) ((wr.alloc (.cells #[.int .i64 (rdWk xs k).q, .int .i64 (rdWk xs k).o, .int .i64 (rdWk xs k).l] 124)).drewN nq)) := ⟨(hu.out.alloc _).drewN nq⟩; obtain ⟨B, hB⟩ : ∃ B, wr.heap.size = B := ⟨_, rfl⟩
      have hBz : B < ((wr.alloc (.cells #[.int .i64 (rdWk xs k).q, .int .i64 (rdWk xs k).o, .int .i64 (rdWk xs k).l] 124)).drewN nq).heap.size := by simp; omega
      rw [hB] at hq2 hz; rw [hB]
      generalize ((wr.alloc (.cells #[.int .i64 (rdWk xs k).q, .int .i64 (rdWk xs k).o, .int .i64 (rdWk xs k).l] 124)).drewN nq) = W1 at *
      clear hx0 hx1 hx2 hy hy2 hq hB hu
      go_region_held3 (fun W => (∀ o, W.cell? ⟨w.heap.size, o, none⟩ = (#[.int .i64 t.c, .int .i64 t.h, .int .i64 t.p, .int .i64 t.l, .int .i64 t.f, .slice (some ad) xs.length c, .slice (some ad2) fs.length c2] : Array Value)[o]?) ∧ (∀ o, W.cell? ⟨B, o, none⟩ = (#[.int .i64 (rdWk xs k).q, .int .i64 (rdWk xs k).o, .int .i64 (rdWk xs k).l] : Array Value)[o]?)) (first | (go_keep; done) | (go_split_ands; (repeat' (with_reducible apply And.intro)) <;> (first | assumption | (intro o; refine (hcA _ o ?_).trans ?_; (focus (first | omega | (simp; omega) | (simp; done))); (first | (simp only [*]; done) | (simp [*]; done))) | ((refine (hcA _ _ (by (try simp); omega)).trans ?_); (first | assumption | (simp only [*]; done) | (simp [*]; done)))))) (first | (go_at_call 60; (with_reducible refine (hours' _ _ HBA.out).mono ?_); rintro e w' ⟨rfl, hb⟩; have hbA := Aside0.mk hb; obtain ⟨hcA, hfA⟩ := hb.old; have hz := hb.le; (try simp at hz); (try have hz0 : w.heap.size < w'.heap.size := by omega); (try have hzb : w.heap.size + 1 < w'.heap.size := by omega); (try have hzc : w.heap.size + 2 < w'.heap.size := by omega); clear hb) | (go_at_call 61; (with_reducible refine (pounds' _ _ HBA.out).mono ?_); rintro e w' ⟨rfl, hb⟩; have hbA := Aside0.mk hb; obtain ⟨hcA, hfA⟩ := hb.old; have hz := hb.le; (try simp at hz); (try have hz0 : w.heap.size < w'.heap.size := by omega); (try have hzb : w.heap.size + 1 < w'.heap.size := by omega); (try have hzc : w.heap.size + 2 < w'.heap.size := by omega); clear hb))
      all_goals
        repeat clear hcA hfA
        go_wp2_with fail
        all_goals
          first
          | (go_roundw
             case rel => exact ⟨k + 1, _, _, by omega, by go_num, rfl, rfl, ⟨by have h9 := HE.out; rw [if_neg (by omega)] at h9; first | (rw [if_pos (by omega)] at h9; exact h9) | (rw [if_neg (by omega)] at h9; exact h9)⟩, ⟨HU1.out.then upA⟩⟩
             case measure => simp [intOf]; omega)
          | (go_ret2
             exact ⟨by have h9 := HE.out; rw [if_pos (by omega)] at h9; simp [← h9], ((Up.refl w).alloc _).then (HU1.out.then upA)⟩)
    · obtain rfl : k = xs.length := by omega
      have h1 : clothsL t hour pound (xs.drop xs.length) (fs.drop xs.length) lo hi = (lo, hi) := by simp [clothsL]
      have HE := Aside0.mk (h1.symm.trans he.out); clear h1 he
      go_wp2_with fail
      go_ret2
      exact ⟨by simp [← HE.out], ((Up.refl w).alloc _).then hu.out⟩
end Go.Proofs.Ytdlekcdedahbhaa
