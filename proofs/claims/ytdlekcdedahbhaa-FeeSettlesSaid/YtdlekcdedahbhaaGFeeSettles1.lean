/- Functions printed by the kit's printer over these walks, and the plain law. No condition. -/
import Derived.Test.YtdlekcdedahbhaaGFeeSettles0
import Derived.Test.YtdlekcdedahbhaaWMore
import Derived.Test.YtdlekcdedahbhaaWWords
set_option linter.unusedVariables false
set_option linter.unusedSimpArgs false
namespace Go.Proofs.Ytdlekcdedahbhaa.Q
open Go.RowKit Go.Proofs.YtdlekcdedahbhaaW.PrintWords
set_option linter.unusedVariables false
set_option linter.unusedSimpArgs false
def grpT : List Int → Nat → List (List Int)
  | [], _ => [[]]
  | n :: ns, m => if n = 0 then (grpT ns m).map ((-1) :: ·) else (List.range (m + 1)).flatMap fun (k : Nat) => (grpT ns (max m (k + 1))).map ((k : Int) :: ·)
def fin : List Int → List Int → List Int → Int
  | n :: ns, k :: gs, s => if k < 0 then fin ns gs s else fin ns gs (addAt s k.toNat n)
  | _, _, s => if s.all (· == 0) then s.length else -1
def stp (g ns s : List Int) (b : Bst) (gs : List Int) : Bst := if b.m < fin ns gs s then ⟨g ++ gs, fin ns gs s⟩ else b
theorem addAt_len2 (s : List Int) (k : Nat) (n : Int) (h : k ≤ s.length) : (addAt s k n).length = max s.length (k + 1) := by
  unfold addAt
  split
  · simp; omega
  · simp; omega
theorem fin_ge : ∀ (ns gs s : List Int), -1 ≤ fin ns gs s
  | [], gs, s => by unfold fin; split <;> omega
  | n :: ns, [], s => by unfold fin; split <;> omega
  | n :: ns, k :: gs, s => by
    unfold fin
    split
    · exact fin_ge ns gs s
    · exact fin_ge ns gs _
theorem foldl_stp_ge (g ns s : List Int) : ∀ (L : List (List Int)) (b : Bst), -1 ≤ b.m → -1 ≤ (L.foldl (stp g ns s) b).m
  | [], b, h => h
  | x :: L, b, h => by
    rw [List.foldl_cons]
    refine foldl_stp_ge g ns s L _ ?_
    unfold stp
    split
    · exact fin_ge _ _ _
    · exact h
theorem foldl_mem {α β : Type} (f h : β → α → β) : ∀ (L : List α) (b : β), (∀ b a, a ∈ L → f b a = h b a) → L.foldl f b = L.foldl h b
  | [], b, _ => rfl
  | a :: L, b, he => by rw [List.foldl_cons, List.foldl_cons, he b a (List.mem_cons_self ..)]; exact foldl_mem f h L _ (fun b x hx => he b x (List.mem_cons_of_mem _ hx))
theorem partL_eq : ∀ (ns g s : List Int) (b : Bst), -1 ≤ b.m → partL ns g s b = (grpT ns s.length).foldl (stp g ns s) b
  | [], g, s, b, h => by
    simp only [partL, grpT, List.foldl_cons, List.foldl_nil, stp, fin, List.append_nil]
    have hs : (s.any fun n => n != 0) = !(s.all (· == 0)) := by
      rw [List.all_eq_not_any_not, Bool.not_not]; rfl
    rw [hs]
    cases h1 : s.all (· == 0)
    · simp only [Bool.not_false, Bool.true_eq_false, and_false, if_false, Bool.false_eq_true]
      rw [if_neg (show ¬ b.m < -1 by omega)]
    · simp only [Bool.not_true, and_true, if_true]
  | n :: ns, g, s, b, h => by
    by_cases h0 : n = 0
    · simp only [partL, grpT, if_pos h0, List.foldl_map]
      rw [partL_eq ns (g ++ [-1]) s b h]
      refine foldl_mem _ _ _ _ fun b gs _ => ?_
      simp [stp, fin]
    · simp only [partL, grpT, if_neg h0, List.foldl_flatMap, List.foldl_map]
      have key : ∀ (L : List Nat) (b : Bst), (∀ k ∈ L, k ≤ s.length) → -1 ≤ b.m → L.foldl (fun (b : Bst) (k : Nat) => partL ns (g ++ [(k : Int)]) (addAt s k n) b) b = L.foldl (fun (b : Bst) (k : Nat) => (grpT ns (max s.length (k + 1))).foldl (fun b gs => stp g (n :: ns) s b ((k : Int) :: gs)) b) b := by
        intro L
        induction L with
        | nil => intro b _ _; rfl
        | cons k L ih =>
          intro b hk hb
          rw [List.foldl_cons, List.foldl_cons]
          have hk1 := hk k (List.mem_cons_self ..)
          have e1 : partL ns (g ++ [(k : Int)]) (addAt s k n) b = (grpT ns (max s.length (k + 1))).foldl (fun b gs => stp g (n :: ns) s b ((k : Int) :: gs)) b := by
            rw [partL_eq ns (g ++ [(k : Int)]) (addAt s k n) b hb, addAt_len2 s k n hk1]
            refine foldl_mem _ _ _ _ fun b gs _ => ?_
            simp [stp, fin, show ¬ ((k : Int) < 0) by omega]
          rw [e1]
          refine ih _ (fun x hx => hk x (List.mem_cons_of_mem _ hx)) ?_
          rw [← e1, partL_eq ns _ _ b hb]
          exact foldl_stp_ge _ _ _ _ _ hb
      exact key (List.range (s.length + 1)) b (fun k hk => by have := List.mem_range.1 hk; omega) h
theorem flat_len {α β : Type} (f : α → List β) (B : Nat) : ∀ L : List α, (∀ x ∈ L, (f x).length ≤ B) → (L.flatMap f).length ≤ L.length * B
  | [], _ => by simp
  | x :: L, h => by
    have h1 := flat_len f B L (fun y hy => h y (List.mem_cons_of_mem _ hy))
    have h2 := h x (List.mem_cons_self ..)
    rw [List.flatMap_cons, List.length_append, List.length_cons, Nat.add_mul]
    omega
theorem grp_len : ∀ (ns : List Int) (m : Nat), m + ns.length ≤ 9 → (grpT ns m).length ≤ 10 ^ ns.length
  | [], m, _ => by simp [grpT]
  | n :: ns, m, h => by
    rw [List.length_cons] at h
    have hp : 10 ^ (n :: ns).length = 10 * 10 ^ ns.length := by rw [List.length_cons, Nat.pow_succ, Nat.mul_comm]
    rw [hp]
    unfold grpT
    split
    · rw [List.length_map]
      have := grp_len ns m (by omega)
      omega
    · have h1 := flat_len (fun (k : Nat) => (grpT ns (max m (k + 1))).map ((k : Int) :: ·)) (10 ^ ns.length) (List.range (m + 1)) (fun k hk => by
        have := List.mem_range.1 hk
        rw [List.length_map]
        exact grp_len ns _ (by omega))
      rw [List.length_range] at h1
      have h2 : (m + 1) * 10 ^ ns.length ≤ 10 * 10 ^ ns.length := Nat.mul_le_mul_right _ (by omega)
      omega
def outG (g ns : List Int) (m j : Nat) : List (List Int) := (List.range j).flatMap fun (k : Nat) => (grpT ns (max m (k + 1))).map fun t => (g ++ [(k : Int)]) ++ t
theorem outG_succ (g ns m j) : outG g ns m (j + 1) = outG g ns m j ++ (grpT ns (max m (j + 1))).map fun t => (g ++ [(j : Int)]) ++ t := by
  simp only [outG, List.range_succ, List.flatMap_append, List.flatMap_cons, List.flatMap_nil, List.append_nil]
theorem outG_len (g ns : List Int) (m j : Nat) (h : m + ns.length + 1 ≤ 9) (hj : j ≤ m + 1) : (outG g ns m j).length ≤ 10 * 10 ^ ns.length := by
  have h1 := flat_len (fun (k : Nat) => (grpT ns (max m (k + 1))).map fun t => (g ++ [(k : Int)]) ++ t) (10 ^ ns.length) (List.range j) (fun k hk => by
        have := List.mem_range.1 hk
        rw [List.length_map]
        exact grp_len ns _ (by omega))
  rw [List.length_range] at h1
  have h2 : j * 10 ^ ns.length ≤ 10 * 10 ^ ns.length := Nat.mul_le_mul_right _ (by omega)
  unfold outG
  omega
def okG : List Int → Nat → Prop
  | [], _ => True
  | k :: gs, m => (k = -1 ∧ okG gs m) ∨ (∃ j : Nat, k = (j : Int) ∧ j ≤ m ∧ okG gs (max m (j + 1)))
theorem grp_ok : ∀ (ns : List Int) (m : Nat) (gs : List Int), gs ∈ grpT ns m → okG gs m ∧ gs.length = ns.length
  | [], m, gs, h => by
    simp only [grpT, List.mem_singleton] at h
    subst h
    exact ⟨trivial, rfl⟩
  | n :: ns, m, gs, h => by
    unfold grpT at h
    split at h
    · obtain ⟨t, ht, rfl⟩ := List.mem_map.1 h
      have := grp_ok ns m t ht
      exact ⟨Or.inl ⟨rfl, this.1⟩, by simp [this.2]⟩
    · obtain ⟨k, hk, h2⟩ := List.mem_flatMap.1 h
      obtain ⟨t, ht, rfl⟩ := List.mem_map.1 h2
      have h3 := List.mem_range.1 hk
      have := grp_ok ns _ t ht
      exact ⟨Or.inr ⟨k, rfl, by omega, this.1⟩, by simp [this.2]⟩
theorem pow6 (d : Nat) (h : d ≤ 6) : 10 ^ d ≤ 1000000 := by
  have := Nat.pow_le_pow_right (n := 10) (by omega) h
  omega
theorem wi2 (i : Nat) (h : i ≤ 10000000) : wrap64 ((i : Int) + 1) = ((i + 1 : Nat) : Int) := by rw [wr (by omega)]; omega
theorem mxn (a b : Nat) : mx (a : Int) (b : Int) = ((max a b : Nat) : Int) := by unfold mx; split <;> omega
theorem rdN (b : List Int) (i : Nat) (n : Int) (ns : List Int) (h : n :: ns = b.drop i) : i < b.length ∧ rd b (i : Int) = n ∧ ns = b.drop (i + 1) := by
  have h1 : i < b.length := by
    refine Nat.lt_of_not_le fun h2 => ?_
    rw [List.drop_eq_nil_of_le h2] at h
    cases h
  rw [List.drop_eq_getElem_cons h1] at h
  injection h with h2 h3
  exact ⟨h1, by rw [rdI b i h1, h2], h3⟩
theorem Groupings_l0 (b g : List Int) (n : Int) (ns : List Int) (m : Nat) (hb : b.length ≤ 6) (hns : n :: ns = b.drop g.length) (hm : m + ns.length + 1 ≤ 9) (ih : ∀ (g : List Int) (m : Nat), g.length ≤ b.length → ns = b.drop g.length → m + ns.length ≤ 9 → Ev (fun k => rf_Groupings.f k b g (m : Int)) ((grpT ns m).map (g ++ ·))) : ∀ (d j : Nat), j + d = m + 1 → Ev (fun k => rf_Groupings.l0 k b g (m : Int) (outG g ns m j) (j : Int)) (outG g ns m (m + 1))
  | 0, j, h => by
    refine Ev.up ?_
    simp only [rf_Groupings.l0, if_neg (show ¬ (j : Int) ≤ (m : Int) by omega)]
    rw [show j = m + 1 by omega]
    exact Ev.now _
  | d + 1, j, h => by
    obtain ⟨hg, h2, h3⟩ := rdN b g.length n ns hns
    have hl := outG_len g ns m j hm (by omega)
    have hp := pow6 ns.length (by rw [h3, List.length_drop]; omega)
    have hq := grp_len ns (max m (j + 1)) (by omega)
    have ih1 := ih (g ++ [(j : Int)]) (max m (j + 1)) (by rw [List.length_append, List.length_singleton]; omega) (by rw [List.length_append, List.length_singleton]; exact h3) (by omega)
    refine Ev.up ?_
    simp only [rf_Groupings.l0, if_pos (show (j : Int) ≤ (m : Int) by omega), Option.bind_some, List.length_nil, Nat.zero_add, List.nil_append]
    rw [wi j (by omega), mxn]
    simp only [if_pos (show g.length < 17592186044416 by omega)]
    refine Ev.bind ih1 ?_
    have hlt : (outG g ns m j).length + ((grpT ns (max m (j + 1))).map (fun x => g ++ [(j : Int)] ++ x)).length < 5864062014805 := by rw [List.length_map]; omega
    simp only [if_pos hlt]
    have e := outG_succ g ns m j
    rw [← e]
    exact Groupings_l0 b g n ns m hb hns hm ih d (j + 1) (by omega)
theorem Groupings_f (b : List Int) (hb : b.length ≤ 6) : ∀ (ns g : List Int) (m : Nat), g.length ≤ b.length → ns = b.drop g.length → m + ns.length ≤ 9 → Ev (fun k => rf_Groupings.f k b g (m : Int)) ((grpT ns m).map (g ++ ·))
  | [], g, m, hg, hns, hm => by
    have h1 : g.length = b.length := by
      have := congrArg List.length hns
      rw [List.length_drop, List.length_nil] at this
      omega
    refine Ev.up ?_
    simp only [rf_Groupings.f, if_pos (show (g.length : Int) = (b.length : Int) by omega), grpT, List.map_cons, List.map_nil, List.append_nil]
    exact Ev.now _
  | n :: ns, g, m, hg, hns, hm => by
    obtain ⟨h1, h2, h3⟩ := rdN b g.length n ns hns
    have ih := Groupings_f b hb ns
    rw [List.length_cons] at hm
    have hp := pow6 ns.length (by rw [h3, List.length_drop]; omega)
    have hq := grp_len ns m (by omega)
    refine Ev.up ?_
    simp only [rf_Groupings.f, if_neg (show ¬ (g.length : Int) = (b.length : Int) by omega), Option.bind_some, if_pos (show (0 : Int) ≤ (g.length : Int) by omega), if_pos (show (g.length : Int) < (b.length : Int) by omega), h2, List.length_nil, Nat.zero_add, List.nil_append]
    by_cases h0 : n = 0
    · simp only [if_pos h0, grpT, List.map_map]
      simp only [if_pos (show g.length < 17592186044416 by omega)]
      have ih1 := ih (g ++ [-1]) m (by rw [List.length_append, List.length_singleton]; omega) (by rw [List.length_append, List.length_singleton]; exact h3) (by omega)
      refine Ev.bind ih1 ?_
      rw [if_pos (by rw [List.length_map]; omega)]
      have e : (grpT ns m).map (fun t => g ++ [-1] ++ t) = (grpT ns m).map ((fun t => g ++ t) ∘ fun t => -1 :: t) := List.map_congr_left fun t _ => by simp
      rw [e]
      exact Ev.now _
    · simp only [if_neg h0, grpT, List.map_flatMap, List.map_map]
      have hL := Groupings_l0 b g n ns m hb hns (by omega) ih (m + 1) 0 (by omega)
      have e : outG g ns m (m + 1) = (List.range (m + 1)).flatMap fun (k : Nat) => (grpT ns (max m (k + 1))).map ((fun t => g ++ t) ∘ fun t => (k : Int) :: t) := by
        unfold outG
        refine congrArg (fun f => List.flatMap f (List.range (m + 1))) (funext fun k => ?_)
        exact List.map_congr_left fun t _ => by simp
      rw [e] at hL
      exact hL
def padZ (L : Nat) (s : List Int) : List Int := s ++ List.replicate (L - s.length) 0
theorem padZ_len (L : Nat) (s : List Int) (h : s.length ≤ L) : (padZ L s).length = L := by unfold padZ; rw [List.length_append, List.length_replicate]; omega
theorem padZ_set (L : Nat) (s : List Int) (k : Nat) (n : Int) (hk : k ≤ s.length) (hs : s.length < L) : (padZ L s).set k (rd (padZ L s) (k : Int) + n) = padZ L (addAt s k n) := by
  unfold padZ addAt
  by_cases h : k = s.length
  · rw [if_pos h]
    subst h
    obtain ⟨d, hd⟩ : ∃ d, L - s.length = d + 1 := ⟨L - s.length - 1, by omega⟩
    have h2 : L - (s ++ [n]).length = d := by rw [List.length_append, List.length_singleton]; omega
    rw [hd, h2, List.replicate_succ]
    have h3 : rd (s ++ 0 :: List.replicate d 0) (s.length : Int) = 0 := by simp [rd]
    rw [h3, List.set_append_right _ _ (by omega), Nat.sub_self]
    simp
  · rw [if_neg h]
    have h3 : rd (s ++ List.replicate (L - s.length) 0) (k : Int) = rd s k := by
      simp only [rd, Int.toNat_natCast]
      rw [List.getD_eq_getElem?_getD, List.getD_eq_getElem?_getD, List.getElem?_append_left (by omega)]
    rw [h3, List.set_append_left _ _ (by omega), List.length_set]
theorem padZ_all (L : Nat) (s : List Int) : (padZ L s).all (· == 0) = s.all (· == 0) := by
  unfold padZ
  rw [List.all_append]
  simp
theorem Many_l1 (t : Int) (x : List Int) (hx : x.length ≤ 100) : ∀ (d i : Nat), i + d = x.length → Ev (fun k => rf_Many.l1 k t x (i : Int)) (if ((x.drop i).all (· == 0)) = true then t else -1)
  | 0, i, h => by
    refine Ev.up ?_
    simp only [rf_Many.l1, if_neg (show ¬ (i : Int) < (x.length : Int) by omega)]
    rw [List.drop_eq_nil_of_le (by omega)]
    simpa using Ev.now t
  | d + 1, i, h => by
    have ih := Many_l1 t x hx d (i + 1) (by omega)
    refine Ev.up ?_
    simp only [rf_Many.l1, if_pos (show (i : Int) < (x.length : Int) by omega), if_pos (show (0 : Int) ≤ (i : Int) by omega), wi i (by omega), rdI x i (by omega)]
    rw [List.drop_eq_getElem_cons (show i < x.length by omega), List.all_cons]
    by_cases hq : x[i] = 0
    · simpa [hq] using ih
    · simpa [hq] using Ev.now (-1 : Int)
theorem Many_l0 (b gs0 : List Int) (hb : b.length ≤ 6) (hg : gs0.length = b.length) (hB : ∀ x ∈ b, -100000 ≤ x ∧ x ≤ 100000) : ∀ (ns gs s : List Int) (i : Nat), ns = b.drop i → gs = gs0.drop i → okG gs s.length → s.length ≤ i → i ≤ b.length → SumB (100000 * (i : Int)) s → Ev (fun k => rf_Many.l0 k b gs0 (s.length : Int) (padZ b.length s) (i : Int)) (fin ns gs s)
  | [], gs, s, i, hns, hgs, hok, hs, hi, hS => by
    have h1 : i = b.length := by
      have := congrArg List.length hns
      rw [List.length_drop, List.length_nil] at this
      omega
    refine Ev.up ?_
    simp only [rf_Many.l0, if_neg (show ¬ (i : Int) < (b.length : Int) by omega)]
    have h2 := Many_l1 (s.length : Int) (padZ b.length s) (by rw [padZ_len _ _ (by omega)]; omega) b.length 0 (by rw [padZ_len _ _ (by omega)]; omega)
    rw [List.drop_zero, padZ_all] at h2
    have e : fin [] gs s = if (s.all (· == 0)) = true then (s.length : Int) else -1 := by unfold fin; rfl
    rw [e]
    exact h2
  | n :: ns, gs, s, i, hns, hgs, hok, hs, hi, hS => by
    obtain ⟨h1, h2, h3⟩ := rdN b i n ns hns
    obtain ⟨k, gs', rfl⟩ : ∃ k gs', gs = k :: gs' := by
      cases gs with
      | nil =>
        have := congrArg List.length hgs
        rw [List.length_drop, List.length_nil] at this
        omega
      | cons k gs' => exact ⟨k, gs', rfl⟩
    obtain ⟨h4, h5, h6⟩ := rdN gs0 i k gs' hgs
    have hn : -100000 ≤ n ∧ n ≤ 100000 := by
      rw [← h2, rdI b i h1]
      exact hB _ (List.getElem_mem _)
    refine Ev.up ?_
    simp only [rf_Many.l0, if_pos (show (i : Int) < (b.length : Int) by omega), if_pos (show (0 : Int) ≤ (i : Int) by omega), if_pos (show (i : Int) < (gs0.length : Int) by omega), wi i (by omega), h2, h5]
    have hS2 : ∀ s' : List Int, SumB (100000 * (i : Int) + 100000) s' → SumB (100000 * ((i + 1 : Nat) : Int)) s' := fun s' h => by
      rw [show (100000 * ((i + 1 : Nat) : Int)) = 100000 * (i : Int) + 100000 by omega]
      exact h
    rcases hok with ⟨rfl, hok⟩ | ⟨j, rfl, hj, hok⟩
    · simp only [if_neg (show ¬ (-1 : Int) ≥ 0 by omega)]
      have e : fin (n :: ns) (-1 :: gs') s = fin ns gs' s := by simp [fin]
      rw [e]
      refine Many_l0 b gs0 hb hg hB ns gs' s (i + 1) h3 h6 hok (by omega) (by omega) (hS2 _ fun x hx => ?_)
      have := hS x hx
      omega
    · have hpl := padZ_len b.length s (by omega)
      simp only [if_pos (show (j : Int) ≥ 0 by omega), if_pos (show (0 : Int) ≤ (j : Int) by omega), hpl, if_pos (show (j : Int) < (b.length : Int) by omega)]
      have hr : -(100000 * (i : Int)) ≤ rd (padZ b.length s) (j : Int) ∧ rd (padZ b.length s) (j : Int) ≤ 100000 * (i : Int) := by
        rw [rdI _ j (by omega)]
        have hm : (padZ b.length s)[j]'(by omega) ∈ padZ b.length s := List.getElem_mem _
        generalize (padZ b.length s)[j]'(by omega) = y at hm ⊢
        unfold padZ at hm
        rcases List.mem_append.1 hm with hm | hm
        · exact hS _ hm
        · have := List.eq_of_mem_replicate hm
          rw [this]
          omega
      rw [wi j (by omega), mxn, wr (by omega), Int.toNat_natCast, padZ_set b.length s j n hj (by omega), ← addAt_len2 s j n hj]
      have e : fin (n :: ns) ((j : Int) :: gs') s = fin ns gs' (addAt s j n) := by simp [fin, show ¬ ((j : Int) < 0) by omega]
      rw [e]
      refine Many_l0 b gs0 hb hg hB ns gs' (addAt s j n) (i + 1) h3 h6 (by rw [addAt_len2 s j n hj]; exact hok) (by rw [addAt_len2 s j n hj]; omega) (by omega) (hS2 _ ?_)
      exact sumB_addAt hS j hj n hn (by omega)
theorem Many_f (b gs : List Int) (hb : b.length ≤ 6) (hB : ∀ x ∈ b, -100000 ≤ x ∧ x ≤ 100000) (hg : gs ∈ grpT b 0) : Ev (fun k => rf_Many.f k b gs) (fin b gs []) := by
  obtain ⟨h1, h2⟩ := grp_ok b 0 gs hg
  have h := Many_l0 b gs hb h2 hB b gs [] 0 rfl rfl h1 (by simp) (by omega) (fun x hx => by cases hx)
  have e : padZ b.length [] = List.replicate b.length 0 := by simp [padZ]
  rw [e] at h
  simp only [rf_Many.f, if_pos (show (0 : Int) ≤ (b.length : Int) by omega), Int.toNat_natCast, if_pos (show b.length ≤ 35184372088832 by omega)]
  exact h
theorem Settle_l1 (b c : List Int) (m : Int) (hm : -1 ≤ m ∧ m ≤ 100) (hb : b.length ≤ 6) : ∀ (d i : Nat), i + d = b.length → Ev (fun k => rf_Settle.l1 k b c m ((((b.take i).filter (fun n => n != 0)).length : Nat) : Int) (i : Int)) ((((b.filter (fun n => n != 0)).length : Nat) : Int) - m, c)
  | 0, i, h => by
    refine Ev.up ?_
    have h1 := List.length_filter_le (fun n : Int => n != 0) b
    simp only [rf_Settle.l1, if_neg (show ¬ (i : Int) < (b.length : Int) by omega)]
    rw [List.take_of_length_le (by omega), wr (by omega)]
    exact Ev.now _
  | d + 1, i, h => by
    have ih := Settle_l1 b c m hm hb d (i + 1) (by omega)
    rw [List.take_succ_eq_append_getElem (show i < b.length by omega), List.filter_append] at ih
    refine Ev.up ?_
    have h1 := List.length_filter_le (fun n : Int => n != 0) (b.take i)
    have h2 : (b.take i).length ≤ 6 := by rw [List.length_take]; omega
    simp only [rf_Settle.l1, if_pos (show (i : Int) < (b.length : Int) by omega), if_pos (show (0 : Int) ≤ (i : Int) by omega), wi i (by omega), rdI b i (by omega)]
    by_cases hq : b[i] = 0
    · simpa [hq] using ih
    · rw [wi _ (by omega)]
      simpa [hq] using ih
theorem Settle_l0 (b : List Int) (hb : b.length ≤ 6) (hB : ∀ x ∈ b, -100000 ≤ x ∧ x ≤ 100000) (all : List (List Int)) (hall : ∀ x ∈ all, x ∈ grpT b 0) (hlen : all.length ≤ 1000000) (R : Bst) (hR : -1 ≤ R.m ∧ R.m ≤ 100) : ∀ (L : List (List Int)) (i : Nat) (s : Bst), L = all.drop i → i ≤ all.length → L.foldl (stp [] b []) s = R → Ev (fun k => rf_Settle.l0 k b all s.b s.m 0 (i : Int)) ((((b.filter (fun n => n != 0)).length : Nat) : Int) - R.m, R.b)
  | [], i, s, hL, hi, hf => by
    have h1 : i = all.length := by
      have := congrArg List.length hL
      rw [List.length_drop, List.length_nil] at this
      omega
    rw [List.foldl_nil] at hf
    subst hf
    have h := Settle_l1 b s.b s.m hR hb b.length 0 (by omega)
    refine Ev.up ?_
    simp only [rf_Settle.l0, if_neg (show ¬ (i : Int) < (all.length : Int) by omega)]
    exact h
  | x :: L, i, s, hL, hi, hf => by
    have h1 : i < all.length := by
      refine Nat.lt_of_not_le fun h2 => ?_
      rw [List.drop_eq_nil_of_le h2] at hL
      cases hL
    rw [List.drop_eq_getElem_cons h1] at hL
    injection hL with h2 h3
    rw [List.foldl_cons] at hf
    have ih := Settle_l0 b hb hB all hall hlen R hR L (i + 1) (stp [] b [] s x) h3 (by omega) hf
    have hmem : x ∈ grpT b 0 := by rw [h2]; exact hall _ (List.getElem_mem _)
    have hr : rd_L5 all (i : Int) = x := by rw [h2]; simp [rd_L5, h1]
    refine Ev.up ?_
    simp only [rf_Settle.l0, if_pos (show (i : Int) < (all.length : Int) by omega), if_pos (show (0 : Int) ≤ (i : Int) by omega), wi2 i (by omega), hr]
    refine Ev.bind (Many_f b x hb hB hmem) ?_
    unfold stp at ih
    by_cases hq : s.m < fin b x []
    · simp only [if_pos hq, if_pos (show fin b x [] > s.m from hq)] at ih ⊢
      simpa using ih
    · simp only [if_neg hq, if_neg (show ¬ fin b x [] > s.m from hq)] at ih ⊢
      exact ih
theorem Settle_f (b : List Int) (h : balB b = true) : Ev (fun k => rf_Settle.f k b) (some_ (balA b) - (bestA (balA b)).m, (bestA (balA b)).b) := by
  obtain ⟨h6, hB⟩ := (balB_iff b).1 h
  unfold some_ bestA
  rw [accL_balA b h]
  have hG := Groupings_f b (by omega) b [] 0 (by simp) rfl (by omega)
  have e0 : (grpT b 0).map (([] : List Int) ++ ·) = grpT b 0 := by simp
  rw [e0] at hG
  have hP := partL_eq b [] [] ⟨[], -1⟩ (by simp)
  have hM := partL_m b [] [] ⟨[], -1⟩ (by simp; omega) (by simp) (by simp)
  have hl := grp_len b 0 (by omega)
  have hp := pow6 b.length (by omega)
  refine Ev.bind hG ?_
  exact Settle_l0 b (by omega) hB (grpT b 0) (fun x hx => hx) (by omega) (partL b [] [] ⟨[], -1⟩) hM (grpT b 0) 0 ⟨[], -1⟩ rfl (by omega) hP.symm
theorem foldl_stp_len (b : List Int) : ∀ (L : List (List Int)) (s : Bst), (∀ x ∈ L, x.length ≤ 6) → s.b.length ≤ 6 → (L.foldl (stp [] b []) s).b.length ≤ 6
  | [], s, _, h => h
  | x :: L, s, hx, h => by
    rw [List.foldl_cons]
    refine foldl_stp_len b L _ (fun y hy => hx y (List.mem_cons_of_mem _ hy)) ?_
    have h1 := hx x (List.mem_cons_self ..)
    unfold stp
    split
    · simpa using h1
    · exact h
theorem best_len (b : List Int) (h : balB b = true) : (bestA (balA b)).b.length ≤ 6 := by
  obtain ⟨h6, hB⟩ := (balB_iff b).1 h
  unfold bestA
  rw [accL_balA b h, partL_eq b [] [] ⟨[], -1⟩ (by simp)]
  exact foldl_stp_len b _ _ (fun x hx => by have := (grp_ok b _ x hx).2; omega) (by simp)
theorem FeeSettles_ev (b : List Int) : Ev (fun k => lw_FeeSettles.f k b) true := by
  unfold lw_FeeSettles.f
  by_cases h1 : b.length > 20
  · simp only [if_pos (show (b.length : Int) > 20 by omega), known_f, Option.bind_some]
    exact Ev.now true
  · simp only [if_neg (show ¬ (b.length : Int) > 20 by omega), known_f, Option.bind_some, fee_Settle.f, List.length_nil, Nat.zero_add, List.nil_append, if_pos (show b.length < 17592186044416 by omega)]
    have hI := Ints_f b b (by omega)
    rw [decide_eq_true rfl] at hI
    refine Ev.bind hI ?_
    simp only [if_true]
    refine Ev.bind (Valid_f b (by omega)) ?_
    by_cases h2 : balB b = true
    · simp only [if_pos h2]
      obtain ⟨h6, hB⟩ := (balB_iff b).1 h2
      refine Ev.bind (Sum_f b (by omega) (fun x hx => by have := hB x hx; omega)) ?_
      by_cases h3 : b.sum = 0
      · have hE : settleE b = 0 := by unfold settleE; rw [if_pos h2, accL_balA b h2, if_pos h3]
        simp only [if_pos h3]
        refine Ev.bind (Settle_f b h2) ?_
        have hI2 := Ints_f (bestA (balA b)).b (bestA (balA b)).b (by have := best_len b h2; omega)
        rw [decide_eq_true rfl] at hI2
        simp only [settleN, settleG, if_pos hE, hE, if_true]
        refine Ev.bind hI2 ?_
        simp only [if_true]
        exact Ev.now true
      · have hE : settleE b = 9 := by unfold settleE; rw [if_pos h2, accL_balA b h2, if_neg h3]
        simp only [if_neg h3, settleN, settleG, hE, show ¬ ((9 : Int) = 0) by omega, if_false, if_true, List.length_nil]
        exact Ev.now true
    · have hE : settleE b = 4 := by unfold settleE; rw [if_neg h2]
      simp only [if_neg h2, settleN, settleG, hE, show ¬ ((4 : Int) = 0) by omega, if_false, if_true, List.length_nil]
      exact Ev.now true
theorem FeeSettles_pure (l0 : List Int) : ∃ k, lw_FeeSettles.f k l0 = some true := (FeeSettles_ev l0).rounds
end Go.Proofs.Ytdlekcdedahbhaa.Q
