/- walkmill/walkmilllaw10.WoolSpoilt: for every input the law returns true, and each argument reads behind the call as it read before. No condition. (Written by wip/pr.py.) -/
import Derived.Test.YtemingmeidmjkaaDoorX0
import Derived.Test.YtemingmeidmjkaaDoorRows
import Derived.Test.YtemingmeidmjkaaDoorGWoolSpoilt2
import Derived.WalkKit
import Derived.ProofKit
import Derived.OpenShut
import Derived.ShutString
import Derived.ChangeOld
import Derived.Below
import Derived.SizedLaws
import Derived.Carry
import Derived.Handed
import Derived.SevenTiedAt
import Derived.Test.YtemingmeidmjkaaDoorTie
import Derived.Test.YtemingmeidmjkaaDoorCards
namespace Go.Proofs.YtemingmeidmjkaaDoor.woolSpoilt
open Go.ChangeShapes Go.WideShapes Go.ChangeAt Go.RowKit Go.Proofs.YtemingmeidmjkaaDoor.Q Go.Proofs.YtemingmeidmjkaaDoor.Rw Go.Proofs.YtemingmeidmjkaaDoorW.PrintWords
open Go.ChangeMaps (open_string shut_string)
set_option linter.unusedVariables false
theorem own : ownKnob Tryd.prog.godebug = none := by kernel_rfl
theorem laidOut : laidOutB Tryd.prog = true := by kernel_rfl
structure S69 where
  f0 : List (S76)
  f1 : Int
  f2 : List Int
  f3 : List (S136)
def k69 : Kd S69 := Kd.iso (Kd.pair (Kd.slice 76 k76) (Kd.pair (Kd.int .u16) (Kd.pair (Kd.slice 5 (Kd.int .u8)) (Kd.slice 136 k136)))) (fun x : S69 => (x.f0, x.f1, x.f2, x.f3))
theorem k69_open {w : World} {x : S69} {cs : List Value} (h : k69.K w x cs) : ∃ A0 c0 A2 c2 A3 c3, cs = [.slice A0 x.f0.length c0, .int .u16 x.f1, .slice A2 x.f2.length c2, .slice A3 x.f3.length c3] ∧ x.f0.length ≤ c0 ∧ k76.C w A0 x.f0.length x.f0 ∧ x.f2.length ≤ c2 ∧ (Kd.int .u8).C w A2 x.f2.length x.f2 ∧ x.f3.length ≤ c3 ∧ k136.C w A3 x.f3.length x.f3 := by
  obtain ⟨_, _, rfl, ⟨A0, c0, rfl, l0, g0⟩, ⟨_, _, rfl, rfl, ⟨_, _, rfl, ⟨A2, c2, rfl, l2, g2⟩, ⟨A3, c3, rfl, l3, g3⟩⟩⟩⟩ := h
  exact ⟨A0, c0, A2, c2, A3, c3, rfl, l0, g0, l2, g2, l3, g3⟩
theorem op5 : Opens Tryd.prog 5 (Kd.int .u8) (fun x => (Lit.int .u8 x).wf = true) := Opens.int Tryd.underlying5 (by kernel_rfl)
theorem op76 : Opens Tryd.prog 76 k76 (fun x : S76 => ((Lit.int .u8 x.f0).wf = true) ∧ ((Lit.int .u8 x.f1).wf = true)) := Opens.iso (fun x : S76 => (x.f0, x.f1)) (fun x => ⟨x.1, x.2⟩) (fun _ => rfl) (Opens.array 1 Tryd.underlying76 (by kernel_rfl) (by kernel_rfl) (FOpens.cons op5 rfl (FOpens.one op5 rfl)))
theorem op64 : Opens Tryd.prog 64 (Kd.slice 76 k76) (fun x => ∀ x_ ∈ x, ((Lit.int .u8 x_.f0).wf = true) ∧ ((Lit.int .u8 x_.f1).wf = true)) := Opens.slice Tryd.underlying64 (by kernel_rfl) op76
theorem op65 : Opens Tryd.prog 65 (Kd.int .u16) (fun x => (Lit.int .u16 x).wf = true) := Opens.int Tryd.underlying65 (by kernel_rfl)
theorem op66 : Opens Tryd.prog 66 (Kd.slice 5 (Kd.int .u8)) (fun x => ∀ x_ ∈ x, (Lit.int .u8 x_).wf = true) := Opens.slice Tryd.underlying66 (by kernel_rfl) op5
theorem op136 : Opens Tryd.prog 136 k136 (fun x : S136 => ((Lit.int .u8 x.f0).wf = true) ∧ (((Lit.int .u8 x.f1).wf = true) ∧ ((Lit.int .u8 x.f2).wf = true))) := Opens.iso (fun x : S136 => (x.f0, x.f1, x.f2)) (fun x => ⟨x.1, x.2.1, x.2.2⟩) (fun _ => rfl) (Opens.array 1 Tryd.underlying136 (by kernel_rfl) (by kernel_rfl) (FOpens.cons op5 rfl (FOpens.cons op5 rfl (FOpens.one op5 rfl))))
theorem op67 : Opens Tryd.prog 67 (Kd.slice 136 k136) (fun x => ∀ x_ ∈ x, ((Lit.int .u8 x_.f0).wf = true) ∧ (((Lit.int .u8 x_.f1).wf = true) ∧ ((Lit.int .u8 x_.f2).wf = true))) := Opens.slice Tryd.underlying67 (by kernel_rfl) op136
theorem op69 : Opens Tryd.prog 69 k69 (fun x : S69 => (∀ x_ ∈ x.f0, ((Lit.int .u8 x_.f0).wf = true) ∧ ((Lit.int .u8 x_.f1).wf = true)) ∧ (((Lit.int .u16 x.f1).wf = true) ∧ ((∀ x_ ∈ x.f2, (Lit.int .u8 x_).wf = true) ∧ (∀ x_ ∈ x.f3, ((Lit.int .u8 x_.f0).wf = true) ∧ (((Lit.int .u8 x_.f1).wf = true) ∧ ((Lit.int .u8 x_.f2).wf = true)))))) := Opens.iso (fun x : S69 => (x.f0, x.f1, x.f2, x.f3)) (fun x => ⟨x.1, x.2.1, x.2.2.1, x.2.2.2⟩) (fun _ => rfl) (Opens.struct Tryd.underlying69 (by kernel_rfl) (FOpens.cons op64 rfl (FOpens.cons op65 rfl (FOpens.cons op66 rfl (FOpens.one op67 rfl)))))
set_option maxRecDepth 100000 in
theorem lifted (os : Os) (started : os.Started) (H : Type) (enc : TypeId × Value → H) :
    ReturnsInHanded {} Tryd.checked os 13 .any (fun w args => (Rows.woolSpoiltSpec.pre enc Tryd.prog Tryd.f13 Rows.woolSpoiltRow.domain false w args ∧ laidMetH Tryd.prog Rows.woolSpoiltRow.laid w) ∧ sizedMet enc Tryd.prog Tryd.f13 (OpenSpec.ofChange Rows.woolSpoiltSpec) false w args) (Rows.woolSpoiltSpec.post enc Tryd.prog Tryd.f13 false true false false) := by
  refine returnsInHanded_of_change_and (C := Tryd.checked) (X := fun w _ => laidMetH Tryd.prog Rows.woolSpoiltRow.laid w) (fun _ _ _ hh h => h.of_heap hh) own started (by kernel_rfl) Tryd.func13
    (ChangeSpec.witness_at (enc := enc) (C := Tryd.checked) (os := os) (X := fun w _ => laidMetH Tryd.prog Rows.woolSpoiltRow.laid w) false (lay0 (World.holding Tryd.prog os ⟨#[], #[], []⟩)) #[.agg #[.slice none 0 0, .int .u16 0, .slice none 0 0, .slice none 0 0], .slice none 0 0] 8 rfl (by kernel_rfl) (by kernel_rfl) (by kernel_rfl) (by kernel_rfl) (by kernel_rfl) (lay0_met os _)) ?_
  intro W base args ds gs before hval0 hW hcnd hsz0 hL _
  have hG : GL W := gl_of_laid hL
  have hsz : (DataW.weightsEach Tryd.prog (Tryd.f13.params.toList ++ Rows.woolSpoiltSpec.plain.varTypes Tryd.prog) (ds ++ gs)).all (· ≤ reachBytes) = true := hsz0
  have hval : ∀ (j : Nat) t v, Tryd.f13.params[j]? = some t → args[j]? = some v → Value.okWide Tryd.prog W .any base t v := hval0
  have hW' := hW
  obtain ⟨p, q, hA0, hV, rfl, hfz, hnd⟩ := hW
  have hA : DataW.TrodAll enc Tryd.prog W 0 (fun _ => true) true Tryd.f13.params.toList args.toList ds p := hA0
  rw [Tryd.params13] at hA hval hsz
  obtain ⟨v0, vs0, d0, ds0, p0, q0, hargs, rfl, rfl, h0, r0⟩ := trodAll_cons hA
  obtain ⟨v1, vs1, d1, ds1, p1, q1, rfl, rfl, rfl, h1, r1⟩ := trodAll_cons r0
  obtain ⟨rfl, rfl, rfl⟩ := trodAll_nil r1
  obtain rfl : args = #[v0, v1] := by cases args; simp_all
  obtain ⟨rfl, rfl⟩ := trodVars_none hV
  obtain ⟨cs0, rfl, _⟩ := okWide_struct Tryd.underlying69 (hval 0 69 v0 rfl rfl)
  have k0 := h0
  have lt0 : ∀ x ∈ p0, x.block < W.heap.size := by obtain ⟨m, hm⟩ := k0; exact DataW.trod_lt m _ _ _ hm
  obtain ⟨y0, hK0, w0⟩ := (fun (z : DataW.Trod enc Tryd.prog W 0 (fun _ => true) true 69 _ d0 p0) => z.elim fun _ hf => op69.read hf) h0
  obtain ⟨A0_0, c0_0, A0_2, c0_2, A0_3, c0_3, e0, hc0_0, hr0_0, hc0_2, hr0_2, hc0_3, hr0_3⟩ := k69_open hK0
  obtain rfl : cs0 = #[.slice A0_0 y0.f0.length c0_0, .int .u16 y0.f1, .slice A0_2 y0.f2.length c0_2, .slice A0_3 y0.f3.length c0_3] := by
    apply Array.toList_inj.1
    simpa [Value.cells] using e0
  clear e0
  obtain ⟨ad1, len1, cap1, rfl⟩ := okWide_slice Tryd.underlying66 (hval 1 66 v1 rfl rfl)
  have k1 := h1
  have lt1 : ∀ x ∈ p1, x.block < W.heap.size := by obtain ⟨m, hm⟩ := k1; exact DataW.trod_lt m _ _ _ hm
  obtain ⟨y1, hK1, w1⟩ := (fun (z : DataW.Trod enc Tryd.prog W 0 (fun _ => true) true 66 _ d1 p1) => z.elim fun _ hf => op66.read hf) h1
  obtain ⟨A1, c1, e1, hc1, hr1⟩ := hK1
  have e1' : [Value.slice ad1 len1 cap1] = [Value.slice A1 y1.length c1] := e1
  simp only [List.cons.injEq, Value.slice.injEq, and_true] at e1'
  obtain ⟨rfl, rfl, rfl⟩ := e1'
  clear e1
  clear hA0 hval0 hsz0 hsz
  obtain ⟨K, hp⟩ := WoolSpoilt_pure y0.f0 y0.f1 y0.f2 y0.f3 y1 w0 w1
  refine (lw_WoolSpoilt.calls K _ _ y0.f0 y0.f1 _ _ y0.f2 _ _ y0.f3 _ _ y1 true W hG hr0_0 hc0_0 hr0_2 hc0_2 hr0_3 hc0_3 hr1 hc1 hp).mono fun e W' ⟨he, bel⟩ => ?_
  subst he
  exact ⟨_, rfl, _, _, _, [], _, [], hW', trodAll_mk1 (shut_bool Tryd.underlying4 _), (trodAll_cons_mk (Below.trod laidOut (by kernel_rfl) (of_decide_eq_true (by kernel_rfl)) k0 bel lt0) (trodAll_cons_mk (Below.trod laidOut (by kernel_rfl) (of_decide_eq_true (by kernel_rfl)) k1 bel lt1) trodAll_mk0)), rfl, bel.frame _, fun h => by cases h⟩
theorem over : Rows.woolSpoiltRow.holds Tryd.pinned (OpenSpec.ofChange Rows.woolSpoiltSpec) :=
  OpenClaim.holds_of_wide 13 Tryd.f13 rfl rfl rfl rfl rfl rfl rfl ⟨rfl, rfl, rfl, rfl, rfl⟩ rfl rfl rfl rfl rfl (by kernel_rfl) Tryd.func13 (by kernel_rfl)
    (of_decide_eq_true (by kernel_rfl)) (by unfold Func.isWrapper; first | (rw [if_pos (by decide +kernel)]; kernel_rfl) | (rw [if_neg (by decide +kernel)]; exact ⟨rfl, rfl⟩))
    (fun os started H enc _ => lifted os started H enc)
theorem card : Rows.WoolSpoiltCardSaid :=
  Claim7.holds_tied_plain_at .later [] [.data] true (true, "4414eac84357f4f653d35a949faad7c115e7246aabf006f52f73198ce3798b10") false
    over (fun _ h => by cases h) (by kernel_rfl) (fun _ h => by cases h) woolSpoilt_row_tie rfl ⟨rfl, rfl⟩ (by kernel_rfl) rfl
    (fun f fn hf hfn => by
      obtain rfl : f = 13 := Option.some.inj ((show Tryd.prog.funcNamed "walkmill/walkmilllaw10.WoolSpoilt" = some 13 by kernel_rfl).symm.trans hf) |>.symm
      obtain rfl : fn = Tryd.f13 := (Option.some.inj (Tryd.func13.symm.trans hfn)).symm
      exact ⟨by kernel_rfl, fun j t ht => by
        rw [Tryd.params13] at ht
        match j, ht with
          | 0, ht => (obtain rfl : t = 69 := by simpa using ht.symm); exact (show Tryd.prog.wantsStandIn 69 = false by kernel_rfl)
          | 1, ht => (obtain rfl : t = 66 := by simpa using ht.symm); exact (show Tryd.prog.wantsStandIn 66 = false by kernel_rfl)
          | j + 2, ht => simp at ht⟩)
    (by kernel_rfl)
#print axioms card
end Go.Proofs.YtemingmeidmjkaaDoor.woolSpoilt
namespace Go.Proofs.YtemingmeidmjkaaDoor
/-- The card, under a short name, for the claim. -/
theorem woolSpoilt_holds : Rows.WoolSpoiltCardSaid := woolSpoilt.card
end Go.Proofs.YtemingmeidmjkaaDoor
