/- walkmill/walkmilllaw10.WoolWrongs: for every input the law returns true, and each argument reads behind the call as it read before. No condition. (Written by wip/pr.py.) -/
import Derived.Test.YtemingmeidmjkaaDoorX0
import Derived.Test.YtemingmeidmjkaaDoorRows
import Derived.Test.YtemingmeidmjkaaDoorGWoolWrongs1
import Derived.WalkKit
import Derived.ProofKit
import Derived.OpenShut
import Derived.ShutString
import Derived.ChangeOld
import Derived.Below
import Derived.SizedLaws
import Derived.Carry
import Derived.Handed
import Derived.SevenTiedAt
import Derived.Test.YtemingmeidmjkaaDoorTie
import Derived.Test.YtemingmeidmjkaaDoorCards
namespace Go.Proofs.YtemingmeidmjkaaDoor.woolWrongs
open Go.ChangeShapes Go.WideShapes Go.ChangeAt Go.RowKit Go.Proofs.YtemingmeidmjkaaDoor.Q Go.Proofs.YtemingmeidmjkaaDoor.Rw Go.Proofs.YtemingmeidmjkaaDoorW.PrintWords
open Go.ChangeMaps (open_string shut_string)
set_option linter.unusedVariables false
theorem own : ownKnob Tryd.prog.godebug = none := by kernel_rfl
theorem laidOut : laidOutB Tryd.prog = true := by kernel_rfl
theorem op3 : Opens Tryd.prog 3 (Kd.int .i64) (fun x => (Lit.int .i64 x).wf = true) := Opens.int Tryd.underlying3 (by kernel_rfl)
theorem op41 : Opens Tryd.prog 41 k41 (fun x : S41 => ((Lit.int .i64 x.f0).wf = true) ∧ ((Lit.int .i64 x.f1).wf = true)) := Opens.iso (fun x : S41 => (x.f0, x.f1)) (fun x => ⟨x.1, x.2⟩) (fun _ => rfl) (Opens.struct Tryd.underlying41 (by kernel_rfl) (FOpens.cons op3 rfl (FOpens.one op3 rfl)))
theorem op22 : Opens Tryd.prog 22 (Kd.slice 41 k41) (fun x => ∀ x_ ∈ x, ((Lit.int .i64 x_.f0).wf = true) ∧ ((Lit.int .i64 x_.f1).wf = true)) := Opens.slice Tryd.underlying22 (by kernel_rfl) op41
theorem op80 : Opens Tryd.prog 80 k80 (fun x : S80 => ((Lit.int .i64 x.f0).wf = true) ∧ (((Lit.int .i64 x.f1).wf = true) ∧ ((Lit.int .i64 x.f2).wf = true))) := Opens.iso (fun x : S80 => (x.f0, x.f1, x.f2)) (fun x => ⟨x.1, x.2.1, x.2.2⟩) (fun _ => rfl) (Opens.struct Tryd.underlying80 (by kernel_rfl) (FOpens.cons op3 rfl (FOpens.cons op3 rfl (FOpens.one op3 rfl))))
theorem op23 : Opens Tryd.prog 23 (Kd.slice 80 k80) (fun x => ∀ x_ ∈ x, ((Lit.int .i64 x_.f0).wf = true) ∧ (((Lit.int .i64 x_.f1).wf = true) ∧ ((Lit.int .i64 x_.f2).wf = true))) := Opens.slice Tryd.underlying23 (by kernel_rfl) op80
theorem op25 : Opens Tryd.prog 25 k25 (fun x : S25 => (∀ x_ ∈ x.f0, ((Lit.int .i64 x_.f0).wf = true) ∧ ((Lit.int .i64 x_.f1).wf = true)) ∧ (∀ x_ ∈ x.f1, ((Lit.int .i64 x_.f0).wf = true) ∧ (((Lit.int .i64 x_.f1).wf = true) ∧ ((Lit.int .i64 x_.f2).wf = true)))) := Opens.iso (fun x : S25 => (x.f0, x.f1)) (fun x => ⟨x.1, x.2⟩) (fun _ => rfl) (Opens.struct Tryd.underlying25 (by kernel_rfl) (FOpens.cons op22 rfl (FOpens.one op23 rfl)))
set_option maxRecDepth 100000 in
theorem lifted (os : Os) (started : os.Started) (H : Type) (enc : TypeId × Value → H) :
    ReturnsInHanded {} Tryd.checked os 6 .any (fun w args => (Rows.woolWrongsSpec.pre enc Tryd.prog Tryd.f6 Rows.woolWrongsRow.domain false w args ∧ laidMetH Tryd.prog Rows.woolWrongsRow.laid w) ∧ sizedMet enc Tryd.prog Tryd.f6 (OpenSpec.ofChange Rows.woolWrongsSpec) false w args) (Rows.woolWrongsSpec.post enc Tryd.prog Tryd.f6 false true false false) := by
  refine returnsInHanded_of_change_and (C := Tryd.checked) (X := fun w _ => laidMetH Tryd.prog Rows.woolWrongsRow.laid w) (fun _ _ _ hh h => h.of_heap hh) own started (by kernel_rfl) Tryd.func6
    (ChangeSpec.witness_at (enc := enc) (C := Tryd.checked) (os := os) (X := fun w _ => laidMetH Tryd.prog Rows.woolWrongsRow.laid w) false (lay0 (World.holding Tryd.prog os ⟨#[], #[], []⟩)) #[.agg #[.slice none 0 0, .slice none 0 0]] 8 rfl (by kernel_rfl) (by kernel_rfl) (by kernel_rfl) (by kernel_rfl) (by kernel_rfl) (lay0_met os _)) ?_
  intro W base args ds gs before hval0 hW hcnd hsz0 hL _
  have hG : GL W := gl_of_laid hL
  have hsz : (DataW.weightsEach Tryd.prog (Tryd.f6.params.toList ++ Rows.woolWrongsSpec.plain.varTypes Tryd.prog) (ds ++ gs)).all (· ≤ reachBytes) = true := hsz0
  have hval : ∀ (j : Nat) t v, Tryd.f6.params[j]? = some t → args[j]? = some v → Value.okWide Tryd.prog W .any base t v := hval0
  have hW' := hW
  obtain ⟨p, q, hA0, hV, rfl, hfz, hnd⟩ := hW
  have hA : DataW.TrodAll enc Tryd.prog W 0 (fun _ => true) true Tryd.f6.params.toList args.toList ds p := hA0
  rw [Tryd.params6] at hA hval hsz
  obtain ⟨v0, vs0, d0, ds0, p0, q0, hargs, rfl, rfl, h0, r0⟩ := trodAll_cons hA
  obtain ⟨rfl, rfl, rfl⟩ := trodAll_nil r0
  obtain rfl : args = #[v0] := by cases args; simp_all
  obtain ⟨rfl, rfl⟩ := trodVars_none hV
  obtain ⟨cs0, rfl, _⟩ := okWide_struct Tryd.underlying25 (hval 0 25 v0 rfl rfl)
  have k0 := h0
  have lt0 : ∀ x ∈ p0, x.block < W.heap.size := by obtain ⟨m, hm⟩ := k0; exact DataW.trod_lt m _ _ _ hm
  obtain ⟨y0, hK0, w0⟩ := (fun (z : DataW.Trod enc Tryd.prog W 0 (fun _ => true) true 25 _ d0 p0) => z.elim fun _ hf => op25.read hf) h0
  obtain ⟨A0_0, c0_0, A0_1, c0_1, e0, hc0_0, hr0_0, hc0_1, hr0_1⟩ := k25_open hK0
  obtain rfl : cs0 = #[.slice A0_0 y0.f0.length c0_0, .slice A0_1 y0.f1.length c0_1] := by
    apply Array.toList_inj.1
    simpa [Value.cells] using e0
  clear e0
  clear hA0 hval0 hsz0 hsz
  obtain ⟨K, hp⟩ := WoolWrongs_pure y0.f0 y0.f1 
  refine (lw_WoolWrongs.calls K _ _ y0.f0 _ _ y0.f1 true W hG hr0_0 hc0_0 hr0_1 hc0_1 hp).mono fun e W' ⟨he, bel⟩ => ?_
  subst he
  exact ⟨_, rfl, _, _, _, [], _, [], hW', trodAll_mk1 (shut_bool Tryd.underlying4 _), (trodAll_cons_mk (Below.trod laidOut (by kernel_rfl) (of_decide_eq_true (by kernel_rfl)) k0 bel lt0) trodAll_mk0), rfl, bel.frame _, fun h => by cases h⟩
theorem over : Rows.woolWrongsRow.holds Tryd.pinned (OpenSpec.ofChange Rows.woolWrongsSpec) :=
  OpenClaim.holds_of_wide 6 Tryd.f6 rfl rfl rfl rfl rfl rfl rfl ⟨rfl, rfl, rfl, rfl, rfl⟩ rfl rfl rfl rfl rfl (by kernel_rfl) Tryd.func6 (by kernel_rfl)
    (of_decide_eq_true (by kernel_rfl)) (by unfold Func.isWrapper; first | (rw [if_pos (by decide +kernel)]; kernel_rfl) | (rw [if_neg (by decide +kernel)]; exact ⟨rfl, rfl⟩))
    (fun os started H enc _ => lifted os started H enc)
theorem card : Rows.WoolWrongsCardSaid :=
  Claim7.holds_tied_plain_at .later [] [.data] true (true, "4414eac84357f4f653d35a949faad7c115e7246aabf006f52f73198ce3798b10") false
    over (fun _ h => by cases h) (by kernel_rfl) (fun _ h => by cases h) woolWrongs_row_tie rfl ⟨rfl, rfl⟩ (by kernel_rfl) rfl
    (fun f fn hf hfn => by
      obtain rfl : f = 6 := Option.some.inj ((show Tryd.prog.funcNamed "walkmill/walkmilllaw10.WoolWrongs" = some 6 by kernel_rfl).symm.trans hf) |>.symm
      obtain rfl : fn = Tryd.f6 := (Option.some.inj (Tryd.func6.symm.trans hfn)).symm
      exact ⟨by kernel_rfl, fun j t ht => by
        rw [Tryd.params6] at ht
        match j, ht with
          | 0, ht => (obtain rfl : t = 25 := by simpa using ht.symm); exact (show Tryd.prog.wantsStandIn 25 = false by kernel_rfl)
          | j + 1, ht => simp at ht⟩)
    (by kernel_rfl)
#print axioms card
end Go.Proofs.YtemingmeidmjkaaDoor.woolWrongs
namespace Go.Proofs.YtemingmeidmjkaaDoor
/-- The card, under a short name, for the claim. -/
theorem woolWrongs_holds : Rows.WoolWrongsCardSaid := woolWrongs.card
end Go.Proofs.YtemingmeidmjkaaDoor
