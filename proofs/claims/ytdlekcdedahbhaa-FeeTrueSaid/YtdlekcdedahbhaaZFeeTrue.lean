/- walkmill/walkmilllaw12.FeeTrue: for every input the law returns true, and each argument reads behind the call as it read before. No condition. (Written by wip/pr.py.) -/
import Derived.Test.YtdlekcdedahbhaaX0
import Derived.Test.YtdlekcdedahbhaaRows
import Derived.Test.YtdlekcdedahbhaaGFeeTrue1
import Derived.Test.YtdlekcdedahbhaaGFeeTrue2
import Derived.WalkKit
import Derived.ProofKit
import Derived.OpenShut
import Derived.ShutString
import Derived.ChangeOld
import Derived.Below
import Derived.SizedLaws
import Derived.Carry
namespace Go.Proofs.Ytdlekcdedahbhaa.feeTrue
open Go.ChangeShapes Go.WideShapes Go.ChangeAt Go.RowKit Go.Proofs.Ytdlekcdedahbhaa.Q Go.Proofs.Ytdlekcdedahbhaa.Rw Go.Proofs.YtdlekcdedahbhaaW.PrintWords
open Go.ChangeMaps (open_string shut_string)
set_option linter.unusedVariables false
theorem own : ownKnob Try.prog.godebug = none := by kernel_rfl
theorem laidOut : laidOutB Try.prog = true := by kernel_rfl
theorem op5 : Opens Try.prog 5 (Kd.int .u8) (fun x => (Lit.int .u8 x).wf = true) := Opens.int Try.underlying5 (by kernel_rfl)
theorem op87 : Opens Try.prog 87 k87 (fun x : S87 => ((Lit.int .u8 x.f0).wf = true) ∧ (((Lit.int .u8 x.f1).wf = true) ∧ (((Lit.int .u8 x.f2).wf = true) ∧ (((Lit.int .u8 x.f3).wf = true) ∧ ((Lit.int .u8 x.f4).wf = true))))) := Opens.iso (fun x : S87 => (x.f0, x.f1, x.f2, x.f3, x.f4)) (fun x => ⟨x.1, x.2.1, x.2.2.1, x.2.2.2.1, x.2.2.2.2⟩) (fun _ => rfl) (Opens.array 1 Try.underlying87 (by kernel_rfl) (by kernel_rfl) (FOpens.cons op5 rfl (FOpens.cons op5 rfl (FOpens.cons op5 rfl (FOpens.cons op5 rfl (FOpens.one op5 rfl))))))
theorem op107 : Opens Try.prog 107 k107 (fun x : S107 => ((Lit.int .u8 x.f0).wf = true) ∧ (((Lit.int .u8 x.f1).wf = true) ∧ ((Lit.int .u8 x.f2).wf = true))) := Opens.iso (fun x : S107 => (x.f0, x.f1, x.f2)) (fun x => ⟨x.1, x.2.1, x.2.2⟩) (fun _ => rfl) (Opens.array 1 Try.underlying107 (by kernel_rfl) (by kernel_rfl) (FOpens.cons op5 rfl (FOpens.cons op5 rfl (FOpens.one op5 rfl))))
theorem op88 : Opens Try.prog 88 (Kd.slice 107 k107) (fun x => ∀ x_ ∈ x, ((Lit.int .u8 x_.f0).wf = true) ∧ (((Lit.int .u8 x_.f1).wf = true) ∧ ((Lit.int .u8 x_.f2).wf = true))) := Opens.slice Try.underlying88 (by kernel_rfl) op107
theorem op90 : Opens Try.prog 90 k90 (fun x : S90 => (((Lit.int .u8 x.f0.f0).wf = true) ∧ (((Lit.int .u8 x.f0.f1).wf = true) ∧ (((Lit.int .u8 x.f0.f2).wf = true) ∧ (((Lit.int .u8 x.f0.f3).wf = true) ∧ ((Lit.int .u8 x.f0.f4).wf = true))))) ∧ (∀ x_ ∈ x.f1, ((Lit.int .u8 x_.f0).wf = true) ∧ (((Lit.int .u8 x_.f1).wf = true) ∧ ((Lit.int .u8 x_.f2).wf = true)))) := Opens.iso (fun x : S90 => (x.f0, x.f1)) (fun x => ⟨x.1, x.2⟩) (fun _ => rfl) (Opens.struct Try.underlying90 (by kernel_rfl) (FOpens.cons op87 rfl (FOpens.one op88 rfl)))
set_option maxRecDepth 100000 in
theorem lifted (os : Os) (started : os.Started) (H : Type) (enc : TypeId × Value → H) :
    ReturnsInHanded {} Try.checked os 11 .any (Rows.feeTrueSpec.pre6 enc Try.prog Try.f11 Rows.feeTrueRow.domain false) (Rows.feeTrueSpec.post enc Try.prog Try.f11 false true false false) := by
  refine returnsInHanded_of_change_sized (C := Try.checked) own started (by kernel_rfl) Try.func11
    (ChangeSpec.witness6 (enc := enc) (C := Try.checked) false ⟨#[], #[.agg #[.int .u8 0, .int .u8 0, .int .u8 0, .int .u8 0, .int .u8 0, .slice none 0 0]], []⟩ 8 (by kernel_rfl) (by kernel_rfl) (by kernel_rfl) (by kernel_rfl)) ?_
  intro W base args ds gs before hval0 hW hcnd hsz0 _
  have hsz : (DataW.weightsEach Try.prog (Try.f11.params.toList ++ Rows.feeTrueSpec.plain.varTypes Try.prog) (ds ++ gs)).all (· ≤ reachBytes) = true := hsz0
  have hval : ∀ (j : Nat) t v, Try.f11.params[j]? = some t → args[j]? = some v → Value.okWide Try.prog W .any base t v := hval0
  have hW' := hW
  obtain ⟨p, q, hA0, hV, rfl, hfz, hnd⟩ := hW
  have hA : DataW.TrodAll enc Try.prog W 0 (fun _ => true) true Try.f11.params.toList args.toList ds p := hA0
  rw [Try.params11] at hA hval hsz
  obtain ⟨v0, vs0, d0, ds0, p0, q0, hargs, rfl, rfl, h0, r0⟩ := trodAll_cons hA
  obtain ⟨rfl, rfl, rfl⟩ := trodAll_nil r0
  obtain rfl : args = #[v0] := by cases args; simp_all
  obtain ⟨rfl, rfl⟩ := trodVars_none hV
  obtain ⟨cs0, rfl, _⟩ := okWide_struct Try.underlying90 (hval 0 90 v0 rfl rfl)
  have k0 := h0
  have lt0 : ∀ x ∈ p0, x.block < W.heap.size := by obtain ⟨m, hm⟩ := k0; exact DataW.trod_lt m _ _ _ hm
  obtain ⟨y0, hK0, w0⟩ := (fun (z : DataW.Trod enc Try.prog W 0 (fun _ => true) true 90 _ d0 p0) => z.elim fun _ hf => op90.read hf) h0
  obtain ⟨A0_5, c0_5, e0, hc0_5, hr0_5⟩ := k90_open hK0
  obtain rfl : cs0 = #[.int .u8 y0.f0.f0, .int .u8 y0.f0.f1, .int .u8 y0.f0.f2, .int .u8 y0.f0.f3, .int .u8 y0.f0.f4, .slice A0_5 y0.f1.length c0_5] := by
    apply Array.toList_inj.1
    simpa [Value.cells] using e0
  clear e0
  clear hA0 hval0 hsz0 hsz
  obtain ⟨K, hp⟩ := FeeTrue_pure y0.f0.f0 y0.f0.f1 y0.f0.f2 y0.f0.f3 y0.f0.f4 y0.f1 w0
  refine (lw_FeeTrue.calls K y0.f0.f0 y0.f0.f1 y0.f0.f2 y0.f0.f3 y0.f0.f4 _ _ y0.f1 true W hr0_5 hc0_5 hp).mono fun e W' ⟨he, bel⟩ => ?_
  subst he
  exact ⟨_, rfl, _, _, _, [], _, [], hW', trodAll_mk1 (shut_bool Try.underlying4 _), (trodAll_cons_mk (Below.trod laidOut (by kernel_rfl) (of_decide_eq_true (by kernel_rfl)) k0 bel lt0) trodAll_mk0), rfl, bel.frame _, fun h => by cases h⟩
theorem over : Rows.feeTrueRow.holds Try.pinned (OpenSpec.ofChange Rows.feeTrueSpec) :=
  OpenClaim.holds_of_wide 11 Try.f11 rfl rfl rfl rfl rfl rfl rfl ⟨rfl, rfl, rfl, rfl, rfl⟩ rfl rfl rfl rfl rfl (by kernel_rfl) Try.func11 (by kernel_rfl)
    (of_decide_eq_true (by kernel_rfl)) (by unfold Func.isWrapper; first | (rw [if_pos (by decide +kernel)]; kernel_rfl) | (rw [if_neg (by decide +kernel)]; exact ⟨rfl, rfl⟩))
    (fun os started H enc _ => lifted os started H enc)
theorem proved : Rows.FeeTrueSaid := over
#print axioms proved
end Go.Proofs.Ytdlekcdedahbhaa.feeTrue
namespace Go.Proofs.Ytdlekcdedahbhaa
/-- The row, under a short name, for the claim. -/
theorem feeTrue_holds : Rows.FeeTrueSaid := feeTrue.proved
end Go.Proofs.Ytdlekcdedahbhaa
