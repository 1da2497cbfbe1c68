/- walkmill/walkmilllaw12.FeeOnce: for every input the law returns true, and each argument reads behind the call as it read before. No condition. (Written by wip/pr.py.) -/
import Derived.Test.YtdlekcdedahbhaaX0
import Derived.Test.YtdlekcdedahbhaaRows
import Derived.Test.YtdlekcdedahbhaaGFeeOnce1
import Derived.Test.YtdlekcdedahbhaaGFeeOnce2
import Derived.WalkKit
import Derived.ProofKit
import Derived.OpenShut
import Derived.ShutString
import Derived.ChangeOld
import Derived.Below
import Derived.SizedLaws
import Derived.Carry
namespace Go.Proofs.Ytdlekcdedahbhaa.feeOnce
open Go.ChangeShapes Go.WideShapes Go.ChangeAt Go.RowKit Go.Proofs.Ytdlekcdedahbhaa.Q Go.Proofs.Ytdlekcdedahbhaa.Rw Go.Proofs.YtdlekcdedahbhaaW.PrintWords
open Go.ChangeMaps (open_string shut_string)
set_option linter.unusedVariables false
theorem own : ownKnob Try.prog.godebug = none := by kernel_rfl
theorem laidOut : laidOutB Try.prog = true := by kernel_rfl
theorem op5 : Opens Try.prog 5 (Kd.int .u8) (fun x => (Lit.int .u8 x).wf = true) := Opens.int Try.underlying5 (by kernel_rfl)
theorem op105 : Opens Try.prog 105 k105 (fun x : S105 => ((Lit.int .u8 x.f0).wf = true) ∧ ((Lit.int .u8 x.f1).wf = true)) := Opens.iso (fun x : S105 => (x.f0, x.f1)) (fun x => ⟨x.1, x.2⟩) (fun _ => rfl) (Opens.array 1 Try.underlying105 (by kernel_rfl) (by kernel_rfl) (FOpens.cons op5 rfl (FOpens.one op5 rfl)))
theorem op103 : Opens Try.prog 103 (Kd.slice 105 k105) (fun x => ∀ x_ ∈ x, ((Lit.int .u8 x_.f0).wf = true) ∧ ((Lit.int .u8 x_.f1).wf = true)) := Opens.slice Try.underlying103 (by kernel_rfl) op105
theorem op104 : Opens Try.prog 104 (Kd.slice 5 (Kd.int .u8)) (fun x => ∀ x_ ∈ x, (Lit.int .u8 x_).wf = true) := Opens.slice Try.underlying104 (by kernel_rfl) op5
set_option maxRecDepth 100000 in
theorem lifted (os : Os) (started : os.Started) (H : Type) (enc : TypeId × Value → H) :
    ReturnsInHanded {} Try.checked os 13 .any (Rows.feeOnceSpec.pre6 enc Try.prog Try.f13 Rows.feeOnceRow.domain false) (Rows.feeOnceSpec.post enc Try.prog Try.f13 false true false false) := by
  refine returnsInHanded_of_change_sized (C := Try.checked) own started (by kernel_rfl) Try.func13
    (ChangeSpec.witness6 (enc := enc) (C := Try.checked) false ⟨#[], #[.slice none 0 0, .slice none 0 0], []⟩ 8 (by kernel_rfl) (by kernel_rfl) (by kernel_rfl) (by kernel_rfl)) ?_
  intro W base args ds gs before hval0 hW hcnd hsz0 _
  have hsz : (DataW.weightsEach Try.prog (Try.f13.params.toList ++ Rows.feeOnceSpec.plain.varTypes Try.prog) (ds ++ gs)).all (· ≤ reachBytes) = true := hsz0
  have hval : ∀ (j : Nat) t v, Try.f13.params[j]? = some t → args[j]? = some v → Value.okWide Try.prog W .any base t v := hval0
  have hW' := hW
  obtain ⟨p, q, hA0, hV, rfl, hfz, hnd⟩ := hW
  have hA : DataW.TrodAll enc Try.prog W 0 (fun _ => true) true Try.f13.params.toList args.toList ds p := hA0
  rw [Try.params13] at hA hval hsz
  obtain ⟨v0, vs0, d0, ds0, p0, q0, hargs, rfl, rfl, h0, r0⟩ := trodAll_cons hA
  obtain ⟨v1, vs1, d1, ds1, p1, q1, rfl, rfl, rfl, h1, r1⟩ := trodAll_cons r0
  obtain ⟨rfl, rfl, rfl⟩ := trodAll_nil r1
  obtain rfl : args = #[v0, v1] := by cases args; simp_all
  obtain ⟨rfl, rfl⟩ := trodVars_none hV
  obtain ⟨ad0, len0, cap0, rfl⟩ := okWide_slice Try.underlying103 (hval 0 103 v0 rfl rfl)
  have k0 := h0
  have lt0 : ∀ x ∈ p0, x.block < W.heap.size := by obtain ⟨m, hm⟩ := k0; exact DataW.trod_lt m _ _ _ hm
  obtain ⟨y0, hK0, w0⟩ := (fun (z : DataW.Trod enc Try.prog W 0 (fun _ => true) true 103 _ d0 p0) => z.elim fun _ hf => op103.read hf) h0
  obtain ⟨A0, c0, e0, hc0, hr0⟩ := hK0
  have e0' : [Value.slice ad0 len0 cap0] = [Value.slice A0 y0.length c0] := e0
  simp only [List.cons.injEq, Value.slice.injEq, and_true] at e0'
  obtain ⟨rfl, rfl, rfl⟩ := e0'
  clear e0
  obtain ⟨ad1, len1, cap1, rfl⟩ := okWide_slice Try.underlying104 (hval 1 104 v1 rfl rfl)
  have k1 := h1
  have lt1 : ∀ x ∈ p1, x.block < W.heap.size := by obtain ⟨m, hm⟩ := k1; exact DataW.trod_lt m _ _ _ hm
  obtain ⟨y1, hK1, w1⟩ := (fun (z : DataW.Trod enc Try.prog W 0 (fun _ => true) true 104 _ d1 p1) => z.elim fun _ hf => op104.read hf) h1
  obtain ⟨A1, c1, e1, hc1, hr1⟩ := hK1
  have e1' : [Value.slice ad1 len1 cap1] = [Value.slice A1 y1.length c1] := e1
  simp only [List.cons.injEq, Value.slice.injEq, and_true] at e1'
  obtain ⟨rfl, rfl, rfl⟩ := e1'
  clear e1
  clear hA0 hval0 hsz0 hsz
  obtain ⟨K, hp⟩ := FeeOnce_pure y0 y1 w0 w1
  refine (lw_FeeOnce.calls K _ _ y0 _ _ y1 true W hr0 hc0 hr1 hc1 hp).mono fun e W' ⟨he, bel⟩ => ?_
  subst he
  exact ⟨_, rfl, _, _, _, [], _, [], hW', trodAll_mk1 (shut_bool Try.underlying4 _), (trodAll_cons_mk (Below.trod laidOut (by kernel_rfl) (of_decide_eq_true (by kernel_rfl)) k0 bel lt0) (trodAll_cons_mk (Below.trod laidOut (by kernel_rfl) (of_decide_eq_true (by kernel_rfl)) k1 bel lt1) trodAll_mk0)), rfl, bel.frame _, fun h => by cases h⟩
theorem over : Rows.feeOnceRow.holds Try.pinned (OpenSpec.ofChange Rows.feeOnceSpec) :=
  OpenClaim.holds_of_wide 13 Try.f13 rfl rfl rfl rfl rfl rfl rfl ⟨rfl, rfl, rfl, rfl, rfl⟩ rfl rfl rfl rfl rfl (by kernel_rfl) Try.func13 (by kernel_rfl)
    (of_decide_eq_true (by kernel_rfl)) (by unfold Func.isWrapper; first | (rw [if_pos (by decide +kernel)]; kernel_rfl) | (rw [if_neg (by decide +kernel)]; exact ⟨rfl, rfl⟩))
    (fun os started H enc _ => lifted os started H enc)
theorem proved : Rows.FeeOnceSaid := over
#print axioms proved
end Go.Proofs.Ytdlekcdedahbhaa.feeOnce
namespace Go.Proofs.Ytdlekcdedahbhaa
/-- The row, under a short name, for the claim. -/
theorem feeOnce_holds : Rows.FeeOnceSaid := feeOnce.proved
end Go.Proofs.Ytdlekcdedahbhaa
