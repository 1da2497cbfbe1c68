/- walkmill/walkmilllaw12.FeePrices: for every input the law returns true, and each argument reads behind the call as it read before. No condition. (Written by wip/pr.py.) -/
import Derived.Test.YtdlekcdedahbhaaRows
import Derived.Test.YtdlekcdedahbhaaGFeePrices2
import Derived.WalkKit
import Derived.ProofKit
import Derived.OpenShut
import Derived.ShutString
import Derived.ChangeOld
import Derived.Below
import Derived.SizedLaws
import Derived.Carry
namespace Go.Proofs.Ytdlekcdedahbhaa.feePrices
open Go.ChangeShapes Go.WideShapes Go.ChangeAt Go.RowKit Go.Proofs.Ytdlekcdedahbhaa.Q Go.Proofs.Ytdlekcdedahbhaa.Rw Go.Proofs.YtdlekcdedahbhaaW.PrintWords
open Go.ChangeMaps (open_string shut_string)
set_option linter.unusedVariables false
theorem own : ownKnob Try.prog.godebug = none := by kernel_rfl
theorem laidOut : laidOutB Try.prog = true := by kernel_rfl
theorem op3 : Opens Try.prog 3 (Kd.int .i64) (fun x => (Lit.int .i64 x).wf = true) := Opens.int Try.underlying3 (by kernel_rfl)
theorem op23 : Opens Try.prog 23 k23 (fun x : S23 => ((Lit.int .i64 x.f0).wf = true) ∧ (((Lit.int .i64 x.f1).wf = true) ∧ (((Lit.int .i64 x.f2).wf = true) ∧ (((Lit.int .i64 x.f3).wf = true) ∧ ((Lit.int .i64 x.f4).wf = true))))) := Opens.iso (fun x : S23 => (x.f0, x.f1, x.f2, x.f3, x.f4)) (fun x => ⟨x.1, x.2.1, x.2.2.1, x.2.2.2.1, x.2.2.2.2⟩) (fun _ => rfl) (Opens.struct Try.underlying23 (by kernel_rfl) (FOpens.cons op3 rfl (FOpens.cons op3 rfl (FOpens.cons op3 rfl (FOpens.cons op3 rfl (FOpens.one op3 rfl))))))
theorem op25 : Opens Try.prog 25 k25 (fun x : S25 => ((Lit.int .i64 x.f0).wf = true) ∧ (((Lit.int .i64 x.f1).wf = true) ∧ ((Lit.int .i64 x.f2).wf = true))) := Opens.iso (fun x : S25 => (x.f0, x.f1, x.f2)) (fun x => ⟨x.1, x.2.1, x.2.2⟩) (fun _ => rfl) (Opens.struct Try.underlying25 (by kernel_rfl) (FOpens.cons op3 rfl (FOpens.cons op3 rfl (FOpens.one op3 rfl))))
theorem op34 : Opens Try.prog 34 (Kd.slice 25 k25) (fun x => ∀ x_ ∈ x, ((Lit.int .i64 x_.f0).wf = true) ∧ (((Lit.int .i64 x_.f1).wf = true) ∧ ((Lit.int .i64 x_.f2).wf = true))) := Opens.slice Try.underlying34 (by kernel_rfl) op25
theorem op35 : Opens Try.prog 35 (Kd.slice 3 (Kd.int .i64)) (fun x => ∀ x_ ∈ x, (Lit.int .i64 x_).wf = true) := Opens.slice Try.underlying35 (by kernel_rfl) op3
set_option maxRecDepth 100000 in
theorem lifted (os : Os) (started : os.Started) (H : Type) (enc : TypeId × Value → H) :
    ReturnsInHanded {} Try.checked os 4 .any (Rows.feePricesSpec.pre6 enc Try.prog Try.f4 Rows.feePricesRow.domain false) (Rows.feePricesSpec.post enc Try.prog Try.f4 false true false false) := by
  refine returnsInHanded_of_change_sized (C := Try.checked) own started (by kernel_rfl) Try.func4
    (ChangeSpec.witness6 (enc := enc) (C := Try.checked) false ⟨#[], #[.agg #[.int .i64 0, .int .i64 0, .int .i64 0, .int .i64 0, .int .i64 0], .slice none 0 0, .slice none 0 0], []⟩ 8 (by kernel_rfl) (by kernel_rfl) (by kernel_rfl) (by kernel_rfl)) ?_
  intro W base args ds gs before hval0 hW hcnd hsz0 _
  have hsz : (DataW.weightsEach Try.prog (Try.f4.params.toList ++ Rows.feePricesSpec.plain.varTypes Try.prog) (ds ++ gs)).all (· ≤ reachBytes) = true := hsz0
  have hval : ∀ (j : Nat) t v, Try.f4.params[j]? = some t → args[j]? = some v → Value.okWide Try.prog W .any base t v := hval0
  have hW' := hW
  obtain ⟨p, q, hA0, hV, rfl, hfz, hnd⟩ := hW
  have hA : DataW.TrodAll enc Try.prog W 0 (fun _ => true) true Try.f4.params.toList args.toList ds p := hA0
  rw [Try.params4] at hA hval hsz
  obtain ⟨v0, vs0, d0, ds0, p0, q0, hargs, rfl, rfl, h0, r0⟩ := trodAll_cons hA
  obtain ⟨v1, vs1, d1, ds1, p1, q1, rfl, rfl, rfl, h1, r1⟩ := trodAll_cons r0
  obtain ⟨v2, vs2, d2, ds2, p2, q2, rfl, rfl, rfl, h2, r2⟩ := trodAll_cons r1
  obtain ⟨rfl, rfl, rfl⟩ := trodAll_nil r2
  obtain rfl : args = #[v0, v1, v2] := by cases args; simp_all
  obtain ⟨rfl, rfl⟩ := trodVars_none hV
  obtain ⟨cs0, rfl, _⟩ := okWide_struct Try.underlying23 (hval 0 23 v0 rfl rfl)
  have k0 := h0
  have lt0 : ∀ x ∈ p0, x.block < W.heap.size := by obtain ⟨m, hm⟩ := k0; exact DataW.trod_lt m _ _ _ hm
  obtain ⟨y0, hK0, w0⟩ := (fun (z : DataW.Trod enc Try.prog W 0 (fun _ => true) true 23 _ d0 p0) => z.elim fun _ hf => op23.read hf) h0
  have e0 := k23_open hK0
  obtain rfl : cs0 = #[.int .i64 y0.f0, .int .i64 y0.f1, .int .i64 y0.f2, .int .i64 y0.f3, .int .i64 y0.f4] := by
    apply Array.toList_inj.1
    simpa [Value.cells] using e0
  clear e0
  obtain ⟨ad1, len1, cap1, rfl⟩ := okWide_slice Try.underlying34 (hval 1 34 v1 rfl rfl)
  have k1 := h1
  have lt1 : ∀ x ∈ p1, x.block < W.heap.size := by obtain ⟨m, hm⟩ := k1; exact DataW.trod_lt m _ _ _ hm
  obtain ⟨y1, hK1, w1⟩ := (fun (z : DataW.Trod enc Try.prog W 0 (fun _ => true) true 34 _ d1 p1) => z.elim fun _ hf => op34.read hf) h1
  obtain ⟨A1, c1, e1, hc1, hr1⟩ := hK1
  have e1' : [Value.slice ad1 len1 cap1] = [Value.slice A1 y1.length c1] := e1
  simp only [List.cons.injEq, Value.slice.injEq, and_true] at e1'
  obtain ⟨rfl, rfl, rfl⟩ := e1'
  clear e1
  obtain ⟨ad2, len2, cap2, rfl⟩ := okWide_slice Try.underlying35 (hval 2 35 v2 rfl rfl)
  have k2 := h2
  have lt2 : ∀ x ∈ p2, x.block < W.heap.size := by obtain ⟨m, hm⟩ := k2; exact DataW.trod_lt m _ _ _ hm
  obtain ⟨y2, hK2, w2⟩ := (fun (z : DataW.Trod enc Try.prog W 0 (fun _ => true) true 35 _ d2 p2) => z.elim fun _ hf => op35.read hf) h2
  obtain ⟨A2, c2, e2, hc2, hr2⟩ := hK2
  have e2' : [Value.slice ad2 len2 cap2] = [Value.slice A2 y2.length c2] := e2
  simp only [List.cons.injEq, Value.slice.injEq, and_true] at e2'
  obtain ⟨rfl, rfl, rfl⟩ := e2'
  clear e2
  clear hA0 hval0 hsz0 hsz
  obtain ⟨K, hp⟩ := FeePrices_pure y0.f0 y0.f1 y0.f2 y0.f3 y0.f4 y1 y2 w0 w1 w2
  refine (lw_FeePrices.calls K y0.f0 y0.f1 y0.f2 y0.f3 y0.f4 _ _ y1 _ _ y2 true W hr1 hc1 hr2 hc2 hp).mono fun e W' ⟨he, bel⟩ => ?_
  subst he
  exact ⟨_, rfl, _, _, _, [], _, [], hW', trodAll_mk1 (shut_bool Try.underlying4 _), (trodAll_cons_mk (Below.trod laidOut (by kernel_rfl) (of_decide_eq_true (by kernel_rfl)) k0 bel lt0) (trodAll_cons_mk (Below.trod laidOut (by kernel_rfl) (of_decide_eq_true (by kernel_rfl)) k1 bel lt1) (trodAll_cons_mk (Below.trod laidOut (by kernel_rfl) (of_decide_eq_true (by kernel_rfl)) k2 bel lt2) trodAll_mk0))), rfl, bel.frame _, fun h => by cases h⟩
theorem over : Rows.feePricesRow.holds Try.pinned (OpenSpec.ofChange Rows.feePricesSpec) :=
  OpenClaim.holds_of_wide 4 Try.f4 rfl rfl rfl rfl rfl rfl rfl ⟨rfl, rfl, rfl, rfl, rfl⟩ rfl rfl rfl rfl rfl (by kernel_rfl) Try.func4 (by kernel_rfl)
    (of_decide_eq_true (by kernel_rfl)) (by unfold Func.isWrapper; first | (rw [if_pos (by decide +kernel)]; kernel_rfl) | (rw [if_neg (by decide +kernel)]; exact ⟨rfl, rfl⟩))
    (fun os started H enc _ => lifted os started H enc)
theorem proved : Rows.FeePricesSaid := over
#print axioms proved
end Go.Proofs.Ytdlekcdedahbhaa.feePrices
namespace Go.Proofs.Ytdlekcdedahbhaa
/-- The row, under a short name, for the claim. -/
theorem feePrices_holds : Rows.FeePricesSaid := feePrices.proved
end Go.Proofs.Ytdlekcdedahbhaa
