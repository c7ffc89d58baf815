import Derived.Test.YtbiaakkmmkddfaaRows
import Derived.Test.YtbiaakkmmkddfaaPFnExactPutFramesx4
import Derived.Test.YtbiaakkmmkddfaaPureFnExactPutFrames
import Derived.Test.YtbiaakkmmkddfaaXOpen
import Derived.WalkKit
import Derived.ProofKit
import Derived.OpenShut
import Derived.ShutString
import Derived.ChangeOld
import Derived.Below
import Derived.SizedLaws
namespace Go.Proofs.Ytbiaakkmmkddfaa.fnExactPutFrames
open Go.ChangeShapes Go.WideShapes Go.ChangeAt Go.RowKit Go.Proofs.Ytbiaakkmmkddfaa.PFnExactPutFrames Go.Proofs.YtbiaakkmmkddfaaW.PrintWords Go.Proofs.YtbiaakkmmkddfaaW.XOpen
open Go.ChangeMaps (open_string shut_string)
set_option linter.unusedVariables false
theorem own : ownKnob Try.prog.godebug = none := by kernel_rfl
theorem laidOut : laidOutB Try.prog = true := by kernel_rfl
theorem opens3 : Opens Try.prog 3 (Kd.int .i64) (fun n => (Lit.int .i64 n).wf = true) := opens_int Try.underlying3
theorem opens9 : Opens Try.prog 9 Kd.string (fun s => s.size ≤ 140737488351232) := opens_string Try.underlying9
def wf23 (x_ : S23) : Prop := (fun n => (Lit.int .i64 n).wf = true) (x_.f0) ∧ (fun s : ByteArray => s.size ≤ 140737488351232) (x_.f1)
theorem opens23 : Opens Try.prog 23 k23 wf23 := opens_mono (opens_iso (g := fun y_ => (⟨y_.1, y_.2⟩ : S23)) (opens_struct Try.underlying23 (opensL_cons opens3 rfl (by kernel_rfl) (opensL_one opens9 rfl (by kernel_rfl))) (by kernel_rfl)) (fun _ => rfl)) (fun _ h_ => h_)
theorem opens38 : Opens Try.prog 38 (Kd.slice 23 k23) (fun xs => xs.length ≤ maxLen ∧ xs.length * 24 ≤ 140737488351232 ∧ ∀ x ∈ xs, wf23 x) := opens_slice Try.underlying38 opens23 (by kernel_rfl) (by kernel_rfl)
set_option maxRecDepth 100000 in
theorem lifted (os : Os) (started : os.Started) (H : Type) (enc : TypeId × Value → H) :
    ReturnsInHanded {} Try.checked os 9 .any (Rows.fnExactPutFramesSpec.pre6 enc Try.prog Try.f9 Rows.fnExactPutFramesRow.domain false) (Rows.fnExactPutFramesSpec.post enc Try.prog Try.f9 false true false false) := by
  refine returnsInHanded_of_change_sized (C := Try.checked) own started (by kernel_rfl) Try.func9
    (ChangeSpec.witness6 (enc := enc) (C := Try.checked) false ⟨#[], #[.slice none 0 0], []⟩ 8 (by kernel_rfl) (by kernel_rfl) (by kernel_rfl) (by kernel_rfl)) ?_
  intro W base args ds gs before hval0 hW hcnd hsz0 _
  have hsz : (DataW.weightsEach Try.prog (Try.f9.params.toList ++ Rows.fnExactPutFramesSpec.plain.varTypes Try.prog) (ds ++ gs)).all (· ≤ reachBytes) = true := hsz0
  have hval : ∀ (j : Nat) t v, Try.f9.params[j]? = some t → args[j]? = some v → Value.okWide Try.prog W .any base t v := hval0
  have hW' := hW
  obtain ⟨p, q, hA0, hV, rfl, hfz, hnd⟩ := hW
  have hA : DataW.TrodAll enc Try.prog W 0 (fun _ => true) true Try.f9.params.toList args.toList ds p := hA0
  rw [Try.params9] at hA hval hsz
  obtain ⟨v0, vs0, d0, ds0, p0, q0, hargs, rfl, rfl, h0, r0⟩ := trodAll_cons hA
  obtain ⟨rfl, rfl, rfl⟩ := trodAll_nil r0
  obtain rfl : args = #[v0] := by cases args; simp_all
  obtain ⟨rfl, rfl⟩ := trodVars_none hV
  have k0 := h0
  have lt0 : ∀ x ∈ p0, x.block < W.heap.size := by obtain ⟨m, hm⟩ := k0; exact DataW.trod_lt m _ _ _ hm
  obtain ⟨a0, len0, cap0, rfl⟩ := okWide_slice Try.underlying38 (hval 0 38 v0 rfl rfl)
  obtain ⟨y0, ⟨A0, c0, e0, lc0, C0⟩, w0⟩ : ∃ y, ((Kd.slice 23 k23)).K W y [.slice a0 len0 cap0] ∧ (fun xs : List (S23) => xs.length ≤ maxLen ∧ xs.length * 24 ≤ 140737488351232 ∧ ∀ x ∈ xs, wf23 x) y := by obtain ⟨fuel, hf⟩ := h0; exact opens38 hf (fun m hm => of_decide_eq_true (List.all_eq_true.1 hsz m (DataW.weights_mem_each (j := 0) (t := 38) rfl rfl m hm)))
  injection e0 with e0 _
  injection e0 with e0a e0b e0c
  subst e0a e0b e0c
  clear hA0 hval0 hsz0 hsz
  obtain ⟨k, hk⟩ := Pure.FnExactPutFrames y0 w0.1 w0.2.1 (fun x_ hx_ => ⟨(w0.2.2 x_ hx_).1, (w0.2.2 x_ hx_).2⟩)
  refine (PFnExactPutFrames.laws_FnExactPutFrames.calls k _ _ y0 true rfl W C0 lc0 hk).mono fun e W' ⟨he, bel⟩ => ?_
  subst he
  exact ⟨_, rfl, _, _, _, [], _, [], hW', trodAll_mk1 (shut_bool Try.underlying4 _), (trodAll_cons_mk (Below.trod laidOut (by kernel_rfl) (of_decide_eq_true (by kernel_rfl)) k0 bel lt0) trodAll_mk0), rfl, bel.frame _, fun h => by cases h⟩
theorem over : Rows.fnExactPutFramesRow.holds Try.pinned (OpenSpec.ofChange Rows.fnExactPutFramesSpec) :=
  OpenClaim.holds_of_wide 9 Try.f9 rfl rfl rfl rfl rfl rfl rfl ⟨rfl, rfl, rfl, rfl, rfl⟩ rfl rfl rfl rfl rfl (by kernel_rfl) Try.func9 (by kernel_rfl)
    (of_decide_eq_true (by kernel_rfl)) (by unfold Func.isWrapper; first | (rw [if_pos (by decide +kernel)]; kernel_rfl) | (rw [if_neg (by decide +kernel)]; exact ⟨rfl, rfl⟩))
    (fun os started H enc _ => lifted os started H enc)
theorem proved : Rows.FnExactPutFramesSaid := over
#print axioms proved
end Go.Proofs.Ytbiaakkmmkddfaa.fnExactPutFrames
namespace Go.Proofs.Ytbiaakkmmkddfaa
/-- The row, under a short name, for the claim. -/
theorem fnExactPutFrames_holds : Rows.FnExactPutFramesSaid := fnExactPutFrames.proved
end Go.Proofs.Ytbiaakkmmkddfaa
