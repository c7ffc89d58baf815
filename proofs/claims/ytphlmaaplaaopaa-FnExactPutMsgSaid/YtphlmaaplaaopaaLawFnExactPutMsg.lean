import Derived.Test.YtphlmaaplaaopaaRows
import Derived.Test.YtphlmaaplaaopaaPFnExactPutMsgx13
import Derived.Test.YtphlmaaplaaopaaPureFnExactPutMsg
import Derived.Test.YtphlmaaplaaopaaXOpen
import Derived.WalkKit
import Derived.ProofKit
import Derived.OpenShut
import Derived.ShutString
import Derived.ChangeOld
import Derived.Below
import Derived.SizedLaws
namespace Go.Proofs.Ytphlmaaplaaopaa.fnExactPutMsg
open Go.ChangeShapes Go.WideShapes Go.ChangeAt Go.RowKit Go.Proofs.Ytphlmaaplaaopaa.PFnExactPutMsg Go.Proofs.YtphlmaaplaaopaaW.PrintWords Go.Proofs.YtphlmaaplaaopaaW.XOpen
open Go.ChangeMaps (open_string shut_string)
set_option linter.unusedVariables false
theorem own : ownKnob Try.prog.godebug = none := by kernel_rfl
theorem laidOut : laidOutB Try.prog = true := by kernel_rfl
theorem opens3 : Opens Try.prog 3 (Kd.int .i64) (fun n => (Lit.int .i64 n).wf = true) := opens_int Try.underlying3
theorem opens38 : Opens Try.prog 38 (Kd.int .u32) (fun n => (Lit.int .u32 n).wf = true) := opens_int Try.underlying38
theorem opens22 : Opens Try.prog 22 (Kd.slice 38 (Kd.int .u32)) (fun xs => xs.length ≤ maxLen ∧ xs.length * 4 ≤ 140737488351232 ∧ ∀ x ∈ xs, (fun n => (Lit.int .u32 n).wf = true) x) := opens_slice Try.underlying22 opens38 (by kernel_rfl) (by kernel_rfl)
theorem opens9 : Opens Try.prog 9 Kd.string (fun s => s.size ≤ 140737488351232) := opens_string Try.underlying9
theorem opens23 : Opens Try.prog 23 (Kd.slice 9 Kd.string) (fun xs => xs.length ≤ maxLen ∧ xs.length * 16 ≤ 140737488351232 ∧ ∀ x ∈ xs, (fun s : ByteArray => s.size ≤ 140737488351232) x) := opens_slice Try.underlying23 opens9 (by kernel_rfl) (by kernel_rfl)
def wf25 (x_ : S25) : Prop := (fun n => (Lit.int .i64 n).wf = true) (x_.f0) ∧ (fun n => (Lit.int .i64 n).wf = true) (x_.f1) ∧ (fun xs : List Int => xs.length ≤ maxLen ∧ xs.length * 4 ≤ 140737488351232 ∧ ∀ x ∈ xs, (fun n => (Lit.int .u32 n).wf = true) x) (x_.f2) ∧ (fun xs : List ByteArray => xs.length ≤ maxLen ∧ xs.length * 16 ≤ 140737488351232 ∧ ∀ x ∈ xs, (fun s : ByteArray => s.size ≤ 140737488351232) x) (x_.f3)
theorem opens25 : Opens Try.prog 25 k25 wf25 := opens_mono (opens_iso (g := fun y_ => (⟨y_.1, y_.2.1, y_.2.2.1, y_.2.2.2⟩ : S25)) (opens_struct Try.underlying25 (opensL_cons opens3 rfl (by kernel_rfl) (opensL_cons opens3 rfl (by kernel_rfl) (opensL_cons opens22 rfl (by kernel_rfl) (opensL_one opens23 rfl (by kernel_rfl))))) (by kernel_rfl)) (fun _ => rfl)) (fun _ h_ => h_)
def wf101 (x_ : S101) : Prop := (fun n => (Lit.int .i64 n).wf = true) (x_.f0) ∧ (fun s : ByteArray => s.size ≤ 140737488351232) (x_.f1) ∧ (fun n => (Lit.int .i64 n).wf = true) (x_.f2) ∧ (fun n => (Lit.int .i64 n).wf = true) (x_.f3)
theorem opens101 : Opens Try.prog 101 k101 wf101 := opens_mono (opens_iso (g := fun y_ => (⟨y_.1, y_.2.1, y_.2.2.1, y_.2.2.2⟩ : S101)) (opens_struct Try.underlying101 (opensL_cons opens3 rfl (by kernel_rfl) (opensL_cons opens9 rfl (by kernel_rfl) (opensL_cons opens3 rfl (by kernel_rfl) (opensL_one opens3 rfl (by kernel_rfl))))) (by kernel_rfl)) (fun _ => rfl)) (fun _ h_ => h_)
theorem opens26 : Opens Try.prog 26 (Kd.slice 101 k101) (fun xs => xs.length ≤ maxLen ∧ xs.length * 40 ≤ 140737488351232 ∧ ∀ x ∈ xs, wf101 x) := opens_slice Try.underlying26 opens101 (by kernel_rfl) (by kernel_rfl)
def wf28 (x_ : S28) : Prop := (fun n => (Lit.int .i64 n).wf = true) (x_.f0) ∧ (fun n => (Lit.int .i64 n).wf = true) (x_.f1) ∧ wf25 (x_.f2) ∧ (fun xs : List (S101) => xs.length ≤ maxLen ∧ xs.length * 40 ≤ 140737488351232 ∧ ∀ x ∈ xs, wf101 x) (x_.f3) ∧ (fun s : ByteArray => s.size ≤ 140737488351232) (x_.f4)
theorem opens28 : Opens Try.prog 28 k28 wf28 := opens_mono (opens_iso (g := fun y_ => (⟨y_.1, y_.2.1, y_.2.2.1, y_.2.2.2.1, y_.2.2.2.2⟩ : S28)) (opens_struct Try.underlying28 (opensL_cons opens3 rfl (by kernel_rfl) (opensL_cons opens3 rfl (by kernel_rfl) (opensL_cons opens25 rfl (by kernel_rfl) (opensL_cons opens26 rfl (by kernel_rfl) (opensL_one opens9 rfl (by kernel_rfl)))))) (by kernel_rfl)) (fun _ => rfl)) (fun _ h_ => h_)
set_option maxRecDepth 100000 in
theorem lifted (os : Os) (started : os.Started) (H : Type) (enc : TypeId × Value → H) :
    ReturnsInHanded {} Try.checked os 5 .any (Rows.fnExactPutMsgSpec.pre6 enc Try.prog Try.f5 Rows.fnExactPutMsgRow.domain false) (Rows.fnExactPutMsgSpec.post enc Try.prog Try.f5 false true false false) := by
  refine returnsInHanded_of_change_sized (C := Try.checked) own started (by kernel_rfl) Try.func5
    (ChangeSpec.witness6 (enc := enc) (C := Try.checked) false ⟨#[], #[.agg #[.int .i64 0, .int .i64 0, .int .i64 0, .int .i64 0, .slice none 0 0, .slice none 0 0, .slice none 0 0, .string ByteArray.empty]], []⟩ 8 (by kernel_rfl) (by kernel_rfl) (by kernel_rfl) (by kernel_rfl)) ?_
  intro W base args ds gs before hval0 hW hcnd hsz0 _
  have hsz : (DataW.weightsEach Try.prog (Try.f5.params.toList ++ Rows.fnExactPutMsgSpec.plain.varTypes Try.prog) (ds ++ gs)).all (· ≤ reachBytes) = true := hsz0
  have hval : ∀ (j : Nat) t v, Try.f5.params[j]? = some t → args[j]? = some v → Value.okWide Try.prog W .any base t v := hval0
  have hW' := hW
  obtain ⟨p, q, hA0, hV, rfl, hfz, hnd⟩ := hW
  have hA : DataW.TrodAll enc Try.prog W 0 (fun _ => true) true Try.f5.params.toList args.toList ds p := hA0
  rw [Try.params5] at hA hval hsz
  obtain ⟨v0, vs0, d0, ds0, p0, q0, hargs, rfl, rfl, h0, r0⟩ := trodAll_cons hA
  obtain ⟨rfl, rfl, rfl⟩ := trodAll_nil r0
  obtain rfl : args = #[v0] := by cases args; simp_all
  obtain ⟨rfl, rfl⟩ := trodVars_none hV
  have k0 := h0
  have lt0 : ∀ x ∈ p0, x.block < W.heap.size := by obtain ⟨m, hm⟩ := k0; exact DataW.trod_lt m _ _ _ hm
  obtain ⟨cs0, rfl, _⟩ := okWide_struct Try.underlying28 (hval 0 28 v0 rfl rfl)
  obtain ⟨y0, K0, w0⟩ : ∃ y, k28.K W y cs0.toList ∧ wf28 y := by obtain ⟨fuel, hf⟩ := h0; exact opens28 hf (fun m hm => of_decide_eq_true (List.all_eq_true.1 hsz m (DataW.weights_mem_each (j := 0) (t := 28) rfl rfl m hm)))
  obtain ⟨cs0⟩ := cs0
  obtain ⟨A0_4, c0_4, A0_5, c0_5, A0_6, c0_6, rfl, lc0_4, C0_4, lc0_5, C0_5, lc0_6, C0_6⟩ := k28_open K0
  clear hA0 hval0 hsz0 hsz
  obtain ⟨k, hk⟩ := Pure.FnExactPutMsg (y0.f0) (y0.f1) (y0.f2.f0) (y0.f2.f1) (y0.f2.f2) (y0.f2.f3) (y0.f3) (y0.f4) w0.1 w0.2.1 w0.2.2.1.1 w0.2.2.1.2.1 w0.2.2.1.2.2.1.1 w0.2.2.1.2.2.1.2.1 (fun x_ hx_ => (w0.2.2.1.2.2.1.2.2 x_ hx_)) w0.2.2.1.2.2.2.1 w0.2.2.1.2.2.2.2.1 (fun x_ hx_ => (w0.2.2.1.2.2.2.2.2 x_ hx_)) w0.2.2.2.1.1 w0.2.2.2.1.2.1 (fun x_ hx_ => ⟨(w0.2.2.2.1.2.2 x_ hx_).1, (w0.2.2.2.1.2.2 x_ hx_).2.1, (w0.2.2.2.1.2.2 x_ hx_).2.2.1, (w0.2.2.2.1.2.2 x_ hx_).2.2.2⟩) w0.2.2.2.2
  refine (PFnExactPutMsg.laws_FnExactPutMsg.calls k (y0.f0) (y0.f1) (y0.f2.f0) (y0.f2.f1) _ _ (y0.f2.f2) _ _ (y0.f2.f3) _ _ (y0.f3) (y0.f4) true rfl W C0_4 lc0_4 C0_5 lc0_5 C0_6 lc0_6 hk).mono fun e W' ⟨he, bel⟩ => ?_
  subst he
  exact ⟨_, rfl, _, _, _, [], _, [], hW', trodAll_mk1 (shut_bool Try.underlying4 _), (trodAll_cons_mk (Below.trod laidOut (by kernel_rfl) (of_decide_eq_true (by kernel_rfl)) k0 bel lt0) trodAll_mk0), rfl, bel.frame _, fun h => by cases h⟩
theorem over : Rows.fnExactPutMsgRow.holds Try.pinned (OpenSpec.ofChange Rows.fnExactPutMsgSpec) :=
  OpenClaim.holds_of_wide 5 Try.f5 rfl rfl rfl rfl rfl rfl rfl ⟨rfl, rfl, rfl, rfl, rfl⟩ rfl rfl rfl rfl rfl (by kernel_rfl) Try.func5 (by kernel_rfl)
    (of_decide_eq_true (by kernel_rfl)) (by unfold Func.isWrapper; first | (rw [if_pos (by decide +kernel)]; kernel_rfl) | (rw [if_neg (by decide +kernel)]; exact ⟨rfl, rfl⟩))
    (fun os started H enc _ => lifted os started H enc)
theorem proved : Rows.FnExactPutMsgSaid := over
#print axioms proved
end Go.Proofs.Ytphlmaaplaaopaa.fnExactPutMsg
namespace Go.Proofs.Ytphlmaaplaaopaa
/-- The row, under a short name, for the claim. -/
theorem fnExactPutMsg_holds : Rows.FnExactPutMsgSaid := fnExactPutMsg.proved
end Go.Proofs.Ytphlmaaplaaopaa
