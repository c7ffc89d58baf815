import Derived.Test.YtbiaakkmmkddfaaRows
import Derived.Test.YtbiaakkmmkddfaaPFnExactReaderPushx6
import Derived.Test.YtbiaakkmmkddfaaPureFnExactReaderPush
import Derived.Test.YtbiaakkmmkddfaaXOpen
import Derived.WalkKit
import Derived.ProofKit
import Derived.OpenShut
import Derived.ShutString
import Derived.ChangeOld
import Derived.Below
import Derived.SizedLaws
namespace Go.Proofs.Ytbiaakkmmkddfaa.fnExactReaderPush
open Go.ChangeShapes Go.WideShapes Go.ChangeAt Go.RowKit Go.Proofs.Ytbiaakkmmkddfaa.PFnExactReaderPush Go.Proofs.YtbiaakkmmkddfaaW.PrintWords Go.Proofs.YtbiaakkmmkddfaaW.XOpen
open Go.ChangeMaps (open_string shut_string)
set_option linter.unusedVariables false
theorem own : ownKnob Try.prog.godebug = none := by kernel_rfl
theorem laidOut : laidOutB Try.prog = true := by kernel_rfl
theorem opens9 : Opens Try.prog 9 Kd.string (fun s => s.size ≤ 140737488351232) := opens_string Try.underlying9
theorem opens3 : Opens Try.prog 3 (Kd.int .i64) (fun n => (Lit.int .i64 n).wf = true) := opens_int Try.underlying3
def wf23 (x_ : S23) : Prop := (fun n => (Lit.int .i64 n).wf = true) (x_.f0) ∧ (fun s : ByteArray => s.size ≤ 140737488351232) (x_.f1)
theorem opens23 : Opens Try.prog 23 k23 wf23 := opens_mono (opens_iso (g := fun y_ => (⟨y_.1, y_.2⟩ : S23)) (opens_struct Try.underlying23 (opensL_cons opens3 rfl (by kernel_rfl) (opensL_one opens9 rfl (by kernel_rfl))) (by kernel_rfl)) (fun _ => rfl)) (fun _ h_ => h_)
theorem opens38 : Opens Try.prog 38 (Kd.slice 23 k23) (fun xs => xs.length ≤ maxLen ∧ xs.length * 24 ≤ 140737488351232 ∧ ∀ x ∈ xs, wf23 x) := opens_slice Try.underlying38 opens23 (by kernel_rfl) (by kernel_rfl)
theorem opens4 : Opens Try.prog 4 Kd.bool (fun _ => True) := opens_bool Try.underlying4
def wf59 (x_ : S59) : Prop := (fun s : ByteArray => s.size ≤ 140737488351232) (x_.f0) ∧ (fun xs : List (S23) => xs.length ≤ maxLen ∧ xs.length * 24 ≤ 140737488351232 ∧ ∀ x ∈ xs, wf23 x) (x_.f1) ∧ (fun _ : Bool => True) (x_.f2)
theorem opens59 : Opens Try.prog 59 k59 wf59 := opens_mono (opens_iso (g := fun y_ => (⟨y_.1, y_.2.1, y_.2.2⟩ : S59)) (opens_struct Try.underlying59 (opensL_cons opens9 rfl (by kernel_rfl) (opensL_cons opens38 rfl (by kernel_rfl) (opensL_one opens4 rfl (by kernel_rfl)))) (by kernel_rfl)) (fun _ => rfl)) (fun _ h_ => h_)
theorem opens5 : Opens Try.prog 5 (Kd.int .u8) (fun n => (Lit.int .u8 n).wf = true) := opens_int Try.underlying5
theorem opens29 : Opens Try.prog 29 (Kd.slice 5 (Kd.int .u8)) (fun xs => xs.length ≤ maxLen ∧ xs.length * 1 ≤ 140737488351232 ∧ ∀ x ∈ xs, (fun n => (Lit.int .u8 n).wf = true) x) := opens_slice Try.underlying29 opens5 (by kernel_rfl) (by kernel_rfl)
set_option maxRecDepth 100000 in
theorem lifted (os : Os) (started : os.Started) (H : Type) (enc : TypeId × Value → H) :
    ReturnsInHanded {} Try.checked os 10 .any (Rows.fnExactReaderPushSpec.pre6 enc Try.prog Try.f10 Rows.fnExactReaderPushRow.domain false) (Rows.fnExactReaderPushSpec.post enc Try.prog Try.f10 false true false false) := by
  refine returnsInHanded_of_change_sized (C := Try.checked) own started (by kernel_rfl) Try.func10
    (ChangeSpec.witness6 (enc := enc) (C := Try.checked) false ⟨#[], #[.agg #[.string ByteArray.empty, .slice none 0 0, .bool false], .slice none 0 0], []⟩ 8 (by kernel_rfl) (by kernel_rfl) (by kernel_rfl) (by kernel_rfl)) ?_
  intro W base args ds gs before hval0 hW hcnd hsz0 _
  have hsz : (DataW.weightsEach Try.prog (Try.f10.params.toList ++ Rows.fnExactReaderPushSpec.plain.varTypes Try.prog) (ds ++ gs)).all (· ≤ reachBytes) = true := hsz0
  have hval : ∀ (j : Nat) t v, Try.f10.params[j]? = some t → args[j]? = some v → Value.okWide Try.prog W .any base t v := hval0
  have hW' := hW
  obtain ⟨p, q, hA0, hV, rfl, hfz, hnd⟩ := hW
  have hA : DataW.TrodAll enc Try.prog W 0 (fun _ => true) true Try.f10.params.toList args.toList ds p := hA0
  rw [Try.params10] at hA hval hsz
  obtain ⟨v0, vs0, d0, ds0, p0, q0, hargs, rfl, rfl, h0, r0⟩ := trodAll_cons hA
  obtain ⟨v1, vs1, d1, ds1, p1, q1, rfl, rfl, rfl, h1, r1⟩ := trodAll_cons r0
  obtain ⟨rfl, rfl, rfl⟩ := trodAll_nil r1
  obtain rfl : args = #[v0, v1] := by cases args; simp_all
  obtain ⟨rfl, rfl⟩ := trodVars_none hV
  have k0 := h0
  have lt0 : ∀ x ∈ p0, x.block < W.heap.size := by obtain ⟨m, hm⟩ := k0; exact DataW.trod_lt m _ _ _ hm
  obtain ⟨cs0, rfl, _⟩ := okWide_struct Try.underlying59 (hval 0 59 v0 rfl rfl)
  obtain ⟨y0, K0, w0⟩ : ∃ y, k59.K W y cs0.toList ∧ wf59 y := by obtain ⟨fuel, hf⟩ := h0; exact opens59 hf (fun m hm => of_decide_eq_true (List.all_eq_true.1 hsz m (DataW.weights_mem_each (j := 0) (t := 59) rfl rfl m hm)))
  obtain ⟨cs0⟩ := cs0
  obtain ⟨A0_1, c0_1, rfl, lc0_1, C0_1⟩ := k59_open K0
  have k1 := h1
  have lt1 : ∀ x ∈ p1, x.block < W.heap.size := by obtain ⟨m, hm⟩ := k1; exact DataW.trod_lt m _ _ _ hm
  obtain ⟨a1, len1, cap1, rfl⟩ := okWide_slice Try.underlying29 (hval 1 29 v1 rfl rfl)
  obtain ⟨y1, ⟨A1, c1, e1, lc1, C1⟩, w1⟩ : ∃ y, ((Kd.slice 5 (Kd.int .u8))).K W y [.slice a1 len1 cap1] ∧ (fun xs : List Int => xs.length ≤ maxLen ∧ xs.length * 1 ≤ 140737488351232 ∧ ∀ x ∈ xs, (fun n => (Lit.int .u8 n).wf = true) x) y := by obtain ⟨fuel, hf⟩ := h1; exact opens29 hf (fun m hm => of_decide_eq_true (List.all_eq_true.1 hsz m (DataW.weights_mem_each (j := 1) (t := 29) rfl rfl m hm)))
  injection e1 with e1 _
  injection e1 with e1a e1b e1c
  subst e1a e1b e1c
  clear hA0 hval0 hsz0 hsz
  obtain ⟨k, hk⟩ := Pure.FnExactReaderPush (y0.f0) (y0.f1) (y0.f2) y1 w0.1 w0.2.1.1 w0.2.1.2.1 (fun x_ hx_ => ⟨(w0.2.1.2.2 x_ hx_).1, (w0.2.1.2.2 x_ hx_).2⟩) w1.1 w1.2.1 (fun x_ hx_ => (w1.2.2 x_ hx_))
  refine (PFnExactReaderPush.laws_FnExactReaderPush.calls k (y0.f0) _ _ (y0.f1) (y0.f2) _ _ y1 true rfl W C0_1 lc0_1 C1 lc1 hk).mono fun e W' ⟨he, bel⟩ => ?_
  subst he
  exact ⟨_, rfl, _, _, _, [], _, [], hW', trodAll_mk1 (shut_bool Try.underlying4 _), (trodAll_cons_mk (Below.trod laidOut (by kernel_rfl) (of_decide_eq_true (by kernel_rfl)) k0 bel lt0) (trodAll_cons_mk (Below.trod laidOut (by kernel_rfl) (of_decide_eq_true (by kernel_rfl)) k1 bel lt1) trodAll_mk0)), rfl, bel.frame _, fun h => by cases h⟩
theorem over : Rows.fnExactReaderPushRow.holds Try.pinned (OpenSpec.ofChange Rows.fnExactReaderPushSpec) :=
  OpenClaim.holds_of_wide 10 Try.f10 rfl rfl rfl rfl rfl rfl rfl ⟨rfl, rfl, rfl, rfl, rfl⟩ rfl rfl rfl rfl rfl (by kernel_rfl) Try.func10 (by kernel_rfl)
    (of_decide_eq_true (by kernel_rfl)) (by unfold Func.isWrapper; first | (rw [if_pos (by decide +kernel)]; kernel_rfl) | (rw [if_neg (by decide +kernel)]; exact ⟨rfl, rfl⟩))
    (fun os started H enc _ => lifted os started H enc)
theorem proved : Rows.FnExactReaderPushSaid := over
#print axioms proved
end Go.Proofs.Ytbiaakkmmkddfaa.fnExactReaderPush
namespace Go.Proofs.Ytbiaakkmmkddfaa
/-- The row, under a short name, for the claim. -/
theorem fnExactReaderPush_holds : Rows.FnExactReaderPushSaid := fnExactReaderPush.proved
end Go.Proofs.Ytbiaakkmmkddfaa
