/- The law FnExactShowNode: for all arguments it returns true. No condition. -/
import Derived.Test.YtogfddilolannaaDoorRows
import Derived.Test.YtogfddilolannaaDoorKC
import Derived.Test.YtogfddilolannaaDoorKD
import Derived.Test.YtogfddilolannaaDoorKP
import Derived.WalkKit
import Derived.ProofKit
import Derived.OpenShut
import Derived.ShutString
import Derived.ChangeOld
import Derived.Below
import Derived.SizedLaws
import Derived.Test.YtogfddilolannaaDoorWSized
import Derived.Handed
import Derived.LaidMore
import Derived.LaidSub
import Derived.Lib.LaidTab
import Derived.Lay
import Derived.SevenTiedAt
import Derived.OpenVars
import Derived.Test.YtogfddilolannaaDoorCards
import Derived.Test.YtogfddilolannaaDoorTie
namespace Go.Proofs.YtogfddilolannaaDoor.fnExactShowNode
open Go.ChangeShapes Go.WideShapes Go.ChangeAt Go.RowKit Go.I
open Go.ChangeMaps (open_string shut_string)
set_option linter.unusedVariables false
theorem own : ownKnob Tryd.prog.godebug = none := by kernel_rfl
theorem laidOut : laidOutB Tryd.prog = true := by kernel_rfl
def wf9 (x : ByteArray) : Prop := x.size ≤ 140737488351232
theorem o9 : OpI (B := tab) Tryd.prog 9 0 (fun x : ByteArray => [.lit (.string x)]) wf9 := opI_str Tryd.underlying9
def wf3 (x : Int) : Prop := (Lit.int .i64 x).wf = true
theorem o3 : OpI (B := tab) Tryd.prog 3 0 (fun x : Int => [.lit (.int .i64 x)]) wf3 := opI_int Tryd.underlying3
def wf23 (x : GNode) : Prop := x.Path.size ≤ 140737488351232 ∧ (Lit.int .i64 x.Kind).wf = true ∧ (Lit.int .i64 x.Mode).wf = true ∧ (Lit.int .i64 x.Time).wf = true ∧ x.Data.size ≤ 140737488351232 ∧ x.Target.size ≤ 140737488351232 ∧ (Lit.int .i64 x.Group).wf = true
theorem o23 : OpI (B := tab) Tryd.prog 23 0 (fun x : GNode => [.lit (.string x.Path), .lit (.int .i64 x.Kind), .lit (.int .i64 x.Mode), .lit (.int .i64 x.Time), .lit (.string x.Data), .lit (.string x.Target), .lit (.int .i64 x.Group)]) wf23 := opI_iso (g := fun y : (ByteArray) × (Int) × (Int) × (Int) × (ByteArray) × (ByteArray) × (Int) => (⟨y.1, y.2.1, y.2.2.1, y.2.2.2.1, y.2.2.2.2.1, y.2.2.2.2.2.1, y.2.2.2.2.2.2⟩ : GNode)) (opI_struct (D := 0) Tryd.underlying23 (opL_cons (D := 0) (Df := 0) (sz := 1) o9 rfl (by kernel_rfl) (by decide) (opL_cons (D := 0) (Df := 0) (sz := 1) o3 rfl (by kernel_rfl) (by decide) (opL_cons (D := 0) (Df := 0) (sz := 1) o3 rfl (by kernel_rfl) (by decide) (opL_cons (D := 0) (Df := 0) (sz := 1) o3 rfl (by kernel_rfl) (by decide) (opL_cons (D := 0) (Df := 0) (sz := 1) o9 rfl (by kernel_rfl) (by decide) (opL_cons (D := 0) (Df := 0) (sz := 1) o9 rfl (by kernel_rfl) (by decide) (opL_one (D := 0) (Df := 0) (sz := 1) o3 rfl (by kernel_rfl) (by decide)))))))) (by kernel_rfl)) (fun _ => rfl) (fun _ h => h)
theorem glob1 {W : World} (h : laidMetH Tryd.prog Rows.fnExactShowNodeRow.laid W) : Lib.TabIs Tryd.prog W "internal/strconv.uint64pow10" .u64 Lib.pow10Tab ∧ 5 < W.heap.size := by
  have h1 := h.filter (fun x => x.1 == "internal/strconv.uint64pow10")
  rw [show (Rows.fnExactShowNodeRow.laid.filter (fun x => x.1 == "internal/strconv.uint64pow10") : List (String × DataW Unit)) = [("internal/strconv.uint64pow10", Lib.tabData .u64 Lib.pow10Tab)] by rfl, MakeChecks.laidMetH_plain _ _ _ (by kernel_rfl)] at h1
  have ht := Lib.tabIs_of_head (P := Tryd.prog) (g := 5) (t := 172) (e := 157) (n := 20) (by kernel_rfl) (by kernel_rfl) (by kernel_rfl) (by kernel_rfl) (by kernel_rfl) (by kernel_rfl) h1
  exact ⟨ht, block_lt (ht.cell (by kernel_rfl) 0 (by decide))⟩
theorem glob {W : World} (h : laidMetH Tryd.prog Rows.fnExactShowNodeRow.laid W) : (∀ b, tab.gb b → b < W.heap.size) ∧ tab.glob W := ⟨fun b hb => by cases hb; exact (glob1 h).2, (glob1 h).1⟩
set_option maxRecDepth 100000 in
set_option maxHeartbeats 4000000 in
theorem walk {W : World} (hgl : (∀ b, tab.gb b → b < W.heap.size) ∧ tab.glob W) (y0 : GNode) (cs0 : List Value) (K0 : LsI (B := tab) (Imm W (okW W) 0) [.lit (.string y0.Path), .lit (.int .i64 y0.Kind), .lit (.int .i64 y0.Mode), .lit (.int .i64 y0.Time), .lit (.string y0.Data), .lit (.string y0.Target), .lit (.int .i64 y0.Group)] cs0) (w0 : wf23 y0) : Calls Tryd.prog 3 #[.agg cs0.toArray] W fun e w' => e = .returned (.bool true) ∧ Below W.heap.size W w' := by
  have A0 := argV_struct (B := tab) K0
  obtain ⟨k, hk⟩ := Go.I.showNode_law y0 w0
  have hG := Go.I.laws_FnExactShowNode.le std rfl k y0 true hk
  exact law_calls (B := tab) (M := M) (F := F) tabP funOK conOK (w := W) (f := 3) (fi := fi3) rfl rfl (As := [argV (.agg [.lit (.string y0.Path), .lit (.int .i64 y0.Kind), .lit (.int .i64 y0.Mode), .lit (.int .i64 y0.Time), .lit (.string y0.Data), .lit (.string y0.Target), .lit (.int .i64 y0.Group)]) (.agg cs0.toArray) (List.zip [.lit (.string y0.Path), .lit (.int .i64 y0.Kind), .lit (.int .i64 y0.Mode), .lit (.int .i64 y0.Time), .lit (.string y0.Data), .lit (.string y0.Target), .lit (.int .i64 y0.Group)] cs0)]) (by intro B hB; simp only [List.mem_cons, List.mem_nil_iff, or_false] at hB; subst hB; exact A0) hgl hG
set_option maxRecDepth 100000 in
theorem lifted (os : Os) (started : os.Started) (H : Type) (enc : TypeId × Value → H) :
    ReturnsInHanded {} Tryd.checked os 3 .any (fun w args => (Rows.fnExactShowNodeSpec.pre enc Tryd.prog Tryd.f3 Rows.fnExactShowNodeRow.domain false w args ∧ laidMetH Tryd.prog Rows.fnExactShowNodeRow.laid w) ∧ sizedMet enc Tryd.prog Tryd.f3 (OpenSpec.ofChange Rows.fnExactShowNodeSpec) false w args) (Rows.fnExactShowNodeSpec.post enc Tryd.prog Tryd.f3 false true false false) := by
  refine returnsInHanded_of_change_and (C := Tryd.checked) (X := fun w _ => laidMetH Tryd.prog Rows.fnExactShowNodeRow.laid w) (fun _ _ _ hh h => h.of_heap hh) own started (by kernel_rfl) Tryd.func3
    (ChangeSpec.witness_shaped (enc := enc) (C := Tryd.checked) (os := os) (X := fun w _ => laidMetH Tryd.prog Rows.fnExactShowNodeRow.laid w) false (World.laidAll Tryd.prog os Rows.fnExactShowNodeRow.laid) #[.agg #[.string ByteArray.empty, .int .i64 0, .int .i64 0, .int .i64 0, .string ByteArray.empty, .string ByteArray.empty, .int .i64 0]] 8 (World.laidAll_os _ _ _)
      (World.shaped_of_ZipB (by kernel_rfl) (by kernel_rfl)) (by kernel_rfl) (by kernel_rfl) (by kernel_rfl)
      (by rw [MakeChecks.laidMetH_plain _ _ _ (by kernel_rfl)]; exact laidMet_laidAll _ (by kernel_rfl) (by kernel_rfl))) ?_
  intro W base args ds gs before hval0 hW hcnd hsz0 hX _
  have hsz : (DataW.weightsEach Tryd.prog (Tryd.f3.params.toList ++ Rows.fnExactShowNodeSpec.plain.varTypes Tryd.prog) (ds ++ gs)).all (· ≤ reachBytes) = true := hsz0
  have hval : ∀ (j : Nat) t v, Tryd.f3.params[j]? = some t → args[j]? = some v → Value.okWide Tryd.prog W .any base t v := hval0
  have hW' := hW
  obtain ⟨p, q, hA0, hV, rfl, hfz, hnd⟩ := hW
  have hA : DataW.TrodAll enc Tryd.prog W 0 (fun _ => true) true Tryd.f3.params.toList args.toList ds p := hA0
  rw [Tryd.params3] at hA hval hsz
  obtain ⟨v0, vs0, d0, ds0, p0, q0, hargs, rfl, rfl, h0, r0⟩ := trodAll_cons hA
  obtain ⟨rfl, rfl, rfl⟩ := trodAll_nil r0
  obtain rfl : args = #[v0] := by cases args; simp_all
  obtain ⟨rfl, rfl⟩ := trodVars_none hV
  have k0 := h0
  have lt0 : ∀ x ∈ p0, x.block < W.heap.size := by obtain ⟨m, hm⟩ := k0; exact DataW.trod_lt m _ _ _ hm
  obtain ⟨cs0, rfl, _⟩ := okWide_struct Tryd.underlying23 (hval 0 23 v0 rfl rfl)
  obtain ⟨y0, K0, w0⟩ : ∃ y : GNode, LsI (B := tab) (Imm W (okW W) 0) [.lit (.string y.Path), .lit (.int .i64 y.Kind), .lit (.int .i64 y.Mode), .lit (.int .i64 y.Time), .lit (.string y.Data), .lit (.string y.Target), .lit (.int .i64 y.Group)] cs0.toList ∧ wf23 y := by obtain ⟨fuel, hf⟩ := h0; exact o23 hf (fun m hm => of_decide_eq_true (List.all_eq_true.1 hsz m (DataW.weights_mem_each (j := 0) (t := 23) rfl rfl m hm)))
  obtain ⟨cs0⟩ := cs0
  clear hA0 hval0 hsz0 hsz
  have hcall := walk (W := W) (glob hX) y0 _ K0 w0
  refine hcall.mono fun e W' ⟨he, bel⟩ => ?_
  subst he
  exact ⟨_, rfl, _, _, _, [], _, [], hW', trodAll_mk1 (shut_bool Tryd.underlying4 _), (trodAll_cons_mk (Below.trod laidOut (by kernel_rfl) (of_decide_eq_true (by kernel_rfl)) k0 bel lt0) trodAll_mk0), rfl, bel.frame _, fun h => by cases h⟩
theorem over : Rows.fnExactShowNodeRow.holds Tryd.pinned (OpenSpec.ofChange Rows.fnExactShowNodeSpec) :=
  OpenClaim.holds_of_wide 3 Tryd.f3 rfl rfl rfl rfl rfl rfl rfl ⟨rfl, rfl, rfl, rfl, rfl⟩ rfl rfl rfl rfl rfl (by kernel_rfl) Tryd.func3 (by kernel_rfl)
    (of_decide_eq_true (by kernel_rfl)) (by unfold Func.isWrapper; first | (rw [if_pos (by decide +kernel)]; kernel_rfl) | (rw [if_neg (by decide +kernel)]; exact ⟨rfl, rfl⟩))
    (fun os started H enc _ => lifted os started H enc)
theorem card : Rows.FnExactShowNodeCardSaid :=
  Claim7.holds_tied_plain_at .later [] [.data, .data, .data, .data, .pinned] true (true, "bcfba9008404a3e128d7caa0b819f38335f1f819ca607ba202aab1b27b9759c5") true over (fun _ h => by cases h) (by kernel_rfl) (fun _ h => by cases h) fnExactShowNode_row_tie rfl ⟨rfl, rfl⟩ (by kernel_rfl) rfl
    (fun f fn hf hfn => by
      obtain rfl : f = 3 := Option.some.inj ((show Tryd.prog.funcNamed "loop.example/g00100/laws.FnExactShowNode" = some 3 by kernel_rfl).symm.trans hf) |>.symm
      obtain rfl : fn = Tryd.f3 := (Option.some.inj (Tryd.func3.symm.trans hfn)).symm
      exact ⟨by kernel_rfl, fun j t ht => by
        have hm : t ∈ Tryd.f3.params.toList := by simpa using Array.mem_of_getElem? ht
        have hall : (Tryd.f3.params.toList.all fun u => !Tryd.prog.wantsStandIn u) = true := by kernel_rfl
        exact (show Tryd.prog.wantsStandIn t = false by simpa using List.all_eq_true.1 hall t hm)⟩)
    (by kernel_rfl)
#print axioms card
end Go.Proofs.YtogfddilolannaaDoor.fnExactShowNode
namespace Go.Proofs.YtogfddilolannaaDoor
/-- The card, under a short name, for the claim. -/
theorem fnExactShowNode_holds : Rows.FnExactShowNodeCardSaid := fnExactShowNode.card
end Go.Proofs.YtogfddilolannaaDoor
