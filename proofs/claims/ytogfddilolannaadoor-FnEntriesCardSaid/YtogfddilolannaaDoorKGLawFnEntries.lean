/- The law FnEntries: for all arguments it returns true. No condition. -/
import Derived.Test.YtogfddilolannaaDoorRows
import Derived.Test.YtogfddilolannaaDoorKC
import Derived.Test.YtogfddilolannaaDoorGKD
import Derived.Test.YtogfddilolannaaDoorGKP
import Derived.WalkKit
import Derived.ProofKit
import Derived.OpenShut
import Derived.ShutString
import Derived.ChangeOld
import Derived.Below
import Derived.SizedLaws
import Derived.Test.YtogfddilolannaaDoorWSized
import Derived.Handed
import Derived.LaidMore
import Derived.LaidSub
import Derived.Lib.LaidTab
import Derived.Lay
import Derived.SevenTiedAt
import Derived.OpenVars
import Derived.Test.YtogfddilolannaaDoorCards
import Derived.Test.YtogfddilolannaaDoorTie
namespace Go.Proofs.YtogfddilolannaaDoor.fnEntries
open Go.ChangeShapes Go.WideShapes Go.ChangeAt Go.RowKit Go.I
open Go.ChangeMaps (open_string shut_string)
set_option linter.unusedVariables false
theorem own : ownKnob Tryd.prog.godebug = none := by kernel_rfl
theorem laidOut : laidOutB Tryd.prog = true := by kernel_rfl
def wf5 (x : Int) : Prop := (Lit.int .u8 x).wf = true
theorem o5 : OpI (B := tab) Tryd.prog 5 0 (fun x : Int => [.lit (.int .u8 x)]) wf5 := opI_int Tryd.underlying5
def wf29 (x : (List Int)) : Prop := (x.length ≤ maxLen ∧ x.length * 1 ≤ 140737488351232 ∧ ∀ x_ ∈ x, wf5 x_)
theorem o29 : OpI (B := tab) Tryd.prog 29 1 (fun x : List Int => [.own 5 x]) wf29 := opI_slice (B := tab) (e := 5) (wf := wf5) Tryd.underlying29 o5 (by kernel_rfl) (by kernel_rfl) (by decide)
theorem glob {W : World} (h : laidMetH Tryd.prog Rows.fnEntriesRow.laid W) : (∀ b, tab.gb b → b < W.heap.size) ∧ tab.glob W := ⟨fun b hb => hb.elim, trivial⟩
set_option maxRecDepth 100000 in
set_option maxHeartbeats 4000000 in
theorem walk {W : World} (hgl : (∀ b, tab.gb b → b < W.heap.size) ∧ tab.glob W) (y0 : List Int) (a0 : Option Addr) (len0 cap0 : Nat) (K0 : LsI (B := tab) (Imm W (okW W) 1) [.own 5 y0] [.slice a0 len0 cap0]) (w0 : wf29 y0) : Calls Tryd.prog 5 #[.slice a0 len0 cap0] W fun e w' => e = .returned (.bool true) ∧ Below W.heap.size W w' := by
  have A0 := argV_own (B := tab) K0
  obtain ⟨k, hk⟩ := Go.I.FnEntries_lawW y0 w0
  have hG := Go.I.laws_FnEntries.le std rfl k y0 true hk
  exact law_calls (B := tab) (M := M) (F := F) tabP funOK conOK (w := W) (f := 5) (fi := fi5) rfl rfl (As := [argV (.one (.imm 5 y0)) (.slice a0 len0 cap0) [(.imm 5 y0, .slice a0 len0 cap0)]]) (by intro B hB; simp only [List.mem_cons, List.mem_nil_iff, or_false] at hB; subst hB; exact A0) hgl hG
set_option maxRecDepth 100000 in
theorem lifted (os : Os) (started : os.Started) (H : Type) (enc : TypeId × Value → H) :
    ReturnsInHanded {} Tryd.checked os 5 .any (fun w args => (Rows.fnEntriesSpec.pre enc Tryd.prog Tryd.f5 Rows.fnEntriesRow.domain false w args ∧ laidMetH Tryd.prog Rows.fnEntriesRow.laid w) ∧ sizedMet enc Tryd.prog Tryd.f5 (OpenSpec.ofChange Rows.fnEntriesSpec) false w args) (Rows.fnEntriesSpec.post enc Tryd.prog Tryd.f5 false true false false) := by
  refine returnsInHanded_of_change_and (C := Tryd.checked) (X := fun w _ => laidMetH Tryd.prog Rows.fnEntriesRow.laid w) (fun _ _ _ hh h => h.of_heap hh) own started (by kernel_rfl) Tryd.func5
    (ChangeSpec.witness_shaped (enc := enc) (C := Tryd.checked) (os := os) (X := fun w _ => laidMetH Tryd.prog Rows.fnEntriesRow.laid w) false (World.laidAll Tryd.prog os Rows.fnEntriesRow.laid) #[.slice none 0 0] 8 (World.laidAll_os _ _ _)
      (World.shaped_of_ZipB (by kernel_rfl) (by kernel_rfl)) (by kernel_rfl) (by kernel_rfl) (by kernel_rfl)
      (by rw [MakeChecks.laidMetH_plain _ _ _ (by kernel_rfl)]; exact laidMet_laidAll _ (by kernel_rfl) (by kernel_rfl))) ?_
  intro W base args ds gs before hval0 hW hcnd hsz0 hX _
  have hsz : (DataW.weightsEach Tryd.prog (Tryd.f5.params.toList ++ Rows.fnEntriesSpec.plain.varTypes Tryd.prog) (ds ++ gs)).all (· ≤ reachBytes) = true := hsz0
  have hval : ∀ (j : Nat) t v, Tryd.f5.params[j]? = some t → args[j]? = some v → Value.okWide Tryd.prog W .any base t v := hval0
  have hW' := hW
  obtain ⟨p, q, hA0, hV, rfl, hfz, hnd⟩ := hW
  have hA : DataW.TrodAll enc Tryd.prog W 0 (fun _ => true) true Tryd.f5.params.toList args.toList ds p := hA0
  rw [Tryd.params5] at hA hval hsz
  obtain ⟨v0, vs0, d0, ds0, p0, q0, hargs, rfl, rfl, h0, r0⟩ := trodAll_cons hA
  obtain ⟨rfl, rfl, rfl⟩ := trodAll_nil r0
  obtain rfl : args = #[v0] := by cases args; simp_all
  obtain ⟨rfl, rfl⟩ := trodVars_none hV
  have k0 := h0
  have lt0 : ∀ x ∈ p0, x.block < W.heap.size := by obtain ⟨m, hm⟩ := k0; exact DataW.trod_lt m _ _ _ hm
  obtain ⟨a0, len0, cap0, rfl⟩ := okWide_slice Tryd.underlying29 (hval 0 29 v0 rfl rfl)
  obtain ⟨y0, K0, w0⟩ : ∃ y : List Int, LsI (B := tab) (Imm W (okW W) 1) [.own 5 y] [.slice a0 len0 cap0] ∧ wf29 y := by obtain ⟨fuel, hf⟩ := h0; exact o29 hf (fun m hm => of_decide_eq_true (List.all_eq_true.1 hsz m (DataW.weights_mem_each (j := 0) (t := 29) rfl rfl m hm)))
  clear hA0 hval0 hsz0 hsz
  have hcall := walk (W := W) (glob hX) y0 _ _ _ K0 w0
  refine hcall.mono fun e W' ⟨he, bel⟩ => ?_
  subst he
  exact ⟨_, rfl, _, _, _, [], _, [], hW', trodAll_mk1 (shut_bool Tryd.underlying4 _), (trodAll_cons_mk (Below.trod laidOut (by kernel_rfl) (of_decide_eq_true (by kernel_rfl)) k0 bel lt0) trodAll_mk0), rfl, bel.frame _, fun h => by cases h⟩
theorem over : Rows.fnEntriesRow.holds Tryd.pinned (OpenSpec.ofChange Rows.fnEntriesSpec) :=
  OpenClaim.holds_of_wide 5 Tryd.f5 rfl rfl rfl rfl rfl rfl rfl ⟨rfl, rfl, rfl, rfl, rfl⟩ rfl rfl rfl rfl rfl (by kernel_rfl) Tryd.func5 (by kernel_rfl)
    (of_decide_eq_true (by kernel_rfl)) (by unfold Func.isWrapper; first | (rw [if_pos (by decide +kernel)]; kernel_rfl) | (rw [if_neg (by decide +kernel)]; exact ⟨rfl, rfl⟩))
    (fun os started H enc _ => lifted os started H enc)
theorem card : Rows.FnEntriesCardSaid :=
  Claim7.holds_tied_plain_at .later [] [.data, .pinned] true (true, "bcfba9008404a3e128d7caa0b819f38335f1f819ca607ba202aab1b27b9759c5") true over (fun _ h => by cases h) (by kernel_rfl) (fun _ h => by cases h) fnEntries_row_tie rfl ⟨rfl, rfl⟩ (by kernel_rfl) rfl
    (fun f fn hf hfn => by
      obtain rfl : f = 5 := Option.some.inj ((show Tryd.prog.funcNamed "loop.example/g00100/laws.FnEntries" = some 5 by kernel_rfl).symm.trans hf) |>.symm
      obtain rfl : fn = Tryd.f5 := (Option.some.inj (Tryd.func5.symm.trans hfn)).symm
      exact ⟨by kernel_rfl, fun j t ht => by
        have hm : t ∈ Tryd.f5.params.toList := by simpa using Array.mem_of_getElem? ht
        have hall : (Tryd.f5.params.toList.all fun u => !Tryd.prog.wantsStandIn u) = true := by kernel_rfl
        exact (show Tryd.prog.wantsStandIn t = false by simpa using List.all_eq_true.1 hall t hm)⟩)
    (by kernel_rfl)
#print axioms card
end Go.Proofs.YtogfddilolannaaDoor.fnEntries
namespace Go.Proofs.YtogfddilolannaaDoor
/-- The card, under a short name, for the claim. -/
theorem fnEntries_holds : Rows.FnEntriesCardSaid := fnEntries.card
end Go.Proofs.YtogfddilolannaaDoor
