/- The law FnExactReadNode: for all arguments it returns true. No condition. -/
import Derived.Test.YtogfddilolannaaDoorRows
import Derived.Test.YtogfddilolannaaDoorKC
import Derived.Test.YtogfddilolannaaDoorEKD
import Derived.Test.YtogfddilolannaaDoorEKP
import Derived.WalkKit
import Derived.ProofKit
import Derived.OpenShut
import Derived.ShutString
import Derived.ChangeOld
import Derived.Below
import Derived.SizedLaws
import Derived.Test.YtogfddilolannaaDoorWSized
import Derived.Handed
import Derived.LaidMore
import Derived.LaidSub
import Derived.Lib.LaidTab
import Derived.Lay
import Derived.SevenTiedAt
import Derived.OpenVars
import Derived.Stop.LaidErr
import Derived.Test.YtogfddilolannaaDoorCards
import Derived.Test.YtogfddilolannaaDoorTie
namespace Go.Proofs.YtogfddilolannaaDoor.fnExactReadNode
open Go.ChangeShapes Go.WideShapes Go.ChangeAt Go.RowKit Go.I
open Go.ChangeMaps (open_string shut_string)
set_option linter.unusedVariables false
theorem own : ownKnob Tryd.prog.godebug = none := by kernel_rfl
theorem laidOut : laidOutB Tryd.prog = true := by kernel_rfl
def wf9 (x : ByteArray) : Prop := x.size ≤ 140737488351232
theorem o9 : OpI (B := tab) Tryd.prog 9 0 (fun x : ByteArray => [.lit (.string x)]) wf9 := opI_str Tryd.underlying9
theorem glob1 {W : World} (h : laidMetH Tryd.prog Rows.fnExactReadNodeRow.laid W) : Lib.TabIs Tryd.prog W "internal/strconv.uint64pow10" .u64 Lib.pow10Tab ∧ 5 < W.heap.size := by
  have h1 := h.filter (fun x => x.1 == "internal/strconv.uint64pow10")
  rw [show (Rows.fnExactReadNodeRow.laid.filter (fun x => x.1 == "internal/strconv.uint64pow10") : List (String × DataW Unit)) = [("internal/strconv.uint64pow10", Lib.tabData .u64 Lib.pow10Tab)] by rfl, MakeChecks.laidMetH_plain _ _ _ (by kernel_rfl)] at h1
  have ht := Lib.tabIs_of_head (P := Tryd.prog) (g := 5) (t := 172) (e := 157) (n := 20) (by kernel_rfl) (by kernel_rfl) (by kernel_rfl) (by kernel_rfl) (by kernel_rfl) (by kernel_rfl) h1
  exact ⟨ht, block_lt (ht.cell (by kernel_rfl) 0 (by decide))⟩
theorem star : "*" ++ "errors.errorString" = "*errors.errorString" := by decide
theorem rowErr (u : TypeId) (h : Tryd.prog.typeName? 3 u = some "*errors.errorString") : u = 177 :=
  typeName_ptr_named (nm := "errors.errorString") (by rw [star]; kernel_rfl) (by kernel_rfl) (by decide) u (by rw [star]; exact h)
theorem globS {W : World} (h : laidMetH Tryd.prog Rows.fnExactReadNodeRow.laid W) : ∃ ev, W.cell? ⟨3, 0, none⟩ = some ev ∧ (ev = .nilIface ∨ ∃ te pe, ev = .iface te pe) := by
  have h1 := h.filter (fun x => x.1 == "strconv.ErrSyntax")
  rw [show (Rows.fnExactReadNodeRow.laid.filter (fun x => x.1 == "strconv.ErrSyntax") : List (String × DataW Unit)) = [("strconv.ErrSyntax", Rows.laid_strconv_ErrSyntax)] by rfl, MakeChecks.laidMetH_plain _ _ _ (by kernel_rfl)] at h1
  have hg : Tryd.prog.globalNamed "strconv.ErrSyntax" = some 3 := by kernel_rfl
  obtain ⟨a, s, hv, -, -, -⟩ := laid_sentinel h1 hg (by kernel_rfl) Tryd.underlying84 rowErr Tryd.underlying177 Tryd.underlying179 rfl rfl Tryd.underlying9 (by kernel_rfl) (by kernel_rfl)
  exact ⟨_, by have h0 := World.var?_cell hg hv 0; simpa using h0, .inr ⟨_, _, rfl⟩⟩
theorem globR {W : World} (h : laidMetH Tryd.prog Rows.fnExactReadNodeRow.laid W) : ∃ ev, W.cell? ⟨4, 0, none⟩ = some ev ∧ (ev = .nilIface ∨ ∃ te pe, ev = .iface te pe) := by
  have h1 := h.filter (fun x => x.1 == "strconv.ErrRange")
  rw [show (Rows.fnExactReadNodeRow.laid.filter (fun x => x.1 == "strconv.ErrRange") : List (String × DataW Unit)) = [("strconv.ErrRange", Rows.laid_strconv_ErrRange)] by rfl, MakeChecks.laidMetH_plain _ _ _ (by kernel_rfl)] at h1
  have hg : Tryd.prog.globalNamed "strconv.ErrRange" = some 4 := by kernel_rfl
  obtain ⟨a, s, hv, -, -, -⟩ := laid_sentinel h1 hg (by kernel_rfl) Tryd.underlying84 rowErr Tryd.underlying177 Tryd.underlying179 rfl rfl Tryd.underlying9 (by kernel_rfl) (by kernel_rfl)
  exact ⟨_, by have h0 := World.var?_cell hg hv 0; simpa using h0, .inr ⟨_, _, rfl⟩⟩
theorem glob {W : World} (h : laidMetH Tryd.prog Rows.fnExactReadNodeRow.laid W) : (∀ b, tab.gb b → b < W.heap.size) ∧ tab.glob W := by
  have hS := globS h
  have hR := globR h
  obtain ⟨h1, h2⟩ := glob1 h
  refine ⟨fun b hb => ?_, h1, hS, hR⟩
  rcases hb with rfl | rfl | rfl
  · exact h2
  · obtain ⟨_, h, _⟩ := hS; exact block_lt h
  · obtain ⟨_, h, _⟩ := hR; exact block_lt h
set_option maxRecDepth 100000 in
set_option maxHeartbeats 4000000 in
theorem walk {W : World} (hgl : (∀ b, tab.gb b → b < W.heap.size) ∧ tab.glob W) (a0 : ByteArray) (w0 : a0.size ≤ 140737488351232) : Calls Tryd.prog 7 #[.string a0] W fun e w' => e = .returned (.bool true) ∧ Below W.heap.size W w' := by
  have A0 := argV_string (B := tab) (w := W) a0
  obtain ⟨k, hk⟩ := Go.I.readNode_law a0 w0
  have hG := Go.I.laws_FnExactReadNode.le std rfl k a0 true hk
  exact law_calls (B := tab) (M := M) (F := F) tabP funOK conOK (w := W) (f := 7) (fi := fi7) rfl rfl (As := [argV (.one (.lit (.string a0))) (.string a0) [(.lit (.string a0), .string a0)]]) (by intro B hB; simp only [List.mem_cons, List.mem_nil_iff, or_false] at hB; subst hB; exact A0) hgl hG
set_option maxRecDepth 100000 in
theorem lifted (os : Os) (started : os.Started) (H : Type) (enc : TypeId × Value → H) :
    ReturnsInHanded {} Tryd.checked os 7 .any (fun w args => (Rows.fnExactReadNodeSpec.pre enc Tryd.prog Tryd.f7 Rows.fnExactReadNodeRow.domain false w args ∧ laidMetH Tryd.prog Rows.fnExactReadNodeRow.laid w) ∧ sizedMet enc Tryd.prog Tryd.f7 (OpenSpec.ofChange Rows.fnExactReadNodeSpec) false w args) (Rows.fnExactReadNodeSpec.post enc Tryd.prog Tryd.f7 false true false false) := by
  refine returnsInHanded_of_change_and (C := Tryd.checked) (X := fun w _ => laidMetH Tryd.prog Rows.fnExactReadNodeRow.laid w) (fun _ _ _ hh h => h.of_heap hh) own started (by kernel_rfl) Tryd.func7
    (ChangeSpec.witness_shaped (enc := enc) (C := Tryd.checked) (os := os) (X := fun w _ => laidMetH Tryd.prog Rows.fnExactReadNodeRow.laid w) false (World.laidAll Tryd.prog os Rows.fnExactReadNodeRow.laid) #[.string ByteArray.empty] 8 (World.laidAll_os _ _ _)
      (World.shaped_of_ZipB (by kernel_rfl) (by kernel_rfl)) (by kernel_rfl) (by kernel_rfl) (by kernel_rfl)
      (by rw [MakeChecks.laidMetH_plain _ _ _ (by kernel_rfl)]; exact laidMet_laidAll _ (by kernel_rfl) (by kernel_rfl))) ?_
  intro W base args ds gs before hval0 hW hcnd hsz0 hX _
  have hsz : (DataW.weightsEach Tryd.prog (Tryd.f7.params.toList ++ Rows.fnExactReadNodeSpec.plain.varTypes Tryd.prog) (ds ++ gs)).all (· ≤ reachBytes) = true := hsz0
  have hval : ∀ (j : Nat) t v, Tryd.f7.params[j]? = some t → args[j]? = some v → Value.okWide Tryd.prog W .any base t v := hval0
  have hW' := hW
  obtain ⟨p, q, hA0, hV, rfl, hfz, hnd⟩ := hW
  have hA : DataW.TrodAll enc Tryd.prog W 0 (fun _ => true) true Tryd.f7.params.toList args.toList ds p := hA0
  rw [Tryd.params7] at hA hval hsz
  obtain ⟨v0, vs0, d0, ds0, p0, q0, hargs, rfl, rfl, h0, r0⟩ := trodAll_cons hA
  obtain ⟨rfl, rfl, rfl⟩ := trodAll_nil r0
  obtain rfl : args = #[v0] := by cases args; simp_all
  obtain ⟨rfl, rfl⟩ := trodVars_none hV
  have k0 := h0
  have lt0 : ∀ x ∈ p0, x.block < W.heap.size := by obtain ⟨m, hm⟩ := k0; exact DataW.trod_lt m _ _ _ hm
  obtain ⟨a0, rfl, rfl, rfl, _⟩ := open_string Tryd.underlying9 (hval 0 9 v0 rfl rfl) h0
  have w0 : a0.size ≤ 140737488351232 := by
    have z := sized_string hsz (j := 0) (t := 9) rfl rfl
    rw [Array.length_toList] at z
    exact z
  clear hA0 hval0 hsz0 hsz
  have hcall := walk (W := W) (glob hX) a0 w0
  refine hcall.mono fun e W' ⟨he, bel⟩ => ?_
  subst he
  exact ⟨_, rfl, _, _, _, [], _, [], hW', trodAll_mk1 (shut_bool Tryd.underlying4 _), (trodAll_cons_mk (Below.trod laidOut (by kernel_rfl) (of_decide_eq_true (by kernel_rfl)) k0 bel lt0) trodAll_mk0), rfl, bel.frame _, fun h => by cases h⟩
theorem over : Rows.fnExactReadNodeRow.holds Tryd.pinned (OpenSpec.ofChange Rows.fnExactReadNodeSpec) :=
  OpenClaim.holds_of_wide 7 Tryd.f7 rfl rfl rfl rfl rfl rfl rfl ⟨rfl, rfl, rfl, rfl, rfl⟩ rfl rfl rfl rfl rfl (by kernel_rfl) Tryd.func7 (by kernel_rfl)
    (of_decide_eq_true (by kernel_rfl)) (by unfold Func.isWrapper; first | (rw [if_pos (by decide +kernel)]; kernel_rfl) | (rw [if_neg (by decide +kernel)]; exact ⟨rfl, rfl⟩))
    (fun os started H enc _ => lifted os started H enc)
theorem card : Rows.FnExactReadNodeCardSaid :=
  Claim7.holds_tied_plain_at .later [] [.data, .data, .data, .data, .sentinel, .sentinel, .pinned] true (true, "bcfba9008404a3e128d7caa0b819f38335f1f819ca607ba202aab1b27b9759c5") true over (fun _ h => by cases h) (by kernel_rfl) (fun _ h => by cases h) fnExactReadNode_row_tie rfl ⟨rfl, rfl⟩ (by kernel_rfl) rfl
    (fun f fn hf hfn => by
      obtain rfl : f = 7 := Option.some.inj ((show Tryd.prog.funcNamed "loop.example/g00100/laws.FnExactReadNode" = some 7 by kernel_rfl).symm.trans hf) |>.symm
      obtain rfl : fn = Tryd.f7 := (Option.some.inj (Tryd.func7.symm.trans hfn)).symm
      exact ⟨by kernel_rfl, fun j t ht => by
        have hm : t ∈ Tryd.f7.params.toList := by simpa using Array.mem_of_getElem? ht
        have hall : (Tryd.f7.params.toList.all fun u => !Tryd.prog.wantsStandIn u) = true := by kernel_rfl
        exact (show Tryd.prog.wantsStandIn t = false by simpa using List.all_eq_true.1 hall t hm)⟩)
    (by kernel_rfl)
#print axioms card
end Go.Proofs.YtogfddilolannaaDoor.fnExactReadNode
namespace Go.Proofs.YtogfddilolannaaDoor
/-- The card, under a short name, for the claim. -/
theorem fnExactReadNode_holds : Rows.FnExactReadNodeCardSaid := fnExactReadNode.card
end Go.Proofs.YtogfddilolannaaDoor
