-- PRINTED by print.py (a twelfth state) out of the translation. Not trusted: Lean checks it.
import Derived.Test.YtbiaakkmmkddfaaPFnExactGetSigx0
import Derived.Test.YtbiaakkmmkddfaaPFnExactGetSigx1
import Derived.Test.YtbiaakkmmkddfaaPFnExactGetSigx4
import Derived.Test.YtbiaakkmmkddfaaPFnExactGetSigx7
import Derived.Test.YtbiaakkmmkddfaaPFnExactGetSigx8
import Derived.Test.YtbiaakkmmkddfaaPFnExactGetSigx9
namespace Go.Proofs.Ytbiaakkmmkddfaa.PFnExactGetSig
open Go.RowKit Go.Proofs.YtbiaakkmmkddfaaW.PrintWords Go.Proofs.YtbiaakkmmkddfaaW.PrintLast Go.Proofs.YtbiaakkmmkddfaaW.PrintMore
attribute [local go_sem] max2_int min2_int max_two min_two max_three min_three max_four min_four   -- for this text's walks alone
set_option linter.unusedVariables false
set_option linter.unusedSimpArgs false
open Go.Proofs.YtbiaakkmmkddfaaW

/-! ### laws_FnExactGetSig: function 13 -/
mutual
def laws_FnExactGetSig.j0 : Nat → List Int → Bool → List Int → Bool → Bool → Int → Int → List Int → List ByteArray → Int → Int → List Int → List ByteArray → Option (Bool)
  | 0, _, _, _, _, _, _, _, _, _, _, _, _, _ => none
  | k + 1, x0, x4, x5, x7, x37, x270000, x270001, x270002, x270003, x283000, x283001, x283002, x283003 => if x37 = true then (some false) else ((laws_toByteS.f k x0).bind fun t284 => ((laws_eqByteS.f k x5 t284).bind fun t287 => (if t287 = true then ((laws_markByteS.f k x5 1).bind fun bt288 => (if bt288.1 < 0 then (laws_FnExactGetSig.j1 k x0 x4 true x270000 x270001 x270002 x270003 x283000 x283001 x283002 x283003) else ((laws_eqSig.f k x283000 x283001 x283002 x283003 x270000 x270001 x270002 x270003).bind fun t290 => (if t290 = true then (laws_FnExactGetSig.j1 k x0 x4 (x7 != x4) x270000 x270001 x270002 x270003 x283000 x283001 x283002 x283003) else (laws_FnExactGetSig.j1 k x0 x4 true x270000 x270001 x270002 x270003 x283000 x283001 x283002 x283003))))) else (some false))))
def laws_FnExactGetSig.j1 : Nat → List Int → Bool → Bool → Int → Int → List Int → List ByteArray → Int → Int → List Int → List ByteArray → Option (Bool)
  | 0, _, _, _, _, _, _, _, _, _, _, _ => none
  | k + 1, x0, x4, x58, x270000, x270001, x270002, x270003, x283000, x283001, x283002, x283003 => if x58 = true then (some false) else ((laws_markSig.f k x283000 x283001 x283002 x283003 1).bind fun bt291 => ((laws_heldSig.f k x283000 x283001 bt291.2.1 bt291.2.2 1).bind fun t294 => (if t294 < 0 then (some false) else (if t294 = bt291.1 then ((laws_toByteS.f k x0).bind fun t295 => ((impl_GetSig.f k t295).bind fun bt298 => ((laws_eqSig.f k bt298.1 bt298.2.1 bt298.2.2.1 bt298.2.2.2.1 x270000 x270001 x270002 x270003).bind fun t308 => (if t308 = true then (laws_FnExactGetSig.j2 k bt291.1 (bt298.2.2.2.2 != x4) x283000 x283001 bt291.2.1 bt291.2.2) else (laws_FnExactGetSig.j2 k bt291.1 true x283000 x283001 bt291.2.1 bt291.2.2))))) else (some false)))))
def laws_FnExactGetSig.j2 : Nat → Int → Bool → Int → Int → List Int → List ByteArray → Option (Bool)
  | 0, _, _, _, _, _, _ => none
  | k + 1, x9, x84, x283000, x283001, x283002, x283003 => if x84 = true then (some false) else ((laws_heldSig.f k x283000 x283001 x283002 x283003 1).bind fun t309 => (if t309 < 0 then (some false) else (if t309 = x9 then (some true) else (some false))))
end
def laws_FnExactGetSig.f (k : Nat) (l0 : List Int) : Option (Bool) := if (l0.length : Int) > 1048576 then (some true) else ((laws_toByteS.f k l0).bind fun t257 => ((spec_GetSig.f k t257).bind fun bt260 => ((laws_toByteS.f k l0).bind fun t270 => ((impl_GetSig.f k t270).bind fun bt273 => ((laws_eqSig.f k bt273.1 bt273.2.1 bt273.2.2.1 bt273.2.2.2.1 bt260.1 bt260.2.1 bt260.2.2.1 bt260.2.2.2.1).bind fun t283 => (if t283 = true then (laws_FnExactGetSig.j0 k l0 bt260.2.2.2.2 t270 bt273.2.2.2.2 (bt273.2.2.2.2 != bt260.2.2.2.2) bt260.1 bt260.2.1 bt260.2.2.1 bt260.2.2.2.1 bt273.1 bt273.2.1 bt273.2.2.1 bt273.2.2.2.1) else (laws_FnExactGetSig.j0 k l0 bt260.2.2.2.2 t270 bt273.2.2.2.2 true bt260.1 bt260.2.1 bt260.2.2.1 bt260.2.2.2.1 bt273.1 bt273.2.1 bt273.2.2.1 bt273.2.2.2.1)))))))
theorem laws_FnExactGetSig.mono_l : ∀ k, (∀ y0 y1 y2 y3 y4 y5 y6 y7 y8 y9 y10 y11 y12, LeO (laws_FnExactGetSig.j0 k y0 y1 y2 y3 y4 y5 y6 y7 y8 y9 y10 y11 y12) (laws_FnExactGetSig.j0 (k + 1) y0 y1 y2 y3 y4 y5 y6 y7 y8 y9 y10 y11 y12)) ∧ (∀ y0 y1 y2 y3 y4 y5 y6 y7 y8 y9 y10, LeO (laws_FnExactGetSig.j1 k y0 y1 y2 y3 y4 y5 y6 y7 y8 y9 y10) (laws_FnExactGetSig.j1 (k + 1) y0 y1 y2 y3 y4 y5 y6 y7 y8 y9 y10)) ∧ (∀ y0 y1 y2 y3 y4 y5, LeO (laws_FnExactGetSig.j2 k y0 y1 y2 y3 y4 y5) (laws_FnExactGetSig.j2 (k + 1) y0 y1 y2 y3 y4 y5))
  | 0 => ⟨fun _ _ _ _ _ _ _ _ _ _ _ _ _ r h => by simp [laws_FnExactGetSig.j0] at h, fun _ _ _ _ _ _ _ _ _ _ _ r h => by simp [laws_FnExactGetSig.j1] at h, fun _ _ _ _ _ _ r h => by simp [laws_FnExactGetSig.j2] at h⟩
  | k + 1 => by
    obtain ⟨ih0, ih1, ih2⟩ := laws_FnExactGetSig.mono_l k
    refine ⟨?_, ?_, ?_⟩
    · intro y0 y1 y2 y3 y4 y5 y6 y7 y8 y9 y10 y11 y12
      unfold laws_FnExactGetSig.j0
      repeat' first
      | (with_reducible exact ih0 _ _ _ _ _ _ _ _ _ _ _ _ _)
      | (with_reducible exact ih1 _ _ _ _ _ _ _ _ _ _ _)
      | (with_reducible exact ih2 _ _ _ _ _ _)
      | (with_reducible exact impl_GetSig.mono _ _)
      | (with_reducible exact laws_eqByteS.mono _ _ _)
      | (with_reducible exact laws_eqSig.mono _ _ _ _ _ _ _ _ _)
      | (with_reducible exact laws_heldSig.mono _ _ _ _ _ _)
      | (with_reducible exact laws_markByteS.mono _ _ _)
      | (with_reducible exact laws_markSig.mono _ _ _ _ _ _)
      | (with_reducible exact laws_toByteS.mono _ _)
      | (with_reducible exact spec_GetSig.mono _ _)
      | (with_reducible exact LeO.refl _)
      | (with_reducible exact LeO.none _)
      | (with_reducible refine LeO.ite ?_ ?_)
      | (with_reducible refine LeO.bind ?_ (fun _ => ?_))
      | exact ih0 _ _ _ _ _ _ _ _ _ _ _ _ _
      | exact ih1 _ _ _ _ _ _ _ _ _ _ _
      | exact ih2 _ _ _ _ _ _
      | exact impl_GetSig.mono _ _
      | exact laws_eqByteS.mono _ _ _
      | exact laws_eqSig.mono _ _ _ _ _ _ _ _ _
      | exact laws_heldSig.mono _ _ _ _ _ _
      | exact laws_markByteS.mono _ _ _
      | exact laws_markSig.mono _ _ _ _ _ _
      | exact laws_toByteS.mono _ _
      | exact spec_GetSig.mono _ _
      | exact LeO.none _
      | refine LeO.ite ?_ ?_
      | refine LeO.bind ?_ (fun _ => ?_)
    · intro y0 y1 y2 y3 y4 y5 y6 y7 y8 y9 y10
      unfold laws_FnExactGetSig.j1
      repeat' first
      | (with_reducible exact ih0 _ _ _ _ _ _ _ _ _ _ _ _ _)
      | (with_reducible exact ih1 _ _ _ _ _ _ _ _ _ _ _)
      | (with_reducible exact ih2 _ _ _ _ _ _)
      | (with_reducible exact impl_GetSig.mono _ _)
      | (with_reducible exact laws_eqByteS.mono _ _ _)
      | (with_reducible exact laws_eqSig.mono _ _ _ _ _ _ _ _ _)
      | (with_reducible exact laws_heldSig.mono _ _ _ _ _ _)
      | (with_reducible exact laws_markByteS.mono _ _ _)
      | (with_reducible exact laws_markSig.mono _ _ _ _ _ _)
      | (with_reducible exact laws_toByteS.mono _ _)
      | (with_reducible exact spec_GetSig.mono _ _)
      | (with_reducible exact LeO.refl _)
      | (with_reducible exact LeO.none _)
      | (with_reducible refine LeO.ite ?_ ?_)
      | (with_reducible refine LeO.bind ?_ (fun _ => ?_))
      | exact ih0 _ _ _ _ _ _ _ _ _ _ _ _ _
      | exact ih1 _ _ _ _ _ _ _ _ _ _ _
      | exact ih2 _ _ _ _ _ _
      | exact impl_GetSig.mono _ _
      | exact laws_eqByteS.mono _ _ _
      | exact laws_eqSig.mono _ _ _ _ _ _ _ _ _
      | exact laws_heldSig.mono _ _ _ _ _ _
      | exact laws_markByteS.mono _ _ _
      | exact laws_markSig.mono _ _ _ _ _ _
      | exact laws_toByteS.mono _ _
      | exact spec_GetSig.mono _ _
      | exact LeO.none _
      | refine LeO.ite ?_ ?_
      | refine LeO.bind ?_ (fun _ => ?_)
    · intro y0 y1 y2 y3 y4 y5
      unfold laws_FnExactGetSig.j2
      repeat' first
      | (with_reducible exact ih0 _ _ _ _ _ _ _ _ _ _ _ _ _)
      | (with_reducible exact ih1 _ _ _ _ _ _ _ _ _ _ _)
      | (with_reducible exact ih2 _ _ _ _ _ _)
      | (with_reducible exact impl_GetSig.mono _ _)
      | (with_reducible exact laws_eqByteS.mono _ _ _)
      | (with_reducible exact laws_eqSig.mono _ _ _ _ _ _ _ _ _)
      | (with_reducible exact laws_heldSig.mono _ _ _ _ _ _)
      | (with_reducible exact laws_markByteS.mono _ _ _)
      | (with_reducible exact laws_markSig.mono _ _ _ _ _ _)
      | (with_reducible exact laws_toByteS.mono _ _)
      | (with_reducible exact spec_GetSig.mono _ _)
      | (with_reducible exact LeO.refl _)
      | (with_reducible exact LeO.none _)
      | (with_reducible refine LeO.ite ?_ ?_)
      | (with_reducible refine LeO.bind ?_ (fun _ => ?_))
      | exact ih0 _ _ _ _ _ _ _ _ _ _ _ _ _
      | exact ih1 _ _ _ _ _ _ _ _ _ _ _
      | exact ih2 _ _ _ _ _ _
      | exact impl_GetSig.mono _ _
      | exact laws_eqByteS.mono _ _ _
      | exact laws_eqSig.mono _ _ _ _ _ _ _ _ _
      | exact laws_heldSig.mono _ _ _ _ _ _
      | exact laws_markByteS.mono _ _ _
      | exact laws_markSig.mono _ _ _ _ _ _
      | exact laws_toByteS.mono _ _
      | exact spec_GetSig.mono _ _
      | exact LeO.none _
      | refine LeO.ite ?_ ?_
      | refine LeO.bind ?_ (fun _ => ?_)
theorem laws_FnExactGetSig.mono : ∀ a0 k, LeO (laws_FnExactGetSig.f k a0) (laws_FnExactGetSig.f (k + 1) a0) := by
  intro a0 k
  obtain ⟨ih0, ih1, ih2⟩ := laws_FnExactGetSig.mono_l k
  unfold laws_FnExactGetSig.f
  repeat' first
      | (with_reducible exact ih0 _ _ _ _ _ _ _ _ _ _ _ _ _)
      | (with_reducible exact ih1 _ _ _ _ _ _ _ _ _ _ _)
      | (with_reducible exact ih2 _ _ _ _ _ _)
      | (with_reducible exact impl_GetSig.mono _ _)
      | (with_reducible exact laws_eqByteS.mono _ _ _)
      | (with_reducible exact laws_eqSig.mono _ _ _ _ _ _ _ _ _)
      | (with_reducible exact laws_heldSig.mono _ _ _ _ _ _)
      | (with_reducible exact laws_markByteS.mono _ _ _)
      | (with_reducible exact laws_markSig.mono _ _ _ _ _ _)
      | (with_reducible exact laws_toByteS.mono _ _)
      | (with_reducible exact spec_GetSig.mono _ _)
      | (with_reducible exact LeO.refl _)
      | (with_reducible exact LeO.none _)
      | (with_reducible refine LeO.ite ?_ ?_)
      | (with_reducible refine LeO.bind ?_ (fun _ => ?_))
      | exact ih0 _ _ _ _ _ _ _ _ _ _ _ _ _
      | exact ih1 _ _ _ _ _ _ _ _ _ _ _
      | exact ih2 _ _ _ _ _ _
      | exact impl_GetSig.mono _ _
      | exact laws_eqByteS.mono _ _ _
      | exact laws_eqSig.mono _ _ _ _ _ _ _ _ _
      | exact laws_heldSig.mono _ _ _ _ _ _
      | exact laws_markByteS.mono _ _ _
      | exact laws_markSig.mono _ _ _ _ _ _
      | exact laws_toByteS.mono _ _
      | exact spec_GetSig.mono _ _
      | exact LeO.none _
      | refine LeO.ite ?_ ?_
      | refine LeO.bind ?_ (fun _ => ?_)
set_option maxHeartbeats 8000000 in
set_option maxRecDepth 100000 in
theorem laws_FnExactGetSig.calls (k : Nat) (A0 : Option Addr) (c0 : Nat) (l0 : List Int) (r : Bool) (hrt : r = true) (w : World) (hr0 : Kd.C (Kd.int .u8) w A0 l0.length l0) (hc0 : l0.length ≤ c0) (h : laws_FnExactGetSig.f k l0 = some r) :
    Calls Try.prog 13 #[.slice A0 l0.length c0] w fun e w' => e = .returned (.bool r) ∧ Below w.heap.size w w' := by
  have hu75 := Try.underlying75
  have HR0 := Aside0.mk hr0
  have HC0 := Aside0.mk hc0
  clear hr0 hc0
  have HB := Aside0.mk (Below.refl w.heap.size w)
  have H : (if (l0.length : Int) > 1048576 then (some true) else ((laws_toByteS.f k l0).bind fun t257 => ((spec_GetSig.f k t257).bind fun bt260 => ((laws_toByteS.f k l0).bind fun t270 => ((impl_GetSig.f k t270).bind fun bt273 => ((laws_eqSig.f k bt273.1 bt273.2.1 bt273.2.2.1 bt273.2.2.2.1 bt260.1 bt260.2.1 bt260.2.2.1 bt260.2.2.2.1).bind fun t283 => (if t283 = true then (laws_FnExactGetSig.j0 k l0 bt260.2.2.2.2 t270 bt273.2.2.2.2 (bt273.2.2.2.2 != bt260.2.2.2.2) bt260.1 bt260.2.1 bt260.2.2.1 bt260.2.2.2.1 bt273.1 bt273.2.1 bt273.2.2.1 bt273.2.2.2.1) else (laws_FnExactGetSig.j0 k l0 bt260.2.2.2.2 t270 bt273.2.2.2.2 true bt260.1 bt260.2.1 bt260.2.2.1 bt260.2.2.2.1 bt273.1 bt273.2.1 bt273.2.2.1 bt273.2.2.2.1)))))))) = some r := h
  clear h
  by_cases c2 : (l0.length : Int) > 1048576
  · rw [if_pos c2] at H
    have c2b0 : decide (1048576 < (l0.length : Int)) = true := decide_eq_true c2
    have c2b1 : decide (1048576 < l0.length) = true := decide_eq_true (by omega)
    clear c2
    obtain rfl := Option.some.inj H
    go_enter Try.func13, Try.ntmps13
    go_wp2
    go_ret
    exact ⟨by first | rfl | (simp [errW_none, errW_some] <;> rfl) | (simp [*, errW_none, errW_some] <;> rfl), by repeat (first | (with_reducible first | exact HB.out | apply below_alloc | apply pw_below_drewN | apply below_drew1) | exact HB.out)⟩
  · rw [if_neg c2] at H
    have c2b0 : decide (1048576 < (l0.length : Int)) = false := decide_eq_false c2
    have c2b1 : decide (1048576 < l0.length) = false := decide_eq_false (by omega)
    clear c2
    replace H := Option.bind_eq_some_iff.mp H
    obtain ⟨t257, A30, H⟩ := H
    replace H : ((spec_GetSig.f k t257).bind fun bt260 => ((laws_toByteS.f k l0).bind fun t270 => ((impl_GetSig.f k t270).bind fun bt273 => ((laws_eqSig.f k bt273.1 bt273.2.1 bt273.2.2.1 bt273.2.2.2.1 bt260.1 bt260.2.1 bt260.2.2.1 bt260.2.2.2.1).bind fun t283 => (if t283 = true then (laws_FnExactGetSig.j0 k l0 bt260.2.2.2.2 t270 bt273.2.2.2.2 (bt273.2.2.2.2 != bt260.2.2.2.2) bt260.1 bt260.2.1 bt260.2.2.1 bt260.2.2.2.1 bt273.1 bt273.2.1 bt273.2.2.1 bt273.2.2.2.1) else (laws_FnExactGetSig.j0 k l0 bt260.2.2.2.2 t270 bt273.2.2.2.2 true bt260.1 bt260.2.1 bt260.2.2.1 bt260.2.2.2.1 bt273.1 bt273.2.1 bt273.2.2.1 bt273.2.2.2.1)))))) = some r := H
    have A3 := Aside0.mk A30
    clear A30
    replace H := Option.bind_eq_some_iff.mp H
    obtain ⟨⟨t260, t261, t262, t265, t268⟩, A40, H⟩ := H
    replace H : ((laws_toByteS.f k l0).bind fun t270 => ((impl_GetSig.f k t270).bind fun bt273 => ((laws_eqSig.f k bt273.1 bt273.2.1 bt273.2.2.1 bt273.2.2.2.1 t260 t261 t262 t265).bind fun t283 => (if t283 = true then (laws_FnExactGetSig.j0 k l0 t268 t270 bt273.2.2.2.2 (bt273.2.2.2.2 != t268) t260 t261 t262 t265 bt273.1 bt273.2.1 bt273.2.2.1 bt273.2.2.2.1) else (laws_FnExactGetSig.j0 k l0 t268 t270 bt273.2.2.2.2 true t260 t261 t262 t265 bt273.1 bt273.2.1 bt273.2.2.1 bt273.2.2.2.1))))) = some r := H
    have A4 := Aside0.mk A40
    clear A40
    replace H := Option.bind_eq_some_iff.mp H
    obtain ⟨t270, A50, H⟩ := H
    replace H : ((impl_GetSig.f k t270).bind fun bt273 => ((laws_eqSig.f k bt273.1 bt273.2.1 bt273.2.2.1 bt273.2.2.2.1 t260 t261 t262 t265).bind fun t283 => (if t283 = true then (laws_FnExactGetSig.j0 k l0 t268 t270 bt273.2.2.2.2 (bt273.2.2.2.2 != t268) t260 t261 t262 t265 bt273.1 bt273.2.1 bt273.2.2.1 bt273.2.2.2.1) else (laws_FnExactGetSig.j0 k l0 t268 t270 bt273.2.2.2.2 true t260 t261 t262 t265 bt273.1 bt273.2.1 bt273.2.2.1 bt273.2.2.2.1)))) = some r := H
    have A5 := Aside0.mk A50
    clear A50
    replace H := Option.bind_eq_some_iff.mp H
    obtain ⟨⟨t273, t274, t275, t278, t281⟩, A60, H⟩ := H
    replace H : ((laws_eqSig.f k t273 t274 t275 t278 t260 t261 t262 t265).bind fun t283 => (if t283 = true then (laws_FnExactGetSig.j0 k l0 t268 t270 t281 (t281 != t268) t260 t261 t262 t265 t273 t274 t275 t278) else (laws_FnExactGetSig.j0 k l0 t268 t270 t281 true t260 t261 t262 t265 t273 t274 t275 t278))) = some r := H
    have A6 := Aside0.mk A60
    clear A60
    have HC7 := Aside0.mk H
    clear H
    go_enter Try.func13, Try.ntmps13
    go_upto_region 6 with (first | ((with_reducible refine gate_callee (f := 34) rfl ?_); refine goesL_ (some 18) rfl rfl Try.func34 (by kernel_rfl) rfl #[.slice A0 l0.length c0] rfl (by (try simp only [List.map_toArray, List.map_cons, List.map_nil]); first | done | rfl | (simp only [List.length_drop, List.length_take]; rfl)) ?_; (with_reducible refine (laws_toByteS.calls k _ _ l0 t257 _ ?side1 ?side2 A3.out).mono ?_); (case side1 => repeat (first | exact HR0.out | (with_reducible refine Kd.C_alloc ?_ _) | (with_reducible refine Kd.C_drewN ?_ _) | (with_reducible refine Kd.C_drew ?_))); (case side2 => exact HC0.out); rintro e w8 ⟨v258, rfl, ho0, hb⟩; refine ⟨_, rfl, ?_⟩; have n0_ := Aside0.mk (Kd.R_lower ho0 (below_size (by repeat (first | (with_reducible first | exact HB.out | apply below_alloc | apply pw_below_drewN | apply below_drew1) | exact HB.out)))); have n1_ := Aside0.mk (below_step (by repeat (first | (with_reducible first | exact HB.out | apply below_alloc | apply pw_below_drewN | apply below_drew1) | exact HB.out)) hb); clear HB; have HO259 := n0_; have HB := n1_; clear n0_ n1_; (try clear hb); (try clear hb2); (try clear hk); (try clear hi); (try clear ho0); obtain ⟨Ao9, co9, eo9⟩ := Kd.R_slice HO259.out; subst eo9) | ((with_reducible refine gate_callee (f := 58) rfl ?_); refine goesL_ (some 19) rfl rfl Try.func58 (by kernel_rfl) rfl #[.slice Ao9 t257.length co9] rfl (by (try simp only [List.map_toArray, List.map_cons, List.map_nil]); first | done | rfl | (simp only [List.length_drop, List.length_take]; rfl)) ?_; (with_reducible refine (spec_GetSig.calls k (fun k_ => some k_ = (.slice Ao9 t257.length co9 : Value).ownBlock) _ _ t257 t260 t261 t262 t265 t268 _ ?side1 A4.out).mono ?_); (case side1 => exact Kd.R_V (Kd.R_tight rfl (HO259.out))); rintro e w10 ⟨v263, v266, rfl, ho0, ho1, hb⟩; refine ⟨_, rfl, ?_⟩; have n0_ := Aside0.mk (Kd.R_below (by (with_reducible repeat (first | apply Kd.R_alloc | apply Kd.R_drewN | apply Kd.R_drew)); exact HO259.out) hb); have n1_ := Aside0.mk (Kd.R_lower (Kd.R_mono (ok' := fun k_ => True) ho0 (fun _ hk_ => trivial)) (below_size (by repeat (first | (with_reducible first | exact HB.out | apply below_alloc | apply pw_below_drewN | apply below_drew1) | exact HB.out)))); have n2_ := Aside0.mk (Kd.R_lower (Kd.R_mono (ok' := fun k_ => True) ho1 (fun _ hk_ => trivial)) (below_size (by repeat (first | (with_reducible first | exact HB.out | apply below_alloc | apply pw_below_drewN | apply below_drew1) | exact HB.out)))); have n3_ := Aside0.mk (below_step (by repeat (first | (with_reducible first | exact HB.out | apply below_alloc | apply pw_below_drewN | apply below_drew1) | exact HB.out)) hb); clear HO259; clear HB; have HO259 := n0_; have HO264 := n1_; have HO267 := n2_; have HB := n3_; clear n0_ n1_ n2_ n3_; (try clear hb); (try clear hb2); (try clear hk); (try clear hi); (try clear ho0); (try clear ho1)) | ((with_reducible refine gate_dst (N := 3) rfl ?_); refine box_event ?hg (N := 3) ?hd (cs := #[.int .i64 0, .int .i64 0, .slice none 0 0, .slice none 0 0]) (t := 75) ?hr ?_; (case hd => rfl); (case hg => rfl); (case hr => first | (go_simp; done) | (go_simp; rfl)); intro gb269 hg w11 hbox hb; have n0_ := Aside0.mk (Kd.R_below (by (with_reducible repeat (first | apply Kd.R_alloc | apply Kd.R_drewN | apply Kd.R_drew)); exact HO259.out) hb); have n1_ := Aside0.mk (Kd.R_below (by (with_reducible repeat (first | apply Kd.R_alloc | apply Kd.R_drewN | apply Kd.R_drew)); exact HO264.out) hb); have n2_ := Aside0.mk (Kd.R_below (by (with_reducible repeat (first | apply Kd.R_alloc | apply Kd.R_drewN | apply Kd.R_drew)); exact HO267.out) hb); have n3_ := Aside0.mk (below_step (by repeat (first | (with_reducible first | exact HB.out | apply below_alloc | apply pw_below_drewN | apply below_drew1) | exact HB.out)) hb); have n4_ := Aside0.mk (hbox); have n5_ := Aside0.mk ((by rw [hg]; exact (below_size (by repeat (first | (with_reducible first | exact HB.out | apply below_alloc | apply pw_below_drewN | apply below_drew1) | exact HB.out))) : w.heap.size ≤ gb269)); have n6_ := Aside0.mk ((by rw [hg]; exact (below_size (by repeat (first | (with_reducible first | exact HB.out | apply below_alloc | apply pw_below_drewN | apply below_drew1) | exact HB.out))) : w.heap.size ≤ gb269)); clear HO259; clear HO264; clear HO267; clear HB; have HO259 := n0_; have HO264 := n1_; have HO267 := n2_; have HB := n3_; have BK269 := n4_; have GW269 := n5_; have GE269 := n6_; clear n0_ n1_ n2_ n3_ n4_ n5_ n6_; clear hb hbox hg; have hcz12_0 : w11.cell? ⟨gb269, 0, none⟩ = some (.int .i64 0) := (blk_cell BK269.out 0).trans rfl; have hcz12_1 : w11.cell? ⟨gb269, 1, none⟩ = some (.int .i64 0) := (blk_cell BK269.out 1).trans rfl; have hcz12_2 : w11.cell? ⟨gb269, 2, none⟩ = some (.slice none 0 0) := (blk_cell BK269.out 2).trans rfl; have hcz12_3 : w11.cell? ⟨gb269, 3, none⟩ = some (.slice none 0 0) := (blk_cell BK269.out 3).trans rfl; have hfz12_0 := blk_frozen BK269.out 0; have hfz12_1 := blk_frozen BK269.out 1; have hfz12_2 := blk_frozen BK269.out 2; have hfz12_3 := blk_frozen BK269.out 3; obtain ⟨Ao13, co13, eo13⟩ := Kd.R_slice HO264.out; subst eo13; obtain ⟨Ao14, co14, eo14⟩ := Kd.R_slice HO267.out; subst eo14) | ((with_reducible refine gate_callee (f := 34) rfl ?_); refine goesL_ (some 23) rfl rfl Try.func34 (by kernel_rfl) rfl #[.slice A0 l0.length c0] rfl (by (try simp only [List.map_toArray, List.map_cons, List.map_nil]); first | done | rfl | (simp only [List.length_drop, List.length_take]; rfl)) ?_; (with_reducible refine (laws_toByteS.calls k _ _ l0 t270 _ ?side1 ?side2 A5.out).mono ?_); (case side1 => exact Kd.C_below HR0.out (by repeat (first | (with_reducible first | exact HB.out | apply below_alloc | apply pw_below_drewN | apply below_drew1 | refine below_set ?_ GE269.out) | exact HB.out))); (case side2 => exact HC0.out); rintro e w15 ⟨v271, rfl, ho0, hb⟩; refine ⟨_, rfl, ?_⟩; have n0_ := Aside0.mk (Kd.R_elder' (by (with_reducible repeat (first | apply Kd.R_alloc | apply Kd.R_drewN | apply Kd.R_drew)); exact (Kd.R_mono (Kd.R_far (p := ⟨gb269, 3, none⟩) (Kd.R_far (p := ⟨gb269, 2, none⟩) (Kd.R_far (p := ⟨gb269, 1, none⟩) (Kd.R_far (p := ⟨gb269, 0, none⟩) (Kd.R_types HO259.out BK269.out (by decide)) (fun _ hk => hk.2) (.int .i64 t260)) (fun _ hk => hk.2) (.int .i64 t261)) (fun _ hk => hk.2) (.slice Ao13 t262.length co13)) (fun _ hk => hk.2) (.slice Ao14 t265.length co14)) (fun _ h_ => h_.1))) (Kd.R_base ho0) hb); have n1_ := Aside0.mk (Kd.R_below (by (with_reducible repeat (first | apply Kd.R_alloc | apply Kd.R_drewN | apply Kd.R_drew)); exact (Kd.R_mono (Kd.R_far (p := ⟨gb269, 3, none⟩) (Kd.R_far (p := ⟨gb269, 2, none⟩) (Kd.R_far (p := ⟨gb269, 1, none⟩) (Kd.R_far (p := ⟨gb269, 0, none⟩) (Kd.R_types HO264.out BK269.out (by decide)) (fun _ hk => hk.2) (.int .i64 t260)) (fun _ hk => hk.2) (.int .i64 t261)) (fun _ hk => hk.2) (.slice Ao13 t262.length co13)) (fun _ hk => hk.2) (.slice Ao14 t265.length co14)) (fun _ h_ => h_.1))) hb); have n2_ := Aside0.mk (Kd.R_below (by (with_reducible repeat (first | apply Kd.R_alloc | apply Kd.R_drewN | apply Kd.R_drew)); exact (Kd.R_mono (Kd.R_far (p := ⟨gb269, 3, none⟩) (Kd.R_far (p := ⟨gb269, 2, none⟩) (Kd.R_far (p := ⟨gb269, 1, none⟩) (Kd.R_far (p := ⟨gb269, 0, none⟩) (Kd.R_types HO267.out BK269.out (by decide)) (fun _ hk => hk.2) (.int .i64 t260)) (fun _ hk => hk.2) (.int .i64 t261)) (fun _ hk => hk.2) (.slice Ao13 t262.length co13)) (fun _ hk => hk.2) (.slice Ao14 t265.length co14)) (fun _ h_ => h_.1))) hb); have n3_ := Aside0.mk (Kd.R_lower (Kd.R_new' ho0 (Kd.R_lt (by (with_reducible repeat (first | apply Kd.R_alloc | apply Kd.R_drewN | apply Kd.R_drew)); exact (Kd.R_mono (Kd.R_far (p := ⟨gb269, 3, none⟩) (Kd.R_far (p := ⟨gb269, 2, none⟩) (Kd.R_far (p := ⟨gb269, 1, none⟩) (Kd.R_far (p := ⟨gb269, 0, none⟩) (Kd.R_types HO259.out BK269.out (by decide)) (fun _ hk => hk.2) (.int .i64 t260)) (fun _ hk => hk.2) (.int .i64 t261)) (fun _ hk => hk.2) (.slice Ao13 t262.length co13)) (fun _ hk => hk.2) (.slice Ao14 t265.length co14)) (fun _ h_ => h_.1))))) (below_size (by repeat (first | (with_reducible first | exact HB.out | apply below_alloc | apply pw_below_drewN | apply below_drew1 | refine below_set ?_ GE269.out) | exact HB.out)))); have n4_ := Aside0.mk (blk_below (g := gb269) (o := .cells #[.int .i64 t260, .int .i64 t261, .slice Ao13 t262.length co13, .slice Ao14 t265.length co14] 75 (0, 0)) (by (with_reducible repeat (first | refine blk_drewN ?_ _ | refine blk_drew ?_ | refine blk_alloc ?_ _)); refine blk_put (cs := #[.int .i64 t260, .int .i64 t261, .slice Ao13 t262.length co13, .slice none 0 0]) ?_ 3 _ rfl; (with_reducible repeat (first | refine blk_drewN ?_ _ | refine blk_drew ?_ | refine blk_alloc ?_ _)); refine blk_put (cs := #[.int .i64 t260, .int .i64 t261, .slice none 0 0, .slice none 0 0]) ?_ 2 _ rfl; (with_reducible repeat (first | refine blk_drewN ?_ _ | refine blk_drew ?_ | refine blk_alloc ?_ _)); refine blk_put (cs := #[.int .i64 t260, .int .i64 0, .slice none 0 0, .slice none 0 0]) ?_ 1 _ rfl; (with_reducible repeat (first | refine blk_drewN ?_ _ | refine blk_drew ?_ | refine blk_alloc ?_ _)); refine blk_put (cs := #[.int .i64 0, .int .i64 0, .slice none 0 0, .slice none 0 0]) ?_ 0 _ rfl; (with_reducible repeat (first | refine blk_drewN ?_ _ | refine blk_drew ?_ | refine blk_alloc ?_ _)); exact BK269.out) hb); have n5_ := Aside0.mk (below_step (by repeat (first | (with_reducible first | exact HB.out | apply below_alloc | apply pw_below_drewN | apply below_drew1 | refine below_set ?_ GE269.out) | exact HB.out)) hb); clear HO259; clear HO264; clear HO267; clear BK269; clear HB; have HO259 := n0_; have HO264 := n1_; have HO267 := n2_; have HO272 := n3_; have BK269 := n4_; have HB := n5_; clear n0_ n1_ n2_ n3_ n4_ n5_; (try clear hb); (try clear hb2); (try clear hk); (try clear hi); (try clear ho0); obtain ⟨Ao16, co16, eo16⟩ := Kd.R_slice HO272.out; subst eo16) | ((with_reducible refine gate_callee (f := 59) rfl ?_); refine goesL_ (some 26) rfl rfl Try.func59 (by kernel_rfl) rfl #[.slice Ao16 t270.length co16] rfl (by (try simp only [List.map_toArray, List.map_cons, List.map_nil]); first | done | rfl | (simp only [List.length_drop, List.length_take]; rfl)) ?_; (with_reducible refine (impl_GetSig.calls k _ _ t270 t273 t274 t275 t278 t281 _ ?side1 ?side2 A6.out).mono ?_); (case side1 => repeat (first | exact (Kd.R_reads' HO272.out).2.2 | (with_reducible refine Kd.C_alloc ?_ _) | (with_reducible refine Kd.C_drewN ?_ _) | (with_reducible refine Kd.C_drew ?_))); (case side2 => exact (Kd.R_reads' HO272.out).2.1); rintro e w17 ⟨v276, v279, rfl, ho0, ho1, hb⟩; refine ⟨_, rfl, ?_⟩; have n0_ := Aside0.mk (Kd.R_below (by (with_reducible repeat (first | apply Kd.R_alloc | apply Kd.R_drewN | apply Kd.R_drew)); exact HO259.out) hb); have n1_ := Aside0.mk (Kd.R_elder' (by (with_reducible repeat (first | apply Kd.R_alloc | apply Kd.R_drewN | apply Kd.R_drew)); exact HO264.out) (Kd.R_base ho0) hb); have n2_ := Aside0.mk (Kd.R_elder' (by (with_reducible repeat (first | apply Kd.R_alloc | apply Kd.R_drewN | apply Kd.R_drew)); exact HO267.out) (Kd.R_base ho1) hb); have n3_ := Aside0.mk (Kd.R_below (by (with_reducible repeat (first | apply Kd.R_alloc | apply Kd.R_drewN | apply Kd.R_drew)); exact HO272.out) hb); have n4_ := Aside0.mk (Kd.R_lower (Kd.R_new' ho0 (Kd.R_lt (by (with_reducible repeat (first | apply Kd.R_alloc | apply Kd.R_drewN | apply Kd.R_drew)); exact HO264.out))) (below_size (by repeat (first | (with_reducible first | exact HB.out | apply below_alloc | apply pw_below_drewN | apply below_drew1 | refine below_set ?_ GE269.out) | exact HB.out)))); have n5_ := Aside0.mk (Kd.R_lower (Kd.R_new' ho1 (Kd.R_lt (by (with_reducible repeat (first | apply Kd.R_alloc | apply Kd.R_drewN | apply Kd.R_drew)); exact HO267.out))) (below_size (by repeat (first | (with_reducible first | exact HB.out | apply below_alloc | apply pw_below_drewN | apply below_drew1 | refine below_set ?_ GE269.out) | exact HB.out)))); have n6_ := Aside0.mk (blk_below (g := gb269) (o := .cells #[.int .i64 t260, .int .i64 t261, .slice Ao13 t262.length co13, .slice Ao14 t265.length co14] 75 (0, 0)) (by (with_reducible repeat (first | refine blk_drewN ?_ _ | refine blk_drew ?_ | refine blk_alloc ?_ _)); exact BK269.out) hb); have n7_ := Aside0.mk (below_step (by repeat (first | (with_reducible first | exact HB.out | apply below_alloc | apply pw_below_drewN | apply below_drew1 | refine below_set ?_ GE269.out) | exact HB.out)) hb); clear HO259; clear HO264; clear HO267; clear HO272; clear BK269; clear HB; have HO259 := n0_; have HO264 := n1_; have HO267 := n2_; have HO272 := n3_; have HO277 := n4_; have HO280 := n5_; have BK269 := n6_; have HB := n7_; clear n0_ n1_ n2_ n3_ n4_ n5_ n6_ n7_; (try clear hb); (try clear hb2); (try clear hk); (try clear hi); (try clear ho0); (try clear ho1)) | ((with_reducible refine gate_dst (N := 6) rfl ?_); refine box_event ?hg (N := 6) ?hd (cs := #[.int .i64 0, .int .i64 0, .slice none 0 0, .slice none 0 0]) (t := 75) ?hr ?_; (case hd => rfl); (case hg => rfl); (case hr => first | (go_simp; done) | (go_simp; rfl)); intro gb282 hg w18 hbox hb; have n0_ := Aside0.mk (Kd.R_below (by (with_reducible repeat (first | apply Kd.R_alloc | apply Kd.R_drewN | apply Kd.R_drew)); exact HO259.out) hb); have n1_ := Aside0.mk (Kd.R_below (by (with_reducible repeat (first | apply Kd.R_alloc | apply Kd.R_drewN | apply Kd.R_drew)); exact HO264.out) hb); have n2_ := Aside0.mk (Kd.R_below (by (with_reducible repeat (first | apply Kd.R_alloc | apply Kd.R_drewN | apply Kd.R_drew)); exact HO267.out) hb); have n3_ := Aside0.mk (Kd.R_below (by (with_reducible repeat (first | apply Kd.R_alloc | apply Kd.R_drewN | apply Kd.R_drew)); exact HO272.out) hb); have n4_ := Aside0.mk (Kd.R_below (by (with_reducible repeat (first | apply Kd.R_alloc | apply Kd.R_drewN | apply Kd.R_drew)); exact HO277.out) hb); have n5_ := Aside0.mk (Kd.R_below (by (with_reducible repeat (first | apply Kd.R_alloc | apply Kd.R_drewN | apply Kd.R_drew)); exact HO280.out) hb); have n6_ := Aside0.mk (blk_below (g := gb269) (o := .cells #[.int .i64 t260, .int .i64 t261, .slice Ao13 t262.length co13, .slice Ao14 t265.length co14] 75 (0, 0)) (by (with_reducible repeat (first | refine blk_drewN ?_ _ | refine blk_drew ?_ | refine blk_alloc ?_ _)); exact BK269.out) hb); have n7_ := Aside0.mk (below_step (by repeat (first | (with_reducible first | exact HB.out | apply below_alloc | apply pw_below_drewN | apply below_drew1 | refine below_set ?_ GE269.out) | exact HB.out)) hb); have n8_ := Aside0.mk (hbox); have n9_ := Aside0.mk ((by rw [hg]; exact (below_size (by repeat (first | (with_reducible first | exact HB.out | apply below_alloc | apply pw_below_drewN | apply below_drew1 | refine below_set ?_ GE269.out) | exact HB.out))) : w.heap.size ≤ gb282)); have n10_ := Aside0.mk ((by rw [hg]; exact (below_size (by repeat (first | (with_reducible first | exact HB.out | apply below_alloc | apply pw_below_drewN | apply below_drew1 | refine below_set ?_ GE269.out) | exact HB.out))) : w.heap.size ≤ gb282)); have n11_ := Aside0.mk ((by rw [hg]; exact Nat.ne_of_lt (blk_lt (g := gb269) (o := .cells #[.int .i64 t260, .int .i64 t261, .slice Ao13 t262.length co13, .slice Ao14 t265.length co14] 75 (0, 0)) (by (with_reducible repeat (first | refine blk_drewN ?_ _ | refine blk_drew ?_ | refine blk_alloc ?_ _)); exact BK269.out)) : gb269 ≠ gb282)); have n12_ := Aside0.mk ((by rw [hg]; exact Nat.ne_of_gt (blk_lt (g := gb269) (o := .cells #[.int .i64 t260, .int .i64 t261, .slice Ao13 t262.length co13, .slice Ao14 t265.length co14] 75 (0, 0)) (by (with_reducible repeat (first | refine blk_drewN ?_ _ | refine blk_drew ?_ | refine blk_alloc ?_ _)); exact BK269.out)) : gb282 ≠ gb269)); clear HO259; clear HO264; clear HO267; clear HO272; clear HO277; clear HO280; clear BK269; clear HB; have HO259 := n0_; have HO264 := n1_; have HO267 := n2_; have HO272 := n3_; have HO277 := n4_; have HO280 := n5_; have BK269 := n6_; have HB := n7_; have BK282 := n8_; have GW282 := n9_; have GE282 := n10_; have NB269_282 := n11_; have NB282_269 := n12_; clear n0_ n1_ n2_ n3_ n4_ n5_ n6_ n7_ n8_ n9_ n10_ n11_ n12_; clear hb hbox hg; have hnb19 := NB282_269.out; have hnc19 := NB269_282.out; have hcz20_0 : w18.cell? ⟨gb282, 0, none⟩ = some (.int .i64 0) := (blk_cell BK282.out 0).trans rfl; have hcz20_1 : w18.cell? ⟨gb282, 1, none⟩ = some (.int .i64 0) := (blk_cell BK282.out 1).trans rfl; have hcz20_2 : w18.cell? ⟨gb282, 2, none⟩ = some (.slice none 0 0) := (blk_cell BK282.out 2).trans rfl; have hcz20_3 : w18.cell? ⟨gb282, 3, none⟩ = some (.slice none 0 0) := (blk_cell BK282.out 3).trans rfl; have hfz20_0 := blk_frozen BK282.out 0; have hfz20_1 := blk_frozen BK282.out 1; have hfz20_2 := blk_frozen BK282.out 2; have hfz20_3 := blk_frozen BK282.out 3; obtain ⟨Ao21, co21, eo21⟩ := Kd.R_slice HO277.out; subst eo21; obtain ⟨Ao22, co22, eo22⟩ := Kd.R_slice HO280.out; subst eo22))
    (try simp only [Act.put, List.setIfInBounds_toArray, List.set_cons_zero, List.set_cons_succ])
    go_cut [37] (fun v37 wc => ∃ (kq : Nat) (x37_6 : Bool), v37 = .bool x37_6 ∧ Aside0 (laws_FnExactGetSig.j0 kq l0 t268 t270 t281 x37_6 t260 t261 t262 t265 t273 t274 t275 t278 = some r) ∧ Aside0 (kq ≤ k) ∧ Aside0 (Kd.R (Kd.int .u8) 5 wc w.heap.size (fun _ => True) (.slice Ao16 t270.length co16) t270) ∧ Aside0 (Kd.R (Kd.int .u32) 87 wc w.heap.size (fun k_ => some k_ ≠ ((.slice Ao21 t275.length co21) : Value).ownBlock) (.slice Ao13 t262.length co13) t262) ∧ Aside0 (Kd.R Kd.string 9 wc w.heap.size (fun k_ => some k_ ≠ ((.slice Ao22 t278.length co22) : Value).ownBlock) (.slice Ao14 t265.length co14) t265) ∧ Aside0 (Kd.R (Kd.int .u32) 87 wc w.heap.size (fun k_ => some k_ ≠ ((.slice Ao13 t262.length co13) : Value).ownBlock) (.slice Ao21 t275.length co21) t275) ∧ Aside0 (Kd.R Kd.string 9 wc w.heap.size (fun k_ => some k_ ≠ ((.slice Ao14 t265.length co14) : Value).ownBlock) (.slice Ao22 t278.length co22) t278) ∧ Aside0 (wc.heap[gb269]? = some (.cells #[.int .i64 t260, .int .i64 t261, (.slice Ao13 t262.length co13), (.slice Ao14 t265.length co14)] 75 (0, 0))) ∧ Aside0 (wc.heap[gb282]? = some (.cells #[.int .i64 t273, .int .i64 t274, (.slice Ao21 t275.length co21), (.slice Ao22 t278.length co22)] 75 (0, 0))) ∧ Aside0 (Below w.heap.size w wc))
    case first =>
      have H := HC7.out
      clear HC7
      replace H := Option.bind_eq_some_iff.mp H
      obtain ⟨t283, A230, H⟩ := H
      replace H : (if t283 = true then (laws_FnExactGetSig.j0 k l0 t268 t270 t281 (t281 != t268) t260 t261 t262 t265 t273 t274 t275 t278) else (laws_FnExactGetSig.j0 k l0 t268 t270 t281 true t260 t261 t262 t265 t273 t274 t275 t278)) = some r := H
      have A23 := Aside0.mk A230
      clear A230
      by_cases c24 : t283 = true
      · subst c24
        have H1 : (laws_FnExactGetSig.j0 k l0 t268 t270 t281 (t281 != t268) t260 t261 t262 t265 t273 t274 t275 t278) = some r := by rw [if_pos rfl] at H; exact H
        clear H
        have H := H1
        clear H1
        have H' := Aside0.mk H
        clear H
        have hnb25 := NB282_269.out
        have hnc25 := NB269_282.out
        have hcz26_0 : w18.cell? ⟨gb282, 0, none⟩ = some (.int .i64 0) := (blk_cell BK282.out 0).trans rfl
        have hcz26_1 : w18.cell? ⟨gb282, 1, none⟩ = some (.int .i64 0) := (blk_cell BK282.out 1).trans rfl
        have hcz26_2 : w18.cell? ⟨gb282, 2, none⟩ = some (.slice none 0 0) := (blk_cell BK282.out 2).trans rfl
        have hcz26_3 : w18.cell? ⟨gb282, 3, none⟩ = some (.slice none 0 0) := (blk_cell BK282.out 3).trans rfl
        have hfz26_0 := blk_frozen BK282.out 0
        have hfz26_1 := blk_frozen BK282.out 1
        have hfz26_2 := blk_frozen BK282.out 2
        have hfz26_3 := blk_frozen BK282.out 3
        have hcz27_0 : w18.cell? ⟨gb269, 0, none⟩ = some (.int .i64 t260) := (blk_cell BK269.out 0).trans rfl
        have hcz27_1 : w18.cell? ⟨gb269, 1, none⟩ = some (.int .i64 t261) := (blk_cell BK269.out 1).trans rfl
        have hcz27_2 : w18.cell? ⟨gb269, 2, none⟩ = some (.slice Ao13 t262.length co13) := (blk_cell BK269.out 2).trans rfl
        have hcz27_3 : w18.cell? ⟨gb269, 3, none⟩ = some (.slice Ao14 t265.length co14) := (blk_cell BK269.out 3).trans rfl
        have hfz27_0 := blk_frozen BK269.out 0
        have hfz27_1 := blk_frozen BK269.out 1
        have hfz27_2 := blk_frozen BK269.out 2
        have hfz27_3 := blk_frozen BK269.out 3
        go_wp2_with (first | ((with_reducible refine gate_callee (f := 60) rfl ?_); refine goesL_ (some 31) rfl rfl Try.func60 (by kernel_rfl) rfl #[.agg #[.int .i64 t273, .int .i64 t274, .slice Ao21 t275.length co21, .slice Ao22 t278.length co22], .agg #[.int .i64 t260, .int .i64 t261, .slice Ao13 t262.length co13, .slice Ao14 t265.length co14]] rfl (by (try simp only [List.map_toArray, List.map_cons, List.map_nil]); first | done | rfl | (simp only [List.length_drop, List.length_take]; rfl)) ?_; (with_reducible refine (laws_eqSig.calls k t273 t274 _ _ t275 _ _ t278 t260 t261 _ _ t262 _ _ t265 true _ ?side1 ?side2 ?side3 ?side4 ?side5 ?side6 ?side7 ?side8 A23.out).mono ?_); (case side1 => refine (Kd.R_reads' (e := 87) (base := w.heap.size) (ok := fun k_ => (True ∧ some k_ ≠ (.slice Ao13 t262.length co13 : Value).ownBlock)) (n := t275.length) (c := co21) ?_).2.2; exact (by (with_reducible repeat (first | apply Kd.R_alloc | apply Kd.R_drewN | apply Kd.R_drew)); exact (Kd.R_mono (Kd.R_far (p := ⟨gb282, 3, none⟩) (Kd.R_far (p := ⟨gb282, 2, none⟩) (Kd.R_far (p := ⟨gb282, 1, none⟩) (Kd.R_far (p := ⟨gb282, 0, none⟩) (Kd.R_types HO277.out BK282.out (by decide)) (fun _ hk => hk.2) (.int .i64 t273)) (fun _ hk => hk.2) (.int .i64 t274)) (fun _ hk => hk.2) (.slice Ao21 t275.length co21)) (fun _ hk => hk.2) (.slice Ao22 t278.length co22)) (fun _ h_ => h_.1)))); (case side2 => exact (Kd.R_reads' HO277.out).2.1); (case side3 => refine (Kd.R_reads' (e := 9) (base := w.heap.size) (ok := fun k_ => (True ∧ some k_ ≠ (.slice Ao14 t265.length co14 : Value).ownBlock)) (n := t278.length) (c := co22) ?_).2.2; exact (by (with_reducible repeat (first | apply Kd.R_alloc | apply Kd.R_drewN | apply Kd.R_drew)); exact (Kd.R_mono (Kd.R_far (p := ⟨gb282, 3, none⟩) (Kd.R_far (p := ⟨gb282, 2, none⟩) (Kd.R_far (p := ⟨gb282, 1, none⟩) (Kd.R_far (p := ⟨gb282, 0, none⟩) (Kd.R_types HO280.out BK282.out (by decide)) (fun _ hk => hk.2) (.int .i64 t273)) (fun _ hk => hk.2) (.int .i64 t274)) (fun _ hk => hk.2) (.slice Ao21 t275.length co21)) (fun _ hk => hk.2) (.slice Ao22 t278.length co22)) (fun _ h_ => h_.1)))); (case side4 => exact (Kd.R_reads' HO280.out).2.1); (case side5 => refine (Kd.R_reads' (e := 87) (base := w.heap.size) (ok := fun k_ => (True ∧ some k_ ≠ (.slice Ao21 t275.length co21 : Value).ownBlock)) (n := t262.length) (c := co13) ?_).2.2; exact (by (with_reducible repeat (first | apply Kd.R_alloc | apply Kd.R_drewN | apply Kd.R_drew)); exact (Kd.R_mono (Kd.R_far (p := ⟨gb282, 3, none⟩) (Kd.R_far (p := ⟨gb282, 2, none⟩) (Kd.R_far (p := ⟨gb282, 1, none⟩) (Kd.R_far (p := ⟨gb282, 0, none⟩) (Kd.R_types HO264.out BK282.out (by decide)) (fun _ hk => hk.2) (.int .i64 t273)) (fun _ hk => hk.2) (.int .i64 t274)) (fun _ hk => hk.2) (.slice Ao21 t275.length co21)) (fun _ hk => hk.2) (.slice Ao22 t278.length co22)) (fun _ h_ => h_.1)))); (case side6 => exact (Kd.R_reads' HO264.out).2.1); (case side7 => refine (Kd.R_reads' (e := 9) (base := w.heap.size) (ok := fun k_ => (True ∧ some k_ ≠ (.slice Ao22 t278.length co22 : Value).ownBlock)) (n := t265.length) (c := co14) ?_).2.2; exact (by (with_reducible repeat (first | apply Kd.R_alloc | apply Kd.R_drewN | apply Kd.R_drew)); exact (Kd.R_mono (Kd.R_far (p := ⟨gb282, 3, none⟩) (Kd.R_far (p := ⟨gb282, 2, none⟩) (Kd.R_far (p := ⟨gb282, 1, none⟩) (Kd.R_far (p := ⟨gb282, 0, none⟩) (Kd.R_types HO267.out BK282.out (by decide)) (fun _ hk => hk.2) (.int .i64 t273)) (fun _ hk => hk.2) (.int .i64 t274)) (fun _ hk => hk.2) (.slice Ao21 t275.length co21)) (fun _ hk => hk.2) (.slice Ao22 t278.length co22)) (fun _ h_ => h_.1)))); (case side8 => exact (Kd.R_reads' HO267.out).2.1); rintro e w28 ⟨rfl, hb⟩; refine ⟨_, rfl, ?_⟩; have n0_ := Aside0.mk (Kd.R_below (by (with_reducible repeat (first | apply Kd.R_alloc | apply Kd.R_drewN | apply Kd.R_drew)); exact (Kd.R_mono (Kd.R_far (p := ⟨gb282, 3, none⟩) (Kd.R_far (p := ⟨gb282, 2, none⟩) (Kd.R_far (p := ⟨gb282, 1, none⟩) (Kd.R_far (p := ⟨gb282, 0, none⟩) (Kd.R_types HO259.out BK282.out (by decide)) (fun _ hk => hk.2) (.int .i64 t273)) (fun _ hk => hk.2) (.int .i64 t274)) (fun _ hk => hk.2) (.slice Ao21 t275.length co21)) (fun _ hk => hk.2) (.slice Ao22 t278.length co22)) (fun _ h_ => h_.1))) hb); have n1_ := Aside0.mk (Kd.R_below (by (with_reducible repeat (first | apply Kd.R_alloc | apply Kd.R_drewN | apply Kd.R_drew)); exact (Kd.R_mono (Kd.R_far (p := ⟨gb282, 3, none⟩) (Kd.R_far (p := ⟨gb282, 2, none⟩) (Kd.R_far (p := ⟨gb282, 1, none⟩) (Kd.R_far (p := ⟨gb282, 0, none⟩) (Kd.R_types HO264.out BK282.out (by decide)) (fun _ hk => hk.2) (.int .i64 t273)) (fun _ hk => hk.2) (.int .i64 t274)) (fun _ hk => hk.2) (.slice Ao21 t275.length co21)) (fun _ hk => hk.2) (.slice Ao22 t278.length co22)) (fun _ h_ => h_.1))) hb); have n2_ := Aside0.mk (Kd.R_below (by (with_reducible repeat (first | apply Kd.R_alloc | apply Kd.R_drewN | apply Kd.R_drew)); exact (Kd.R_mono (Kd.R_far (p := ⟨gb282, 3, none⟩) (Kd.R_far (p := ⟨gb282, 2, none⟩) (Kd.R_far (p := ⟨gb282, 1, none⟩) (Kd.R_far (p := ⟨gb282, 0, none⟩) (Kd.R_types HO267.out BK282.out (by decide)) (fun _ hk => hk.2) (.int .i64 t273)) (fun _ hk => hk.2) (.int .i64 t274)) (fun _ hk => hk.2) (.slice Ao21 t275.length co21)) (fun _ hk => hk.2) (.slice Ao22 t278.length co22)) (fun _ h_ => h_.1))) hb); have n3_ := Aside0.mk (Kd.R_below (by (with_reducible repeat (first | apply Kd.R_alloc | apply Kd.R_drewN | apply Kd.R_drew)); exact (Kd.R_mono (Kd.R_far (p := ⟨gb282, 3, none⟩) (Kd.R_far (p := ⟨gb282, 2, none⟩) (Kd.R_far (p := ⟨gb282, 1, none⟩) (Kd.R_far (p := ⟨gb282, 0, none⟩) (Kd.R_types HO272.out BK282.out (by decide)) (fun _ hk => hk.2) (.int .i64 t273)) (fun _ hk => hk.2) (.int .i64 t274)) (fun _ hk => hk.2) (.slice Ao21 t275.length co21)) (fun _ hk => hk.2) (.slice Ao22 t278.length co22)) (fun _ h_ => h_.1))) hb); have n4_ := Aside0.mk (Kd.R_below (by (with_reducible repeat (first | apply Kd.R_alloc | apply Kd.R_drewN | apply Kd.R_drew)); exact (Kd.R_mono (Kd.R_far (p := ⟨gb282, 3, none⟩) (Kd.R_far (p := ⟨gb282, 2, none⟩) (Kd.R_far (p := ⟨gb282, 1, none⟩) (Kd.R_far (p := ⟨gb282, 0, none⟩) (Kd.R_types HO277.out BK282.out (by decide)) (fun _ hk => hk.2) (.int .i64 t273)) (fun _ hk => hk.2) (.int .i64 t274)) (fun _ hk => hk.2) (.slice Ao21 t275.length co21)) (fun _ hk => hk.2) (.slice Ao22 t278.length co22)) (fun _ h_ => h_.1))) hb); have n5_ := Aside0.mk (Kd.R_below (by (with_reducible repeat (first | apply Kd.R_alloc | apply Kd.R_drewN | apply Kd.R_drew)); exact (Kd.R_mono (Kd.R_far (p := ⟨gb282, 3, none⟩) (Kd.R_far (p := ⟨gb282, 2, none⟩) (Kd.R_far (p := ⟨gb282, 1, none⟩) (Kd.R_far (p := ⟨gb282, 0, none⟩) (Kd.R_types HO280.out BK282.out (by decide)) (fun _ hk => hk.2) (.int .i64 t273)) (fun _ hk => hk.2) (.int .i64 t274)) (fun _ hk => hk.2) (.slice Ao21 t275.length co21)) (fun _ hk => hk.2) (.slice Ao22 t278.length co22)) (fun _ h_ => h_.1))) hb); have n6_ := Aside0.mk (blk_below (g := gb269) (o := .cells #[.int .i64 t260, .int .i64 t261, .slice Ao13 t262.length co13, .slice Ao14 t265.length co14] 75 (0, 0)) (by (with_reducible repeat (first | refine blk_drewN ?_ _ | refine blk_drew ?_ | refine blk_alloc ?_ _)); refine blk_far ?_ NB269_282.out _; (with_reducible repeat (first | refine blk_drewN ?_ _ | refine blk_drew ?_ | refine blk_alloc ?_ _)); refine blk_far ?_ NB269_282.out _; (with_reducible repeat (first | refine blk_drewN ?_ _ | refine blk_drew ?_ | refine blk_alloc ?_ _)); refine blk_far ?_ NB269_282.out _; (with_reducible repeat (first | refine blk_drewN ?_ _ | refine blk_drew ?_ | refine blk_alloc ?_ _)); refine blk_far ?_ NB269_282.out _; (with_reducible repeat (first | refine blk_drewN ?_ _ | refine blk_drew ?_ | refine blk_alloc ?_ _)); exact BK269.out) hb); have n7_ := Aside0.mk (blk_below (g := gb282) (o := .cells #[.int .i64 t273, .int .i64 t274, .slice Ao21 t275.length co21, .slice Ao22 t278.length co22] 75 (0, 0)) (by (with_reducible repeat (first | refine blk_drewN ?_ _ | refine blk_drew ?_ | refine blk_alloc ?_ _)); refine blk_put (cs := #[.int .i64 t273, .int .i64 t274, .slice Ao21 t275.length co21, .slice none 0 0]) ?_ 3 _ rfl; (with_reducible repeat (first | refine blk_drewN ?_ _ | refine blk_drew ?_ | refine blk_alloc ?_ _)); refine blk_put (cs := #[.int .i64 t273, .int .i64 t274, .slice none 0 0, .slice none 0 0]) ?_ 2 _ rfl; (with_reducible repeat (first | refine blk_drewN ?_ _ | refine blk_drew ?_ | refine blk_alloc ?_ _)); refine blk_put (cs := #[.int .i64 t273, .int .i64 0, .slice none 0 0, .slice none 0 0]) ?_ 1 _ rfl; (with_reducible repeat (first | refine blk_drewN ?_ _ | refine blk_drew ?_ | refine blk_alloc ?_ _)); refine blk_put (cs := #[.int .i64 0, .int .i64 0, .slice none 0 0, .slice none 0 0]) ?_ 0 _ rfl; (with_reducible repeat (first | refine blk_drewN ?_ _ | refine blk_drew ?_ | refine blk_alloc ?_ _)); exact BK282.out) hb); have n8_ := Aside0.mk (below_step (by repeat (first | (with_reducible first | exact HB.out | apply below_alloc | apply pw_below_drewN | apply below_drew1 | refine below_set ?_ GE269.out | refine below_set ?_ GE282.out) | exact HB.out)) hb); clear HO259; clear HO264; clear HO267; clear HO272; clear HO277; clear HO280; clear BK269; clear BK282; clear HB; have HO259 := n0_; have HO264 := n1_; have HO267 := n2_; have HO272 := n3_; have HO277 := n4_; have HO280 := n5_; have BK269 := n6_; have BK282 := n7_; have HB := n8_; clear n0_ n1_ n2_ n3_ n4_ n5_ n6_ n7_ n8_; (try clear hb); (try clear hb2); (try clear hk); (try clear hi)))
        go_meet
        case rel => exact ⟨_, ((t281 != t268)), (by first | rfl | (simp; done) | (simp [*]; done)), H', ⟨by first | omega | exact Nat.le_refl _⟩, ⟨by (with_reducible repeat (first | apply Kd.R_alloc | apply Kd.R_drewN | apply Kd.R_drew)); exact Kd.R_mono HO272.out (fun _ hk => trivial)⟩, ⟨by (with_reducible repeat (first | apply Kd.R_alloc | apply Kd.R_drewN | apply Kd.R_drew)); exact Kd.R_mono HO264.out (fun _ hk => hk.2)⟩, ⟨by (with_reducible repeat (first | apply Kd.R_alloc | apply Kd.R_drewN | apply Kd.R_drew)); exact Kd.R_mono HO267.out (fun _ hk => hk.2)⟩, ⟨by (with_reducible repeat (first | apply Kd.R_alloc | apply Kd.R_drewN | apply Kd.R_drew)); exact Kd.R_mono HO277.out (fun _ hk => hk.2)⟩, ⟨by (with_reducible repeat (first | apply Kd.R_alloc | apply Kd.R_drewN | apply Kd.R_drew)); exact Kd.R_mono HO280.out (fun _ hk => hk.2)⟩, ⟨by (with_reducible repeat (first | refine blk_drewN ?_ _ | refine blk_drew ?_ | refine blk_alloc ?_ _)); exact BK269.out⟩, ⟨by (with_reducible repeat (first | refine blk_drewN ?_ _ | refine blk_drew ?_ | refine blk_alloc ?_ _)); exact BK282.out⟩, ⟨by repeat (first | (with_reducible first | exact HB.out | apply below_alloc | apply pw_below_drewN | apply below_drew1 | refine below_set ?_ GE269.out | refine below_set ?_ GE282.out) | exact HB.out)⟩⟩
      · replace c24 := Bool.eq_false_iff.mpr c24
        subst c24
        have H1 : (laws_FnExactGetSig.j0 k l0 t268 t270 t281 true t260 t261 t262 t265 t273 t274 t275 t278) = some r := by rw [if_neg (show ¬ (false = true) by decide)] at H; exact H
        clear H
        have H := H1
        clear H1
        have H' := Aside0.mk H
        clear H
        have hnb29 := NB282_269.out
        have hnc29 := NB269_282.out
        have hcz30_0 : w18.cell? ⟨gb282, 0, none⟩ = some (.int .i64 0) := (blk_cell BK282.out 0).trans rfl
        have hcz30_1 : w18.cell? ⟨gb282, 1, none⟩ = some (.int .i64 0) := (blk_cell BK282.out 1).trans rfl
        have hcz30_2 : w18.cell? ⟨gb282, 2, none⟩ = some (.slice none 0 0) := (blk_cell BK282.out 2).trans rfl
        have hcz30_3 : w18.cell? ⟨gb282, 3, none⟩ = some (.slice none 0 0) := (blk_cell BK282.out 3).trans rfl
        have hfz30_0 := blk_frozen BK282.out 0
        have hfz30_1 := blk_frozen BK282.out 1
        have hfz30_2 := blk_frozen BK282.out 2
        have hfz30_3 := blk_frozen BK282.out 3
        have hcz31_0 : w18.cell? ⟨gb269, 0, none⟩ = some (.int .i64 t260) := (blk_cell BK269.out 0).trans rfl
        have hcz31_1 : w18.cell? ⟨gb269, 1, none⟩ = some (.int .i64 t261) := (blk_cell BK269.out 1).trans rfl
        have hcz31_2 : w18.cell? ⟨gb269, 2, none⟩ = some (.slice Ao13 t262.length co13) := (blk_cell BK269.out 2).trans rfl
        have hcz31_3 : w18.cell? ⟨gb269, 3, none⟩ = some (.slice Ao14 t265.length co14) := (blk_cell BK269.out 3).trans rfl
        have hfz31_0 := blk_frozen BK269.out 0
        have hfz31_1 := blk_frozen BK269.out 1
        have hfz31_2 := blk_frozen BK269.out 2
        have hfz31_3 := blk_frozen BK269.out 3
        go_wp2_with (first | ((with_reducible refine gate_callee (f := 60) rfl ?_); refine goesL_ (some 31) rfl rfl Try.func60 (by kernel_rfl) rfl #[.agg #[.int .i64 t273, .int .i64 t274, .slice Ao21 t275.length co21, .slice Ao22 t278.length co22], .agg #[.int .i64 t260, .int .i64 t261, .slice Ao13 t262.length co13, .slice Ao14 t265.length co14]] rfl (by (try simp only [List.map_toArray, List.map_cons, List.map_nil]); first | done | rfl | (simp only [List.length_drop, List.length_take]; rfl)) ?_; (with_reducible refine (laws_eqSig.calls k t273 t274 _ _ t275 _ _ t278 t260 t261 _ _ t262 _ _ t265 false _ ?side1 ?side2 ?side3 ?side4 ?side5 ?side6 ?side7 ?side8 A23.out).mono ?_); (case side1 => refine (Kd.R_reads' (e := 87) (base := w.heap.size) (ok := fun k_ => (True ∧ some k_ ≠ (.slice Ao13 t262.length co13 : Value).ownBlock)) (n := t275.length) (c := co21) ?_).2.2; exact (by (with_reducible repeat (first | apply Kd.R_alloc | apply Kd.R_drewN | apply Kd.R_drew)); exact (Kd.R_mono (Kd.R_far (p := ⟨gb282, 3, none⟩) (Kd.R_far (p := ⟨gb282, 2, none⟩) (Kd.R_far (p := ⟨gb282, 1, none⟩) (Kd.R_far (p := ⟨gb282, 0, none⟩) (Kd.R_types HO277.out BK282.out (by decide)) (fun _ hk => hk.2) (.int .i64 t273)) (fun _ hk => hk.2) (.int .i64 t274)) (fun _ hk => hk.2) (.slice Ao21 t275.length co21)) (fun _ hk => hk.2) (.slice Ao22 t278.length co22)) (fun _ h_ => h_.1)))); (case side2 => exact (Kd.R_reads' HO277.out).2.1); (case side3 => refine (Kd.R_reads' (e := 9) (base := w.heap.size) (ok := fun k_ => (True ∧ some k_ ≠ (.slice Ao14 t265.length co14 : Value).ownBlock)) (n := t278.length) (c := co22) ?_).2.2; exact (by (with_reducible repeat (first | apply Kd.R_alloc | apply Kd.R_drewN | apply Kd.R_drew)); exact (Kd.R_mono (Kd.R_far (p := ⟨gb282, 3, none⟩) (Kd.R_far (p := ⟨gb282, 2, none⟩) (Kd.R_far (p := ⟨gb282, 1, none⟩) (Kd.R_far (p := ⟨gb282, 0, none⟩) (Kd.R_types HO280.out BK282.out (by decide)) (fun _ hk => hk.2) (.int .i64 t273)) (fun _ hk => hk.2) (.int .i64 t274)) (fun _ hk => hk.2) (.slice Ao21 t275.length co21)) (fun _ hk => hk.2) (.slice Ao22 t278.length co22)) (fun _ h_ => h_.1)))); (case side4 => exact (Kd.R_reads' HO280.out).2.1); (case side5 => refine (Kd.R_reads' (e := 87) (base := w.heap.size) (ok := fun k_ => (True ∧ some k_ ≠ (.slice Ao21 t275.length co21 : Value).ownBlock)) (n := t262.length) (c := co13) ?_).2.2; exact (by (with_reducible repeat (first | apply Kd.R_alloc | apply Kd.R_drewN | apply Kd.R_drew)); exact (Kd.R_mono (Kd.R_far (p := ⟨gb282, 3, none⟩) (Kd.R_far (p := ⟨gb282, 2, none⟩) (Kd.R_far (p := ⟨gb282, 1, none⟩) (Kd.R_far (p := ⟨gb282, 0, none⟩) (Kd.R_types HO264.out BK282.out (by decide)) (fun _ hk => hk.2) (.int .i64 t273)) (fun _ hk => hk.2) (.int .i64 t274)) (fun _ hk => hk.2) (.slice Ao21 t275.length co21)) (fun _ hk => hk.2) (.slice Ao22 t278.length co22)) (fun _ h_ => h_.1)))); (case side6 => exact (Kd.R_reads' HO264.out).2.1); (case side7 => refine (Kd.R_reads' (e := 9) (base := w.heap.size) (ok := fun k_ => (True ∧ some k_ ≠ (.slice Ao22 t278.length co22 : Value).ownBlock)) (n := t265.length) (c := co14) ?_).2.2; exact (by (with_reducible repeat (first | apply Kd.R_alloc | apply Kd.R_drewN | apply Kd.R_drew)); exact (Kd.R_mono (Kd.R_far (p := ⟨gb282, 3, none⟩) (Kd.R_far (p := ⟨gb282, 2, none⟩) (Kd.R_far (p := ⟨gb282, 1, none⟩) (Kd.R_far (p := ⟨gb282, 0, none⟩) (Kd.R_types HO267.out BK282.out (by decide)) (fun _ hk => hk.2) (.int .i64 t273)) (fun _ hk => hk.2) (.int .i64 t274)) (fun _ hk => hk.2) (.slice Ao21 t275.length co21)) (fun _ hk => hk.2) (.slice Ao22 t278.length co22)) (fun _ h_ => h_.1)))); (case side8 => exact (Kd.R_reads' HO267.out).2.1); rintro e w32 ⟨rfl, hb⟩; refine ⟨_, rfl, ?_⟩; have n0_ := Aside0.mk (Kd.R_below (by (with_reducible repeat (first | apply Kd.R_alloc | apply Kd.R_drewN | apply Kd.R_drew)); exact (Kd.R_mono (Kd.R_far (p := ⟨gb282, 3, none⟩) (Kd.R_far (p := ⟨gb282, 2, none⟩) (Kd.R_far (p := ⟨gb282, 1, none⟩) (Kd.R_far (p := ⟨gb282, 0, none⟩) (Kd.R_types HO259.out BK282.out (by decide)) (fun _ hk => hk.2) (.int .i64 t273)) (fun _ hk => hk.2) (.int .i64 t274)) (fun _ hk => hk.2) (.slice Ao21 t275.length co21)) (fun _ hk => hk.2) (.slice Ao22 t278.length co22)) (fun _ h_ => h_.1))) hb); have n1_ := Aside0.mk (Kd.R_below (by (with_reducible repeat (first | apply Kd.R_alloc | apply Kd.R_drewN | apply Kd.R_drew)); exact (Kd.R_mono (Kd.R_far (p := ⟨gb282, 3, none⟩) (Kd.R_far (p := ⟨gb282, 2, none⟩) (Kd.R_far (p := ⟨gb282, 1, none⟩) (Kd.R_far (p := ⟨gb282, 0, none⟩) (Kd.R_types HO264.out BK282.out (by decide)) (fun _ hk => hk.2) (.int .i64 t273)) (fun _ hk => hk.2) (.int .i64 t274)) (fun _ hk => hk.2) (.slice Ao21 t275.length co21)) (fun _ hk => hk.2) (.slice Ao22 t278.length co22)) (fun _ h_ => h_.1))) hb); have n2_ := Aside0.mk (Kd.R_below (by (with_reducible repeat (first | apply Kd.R_alloc | apply Kd.R_drewN | apply Kd.R_drew)); exact (Kd.R_mono (Kd.R_far (p := ⟨gb282, 3, none⟩) (Kd.R_far (p := ⟨gb282, 2, none⟩) (Kd.R_far (p := ⟨gb282, 1, none⟩) (Kd.R_far (p := ⟨gb282, 0, none⟩) (Kd.R_types HO267.out BK282.out (by decide)) (fun _ hk => hk.2) (.int .i64 t273)) (fun _ hk => hk.2) (.int .i64 t274)) (fun _ hk => hk.2) (.slice Ao21 t275.length co21)) (fun _ hk => hk.2) (.slice Ao22 t278.length co22)) (fun _ h_ => h_.1))) hb); have n3_ := Aside0.mk (Kd.R_below (by (with_reducible repeat (first | apply Kd.R_alloc | apply Kd.R_drewN | apply Kd.R_drew)); exact (Kd.R_mono (Kd.R_far (p := ⟨gb282, 3, none⟩) (Kd.R_far (p := ⟨gb282, 2, none⟩) (Kd.R_far (p := ⟨gb282, 1, none⟩) (Kd.R_far (p := ⟨gb282, 0, none⟩) (Kd.R_types HO272.out BK282.out (by decide)) (fun _ hk => hk.2) (.int .i64 t273)) (fun _ hk => hk.2) (.int .i64 t274)) (fun _ hk => hk.2) (.slice Ao21 t275.length co21)) (fun _ hk => hk.2) (.slice Ao22 t278.length co22)) (fun _ h_ => h_.1))) hb); have n4_ := Aside0.mk (Kd.R_below (by (with_reducible repeat (first | apply Kd.R_alloc | apply Kd.R_drewN | apply Kd.R_drew)); exact (Kd.R_mono (Kd.R_far (p := ⟨gb282, 3, none⟩) (Kd.R_far (p := ⟨gb282, 2, none⟩) (Kd.R_far (p := ⟨gb282, 1, none⟩) (Kd.R_far (p := ⟨gb282, 0, none⟩) (Kd.R_types HO277.out BK282.out (by decide)) (fun _ hk => hk.2) (.int .i64 t273)) (fun _ hk => hk.2) (.int .i64 t274)) (fun _ hk => hk.2) (.slice Ao21 t275.length co21)) (fun _ hk => hk.2) (.slice Ao22 t278.length co22)) (fun _ h_ => h_.1))) hb); have n5_ := Aside0.mk (Kd.R_below (by (with_reducible repeat (first | apply Kd.R_alloc | apply Kd.R_drewN | apply Kd.R_drew)); exact (Kd.R_mono (Kd.R_far (p := ⟨gb282, 3, none⟩) (Kd.R_far (p := ⟨gb282, 2, none⟩) (Kd.R_far (p := ⟨gb282, 1, none⟩) (Kd.R_far (p := ⟨gb282, 0, none⟩) (Kd.R_types HO280.out BK282.out (by decide)) (fun _ hk => hk.2) (.int .i64 t273)) (fun _ hk => hk.2) (.int .i64 t274)) (fun _ hk => hk.2) (.slice Ao21 t275.length co21)) (fun _ hk => hk.2) (.slice Ao22 t278.length co22)) (fun _ h_ => h_.1))) hb); have n6_ := Aside0.mk (blk_below (g := gb269) (o := .cells #[.int .i64 t260, .int .i64 t261, .slice Ao13 t262.length co13, .slice Ao14 t265.length co14] 75 (0, 0)) (by (with_reducible repeat (first | refine blk_drewN ?_ _ | refine blk_drew ?_ | refine blk_alloc ?_ _)); refine blk_far ?_ NB269_282.out _; (with_reducible repeat (first | refine blk_drewN ?_ _ | refine blk_drew ?_ | refine blk_alloc ?_ _)); refine blk_far ?_ NB269_282.out _; (with_reducible repeat (first | refine blk_drewN ?_ _ | refine blk_drew ?_ | refine blk_alloc ?_ _)); refine blk_far ?_ NB269_282.out _; (with_reducible repeat (first | refine blk_drewN ?_ _ | refine blk_drew ?_ | refine blk_alloc ?_ _)); refine blk_far ?_ NB269_282.out _; (with_reducible repeat (first | refine blk_drewN ?_ _ | refine blk_drew ?_ | refine blk_alloc ?_ _)); exact BK269.out) hb); have n7_ := Aside0.mk (blk_below (g := gb282) (o := .cells #[.int .i64 t273, .int .i64 t274, .slice Ao21 t275.length co21, .slice Ao22 t278.length co22] 75 (0, 0)) (by (with_reducible repeat (first | refine blk_drewN ?_ _ | refine blk_drew ?_ | refine blk_alloc ?_ _)); refine blk_put (cs := #[.int .i64 t273, .int .i64 t274, .slice Ao21 t275.length co21, .slice none 0 0]) ?_ 3 _ rfl; (with_reducible repeat (first | refine blk_drewN ?_ _ | refine blk_drew ?_ | refine blk_alloc ?_ _)); refine blk_put (cs := #[.int .i64 t273, .int .i64 t274, .slice none 0 0, .slice none 0 0]) ?_ 2 _ rfl; (with_reducible repeat (first | refine blk_drewN ?_ _ | refine blk_drew ?_ | refine blk_alloc ?_ _)); refine blk_put (cs := #[.int .i64 t273, .int .i64 0, .slice none 0 0, .slice none 0 0]) ?_ 1 _ rfl; (with_reducible repeat (first | refine blk_drewN ?_ _ | refine blk_drew ?_ | refine blk_alloc ?_ _)); refine blk_put (cs := #[.int .i64 0, .int .i64 0, .slice none 0 0, .slice none 0 0]) ?_ 0 _ rfl; (with_reducible repeat (first | refine blk_drewN ?_ _ | refine blk_drew ?_ | refine blk_alloc ?_ _)); exact BK282.out) hb); have n8_ := Aside0.mk (below_step (by repeat (first | (with_reducible first | exact HB.out | apply below_alloc | apply pw_below_drewN | apply below_drew1 | refine below_set ?_ GE269.out | refine below_set ?_ GE282.out) | exact HB.out)) hb); clear HO259; clear HO264; clear HO267; clear HO272; clear HO277; clear HO280; clear BK269; clear BK282; clear HB; have HO259 := n0_; have HO264 := n1_; have HO267 := n2_; have HO272 := n3_; have HO277 := n4_; have HO280 := n5_; have BK269 := n6_; have BK282 := n7_; have HB := n8_; clear n0_ n1_ n2_ n3_ n4_ n5_ n6_ n7_ n8_; (try clear hb); (try clear hb2); (try clear hk); (try clear hi)))
        go_meet
        case rel => exact ⟨_, (true), (by first | rfl | (simp; done) | (simp [*]; done)), H', ⟨by first | omega | exact Nat.le_refl _⟩, ⟨by (with_reducible repeat (first | apply Kd.R_alloc | apply Kd.R_drewN | apply Kd.R_drew)); exact Kd.R_mono HO272.out (fun _ hk => trivial)⟩, ⟨by (with_reducible repeat (first | apply Kd.R_alloc | apply Kd.R_drewN | apply Kd.R_drew)); exact Kd.R_mono HO264.out (fun _ hk => hk.2)⟩, ⟨by (with_reducible repeat (first | apply Kd.R_alloc | apply Kd.R_drewN | apply Kd.R_drew)); exact Kd.R_mono HO267.out (fun _ hk => hk.2)⟩, ⟨by (with_reducible repeat (first | apply Kd.R_alloc | apply Kd.R_drewN | apply Kd.R_drew)); exact Kd.R_mono HO277.out (fun _ hk => hk.2)⟩, ⟨by (with_reducible repeat (first | apply Kd.R_alloc | apply Kd.R_drewN | apply Kd.R_drew)); exact Kd.R_mono HO280.out (fun _ hk => hk.2)⟩, ⟨by (with_reducible repeat (first | refine blk_drewN ?_ _ | refine blk_drew ?_ | refine blk_alloc ?_ _)); exact BK269.out⟩, ⟨by (with_reducible repeat (first | refine blk_drewN ?_ _ | refine blk_drew ?_ | refine blk_alloc ?_ _)); exact BK282.out⟩, ⟨by repeat (first | (with_reducible first | exact HB.out | apply below_alloc | apply pw_below_drewN | apply below_drew1 | refine below_set ?_ GE269.out | refine below_set ?_ GE282.out) | exact HB.out)⟩⟩
    case rest =>
      clear HC7
      try clear c1
      try clear c2
      try clear c2b0
      try clear c2b1
      try clear p2
      try clear c3
      try clear c5
      try clear c6
      try clear c13
      try clear c19
      try clear c24
      try clear c25
      try clear c29
      try clear hcz12_0
      try clear hcz12_1
      try clear hcz12_2
      try clear hcz12_3
      try clear hcz20_0
      try clear hcz20_1
      try clear hcz20_2
      try clear hcz20_3
      try clear hcz26_0
      try clear hcz26_1
      try clear hcz26_2
      try clear hcz26_3
      try clear hcz27_0
      try clear hcz27_1
      try clear hcz27_2
      try clear hcz27_3
      try clear hcz30_0
      try clear hcz30_1
      try clear hcz30_2
      try clear hcz30_3
      try clear hcz31_0
      try clear hcz31_1
      try clear hcz31_2
      try clear hcz31_3
      try clear hfz12_0
      try clear hfz12_1
      try clear hfz12_2
      try clear hfz12_3
      try clear hfz20_0
      try clear hfz20_1
      try clear hfz20_2
      try clear hfz20_3
      try clear hfz26_0
      try clear hfz26_1
      try clear hfz26_2
      try clear hfz26_3
      try clear hfz27_0
      try clear hfz27_1
      try clear hfz27_2
      try clear hfz27_3
      try clear hfz30_0
      try clear hfz30_1
      try clear hfz30_2
      try clear hfz30_3
      try clear hfz31_0
      try clear hfz31_1
      try clear hfz31_2
      try clear hfz31_3
      obtain ⟨kq, x37_6, rfl, HA, HJ6, HO_5, HO_270002, HO_270003, HO_283002, HO_283003, BK269, BK282, HB⟩ := hcut
      cases kq with
      | zero => exact absurd HA.out (by simp [laws_FnExactGetSig.j0])
      | succ kj6 =>
        have H := HA.out
        clear HA
        simp only [laws_FnExactGetSig.j0] at H
        by_cases c33 : x37_6 = true
        · subst c33
          have H1 : (some false) = some r := by rw [if_pos rfl] at H; exact H
          clear H
          have H := H1
          clear H1
          exact absurd (hrt.symm.trans (Option.some.inj H).symm) (by decide)
        · replace c33 := Bool.eq_false_iff.mpr c33
          subst c33
          have H1 : ((laws_toByteS.f kj6 l0).bind fun t284 => ((laws_eqByteS.f kj6 t270 t284).bind fun t287 => (if t287 = true then ((laws_markByteS.f kj6 t270 1).bind fun bt288 => (if bt288.1 < 0 then (laws_FnExactGetSig.j1 kj6 l0 t268 true t260 t261 t262 t265 t273 t274 t275 t278) else ((laws_eqSig.f kj6 t273 t274 t275 t278 t260 t261 t262 t265).bind fun t290 => (if t290 = true then (laws_FnExactGetSig.j1 kj6 l0 t268 (t281 != t268) t260 t261 t262 t265 t273 t274 t275 t278) else (laws_FnExactGetSig.j1 kj6 l0 t268 true t260 t261 t262 t265 t273 t274 t275 t278))))) else (some false)))) = some r := by rw [if_neg (show ¬ (false = true) by decide)] at H; exact H
          clear H
          have H := H1
          clear H1
          replace H := Option.bind_eq_some_iff.mp H
          obtain ⟨t284, A340, H⟩ := H
          replace H : ((laws_eqByteS.f kj6 t270 t284).bind fun t287 => (if t287 = true then ((laws_markByteS.f kj6 t270 1).bind fun bt288 => (if bt288.1 < 0 then (laws_FnExactGetSig.j1 kj6 l0 t268 true t260 t261 t262 t265 t273 t274 t275 t278) else ((laws_eqSig.f kj6 t273 t274 t275 t278 t260 t261 t262 t265).bind fun t290 => (if t290 = true then (laws_FnExactGetSig.j1 kj6 l0 t268 (t281 != t268) t260 t261 t262 t265 t273 t274 t275 t278) else (laws_FnExactGetSig.j1 kj6 l0 t268 true t260 t261 t262 t265 t273 t274 t275 t278))))) else (some false))) = some r := H
          have A34 := Aside0.mk A340
          clear A340
          replace H := Option.bind_eq_some_iff.mp H
          obtain ⟨t287, A350, H⟩ := H
          replace H : (if t287 = true then ((laws_markByteS.f kj6 t270 1).bind fun bt288 => (if bt288.1 < 0 then (laws_FnExactGetSig.j1 kj6 l0 t268 true t260 t261 t262 t265 t273 t274 t275 t278) else ((laws_eqSig.f kj6 t273 t274 t275 t278 t260 t261 t262 t265).bind fun t290 => (if t290 = true then (laws_FnExactGetSig.j1 kj6 l0 t268 (t281 != t268) t260 t261 t262 t265 t273 t274 t275 t278) else (laws_FnExactGetSig.j1 kj6 l0 t268 true t260 t261 t262 t265 t273 t274 t275 t278))))) else (some false)) = some r := H
          have A35 := Aside0.mk A350
          clear A350
          by_cases c36 : t287 = true
          · subst c36
            have H1 : ((laws_markByteS.f kj6 t270 1).bind fun bt288 => (if bt288.1 < 0 then (laws_FnExactGetSig.j1 kj6 l0 t268 true t260 t261 t262 t265 t273 t274 t275 t278) else ((laws_eqSig.f kj6 t273 t274 t275 t278 t260 t261 t262 t265).bind fun t290 => (if t290 = true then (laws_FnExactGetSig.j1 kj6 l0 t268 (t281 != t268) t260 t261 t262 t265 t273 t274 t275 t278) else (laws_FnExactGetSig.j1 kj6 l0 t268 true t260 t261 t262 t265 t273 t274 t275 t278))))) = some r := by rw [if_pos rfl] at H; exact H
            clear H
            have H := H1
            clear H1
            replace H := Option.bind_eq_some_iff.mp H
            obtain ⟨⟨t288, t289⟩, A370, H⟩ := H
            replace H : (if t288 < 0 then (laws_FnExactGetSig.j1 kj6 l0 t268 true t260 t261 t262 t265 t273 t274 t275 t278) else ((laws_eqSig.f kj6 t273 t274 t275 t278 t260 t261 t262 t265).bind fun t290 => (if t290 = true then (laws_FnExactGetSig.j1 kj6 l0 t268 (t281 != t268) t260 t261 t262 t265 t273 t274 t275 t278) else (laws_FnExactGetSig.j1 kj6 l0 t268 true t260 t261 t262 t265 t273 t274 t275 t278)))) = some r := H
            have A37 := Aside0.mk A370
            clear A370
            have HC38 := Aside0.mk H
            clear H
            go_upto_region 12 with (first | ((with_reducible refine gate_callee (f := 34) rfl ?_); refine goesL_ (some 40) rfl rfl Try.func34 (by kernel_rfl) rfl #[.slice A0 l0.length c0] rfl (by (try simp only [List.map_toArray, List.map_cons, List.map_nil]); first | done | rfl | (simp only [List.length_drop, List.length_take]; rfl)) ?_; (with_reducible refine (laws_toByteS.calls kj6 _ _ l0 t284 _ ?side1 ?side2 A34.out).mono ?_); (case side1 => repeat (first | exact (Kd.C_below HR0.out HB.out) | (with_reducible refine Kd.C_alloc ?_ _) | (with_reducible refine Kd.C_drewN ?_ _) | (with_reducible refine Kd.C_drew ?_))); (case side2 => exact HC0.out); rintro e w39 ⟨v285, rfl, ho0, hb⟩; refine ⟨_, rfl, ?_⟩; have n0_ := Aside0.mk (Kd.R_elder' (by (with_reducible repeat (first | apply Kd.R_alloc | apply Kd.R_drewN | apply Kd.R_drew)); exact HO_5.out) (Kd.R_base ho0) hb); have n1_ := Aside0.mk (Kd.R_below (by (with_reducible repeat (first | apply Kd.R_alloc | apply Kd.R_drewN | apply Kd.R_drew)); exact HO_270002.out) hb); have n2_ := Aside0.mk (Kd.R_below (by (with_reducible repeat (first | apply Kd.R_alloc | apply Kd.R_drewN | apply Kd.R_drew)); exact HO_270003.out) hb); have n3_ := Aside0.mk (Kd.R_below (by (with_reducible repeat (first | apply Kd.R_alloc | apply Kd.R_drewN | apply Kd.R_drew)); exact HO_283002.out) hb); have n4_ := Aside0.mk (Kd.R_below (by (with_reducible repeat (first | apply Kd.R_alloc | apply Kd.R_drewN | apply Kd.R_drew)); exact HO_283003.out) hb); have n5_ := Aside0.mk (Kd.R_lower (Kd.R_new' ho0 (Kd.R_lt (by (with_reducible repeat (first | apply Kd.R_alloc | apply Kd.R_drewN | apply Kd.R_drew)); exact HO_5.out))) (below_size (by repeat (first | (with_reducible first | exact HB.out | apply below_alloc | apply pw_below_drewN | apply below_drew1 | refine below_set ?_ GE269.out | refine below_set ?_ GE282.out) | exact HB.out)))); have n6_ := Aside0.mk (blk_below (g := gb269) (o := .cells #[.int .i64 t260, .int .i64 t261, .slice Ao13 t262.length co13, .slice Ao14 t265.length co14] 75 (0, 0)) (by (with_reducible repeat (first | refine blk_drewN ?_ _ | refine blk_drew ?_ | refine blk_alloc ?_ _)); exact BK269.out) hb); have n7_ := Aside0.mk (blk_below (g := gb282) (o := .cells #[.int .i64 t273, .int .i64 t274, .slice Ao21 t275.length co21, .slice Ao22 t278.length co22] 75 (0, 0)) (by (with_reducible repeat (first | refine blk_drewN ?_ _ | refine blk_drew ?_ | refine blk_alloc ?_ _)); exact BK282.out) hb); have n8_ := Aside0.mk (below_step (by repeat (first | (with_reducible first | exact HB.out | apply below_alloc | apply pw_below_drewN | apply below_drew1 | refine below_set ?_ GE269.out | refine below_set ?_ GE282.out) | exact HB.out)) hb); clear HO_5; clear HO_270002; clear HO_270003; clear HO_283002; clear HO_283003; clear BK269; clear BK282; clear HB; have HO_5 := n0_; have HO_270002 := n1_; have HO_270003 := n2_; have HO_283002 := n3_; have HO_283003 := n4_; have HO286 := n5_; have BK269 := n6_; have BK282 := n7_; have HB := n8_; clear n0_ n1_ n2_ n3_ n4_ n5_ n6_ n7_ n8_; (try clear hb); (try clear hb2); (try clear hk); (try clear hi); (try clear ho0); obtain ⟨Ao40, co40, eo40⟩ := Kd.R_slice HO286.out; subst eo40) | ((with_reducible refine gate_callee (f := 21) rfl ?_); refine goesL_ (some 41) rfl rfl Try.func21 (by kernel_rfl) rfl #[.slice Ao16 t270.length co16, .slice Ao40 t284.length co40] rfl (by (try simp only [List.map_toArray, List.map_cons, List.map_nil]); first | done | rfl | (simp only [List.length_drop, List.length_take]; rfl)) ?_; (with_reducible refine (laws_eqByteS.calls kj6 _ _ t270 _ _ t284 true _ ?side1 ?side2 ?side3 ?side4 A35.out).mono ?_); (case side1 => repeat (first | exact (Kd.R_reads' HO_5.out).2.2 | (with_reducible refine Kd.C_alloc ?_ _) | (with_reducible refine Kd.C_drewN ?_ _) | (with_reducible refine Kd.C_drew ?_))); (case side2 => exact (Kd.R_reads' HO_5.out).2.1); (case side3 => repeat (first | exact (Kd.R_reads' HO286.out).2.2 | (with_reducible refine Kd.C_alloc ?_ _) | (with_reducible refine Kd.C_drewN ?_ _) | (with_reducible refine Kd.C_drew ?_))); (case side4 => exact (Kd.R_reads' HO286.out).2.1); rintro e w' ⟨rfl, ⟨nd, rfl⟩⟩; refine ⟨_, rfl, ?_⟩) | ((with_reducible refine gate_callee (f := 22) rfl ?_); refine goesL_ (some 45) rfl rfl Try.func22 (by kernel_rfl) rfl #[.slice Ao16 t270.length co16, .int .i64 1] rfl (by (try simp only [List.map_toArray, List.map_cons, List.map_nil]); first | done | rfl | (simp only [List.length_drop, List.length_take]; rfl)) ?_; (with_reducible refine (laws_markByteS.calls kj6 (fun k_ => some k_ = (.slice Ao16 t270.length co16 : Value).ownBlock) (.slice Ao16 t270.length co16) t270 1 t288 t289 w _ ?side1 ?side2 A37.out).mono ?_); (case side1 => repeat (first | (with_reducible first | exact HB.out | apply below_alloc | apply pw_below_drewN | apply below_drew1 | refine below_set ?_ GE269.out | refine below_set ?_ GE282.out) | exact HB.out)); (case side2 => exact Kd.R_tight rfl HO_5.out); rintro e w41 ⟨rfl, hy0, hb, hkp⟩; refine ⟨_, rfl, ?_⟩; have n0_ := Aside0.mk (Kd.R_reok rfl hy0 (fun k_ e_ => HO_5.out.1 k_ e_)); have n1_ := Aside0.mk (Kd.R_mono (ok' := fun k_ => some k_ ≠ (.slice Ao21 t275.length co21 : Value).ownBlock) (Kd.R_keptB ((Kd.R_apart' HO_270002.out (Kd.R_typed HO_5.out) (by decide))) hkp (fun k_ hk_ hs_ => (hk_.2) hs_)) (fun k_ hk_ => hk_.1.1)); have n2_ := Aside0.mk (Kd.R_mono (ok' := fun k_ => some k_ ≠ (.slice Ao22 t278.length co22 : Value).ownBlock) (Kd.R_keptB ((Kd.R_apart' HO_270003.out (Kd.R_typed HO_5.out) (by decide))) hkp (fun k_ hk_ hs_ => (hk_.2) hs_)) (fun k_ hk_ => hk_.1.1)); have n3_ := Aside0.mk (Kd.R_mono (ok' := fun k_ => some k_ ≠ (.slice Ao13 t262.length co13 : Value).ownBlock) (Kd.R_keptB ((Kd.R_apart' HO_283002.out (Kd.R_typed HO_5.out) (by decide))) hkp (fun k_ hk_ hs_ => (hk_.2) hs_)) (fun k_ hk_ => hk_.1.1)); have n4_ := Aside0.mk (Kd.R_mono (ok' := fun k_ => some k_ ≠ (.slice Ao14 t265.length co14 : Value).ownBlock) (Kd.R_keptB ((Kd.R_apart' HO_283003.out (Kd.R_typed HO_5.out) (by decide))) hkp (fun k_ hk_ hs_ => (hk_.2) hs_)) (fun k_ hk_ => hk_.1.1)); have n5_ := Aside0.mk (blk_kept (by (with_reducible repeat (first | refine blk_drewN ?_ _ | refine blk_drew ?_ | refine blk_alloc ?_ _)); exact BK269.out) hkp (fun hs_ => (fun e_ => (Kd.R_ne HO_5.out BK269.out (by decide)) e_) hs_)); have n6_ := Aside0.mk (blk_kept (by (with_reducible repeat (first | refine blk_drewN ?_ _ | refine blk_drew ?_ | refine blk_alloc ?_ _)); exact BK282.out) hkp (fun hs_ => (fun e_ => (Kd.R_ne HO_5.out BK282.out (by decide)) e_) hs_)); have n7_ := Aside0.mk (Kd.R_mono (ok' := fun k_ => some k_ ≠ (.slice Ao16 t270.length co16 : Value).ownBlock) (Kd.R_keptB (HO286.out) hkp (fun k_ hk_ hs_ => (hk_.2) hs_)) (fun k_ hk_ => hk_.1.2)); have n8_ := Aside0.mk (hb); clear HO_5; clear HO_270002; clear HO_270003; clear HO_283002; clear HO_283003; clear BK269; clear BK282; clear HO286; clear HB; have HO_5 := n0_; have HO_270002 := n1_; have HO_270003 := n2_; have HO_283002 := n3_; have HO_283003 := n4_; have BK269 := n5_; have BK282 := n6_; have HO286 := n7_; have HB := n8_; clear n0_ n1_ n2_ n3_ n4_ n5_ n6_ n7_ n8_; (try clear hb); (try clear hkp); (try clear hy0)))
            (try simp only [Act.put, List.setIfInBounds_toArray, List.set_cons_zero, List.set_cons_succ])
            go_cut [58] (fun v58 wc => ∃ (kq : Nat) (x58_37 : Bool), v58 = .bool x58_37 ∧ Aside0 (laws_FnExactGetSig.j1 kq l0 t268 x58_37 t260 t261 t262 t265 t273 t274 t275 t278 = some r) ∧ Aside0 (kq ≤ kj6) ∧ Aside0 (Kd.R (Kd.int .u32) 87 wc w.heap.size (fun k_ => some k_ ≠ ((.slice Ao21 t275.length co21) : Value).ownBlock) (.slice Ao13 t262.length co13) t262) ∧ Aside0 (Kd.R Kd.string 9 wc w.heap.size (fun k_ => some k_ ≠ ((.slice Ao22 t278.length co22) : Value).ownBlock) (.slice Ao14 t265.length co14) t265) ∧ Aside0 (Kd.R (Kd.int .u32) 87 wc w.heap.size (fun k_ => some k_ ≠ ((.slice Ao13 t262.length co13) : Value).ownBlock) (.slice Ao21 t275.length co21) t275) ∧ Aside0 (Kd.R Kd.string 9 wc w.heap.size (fun k_ => some k_ ≠ ((.slice Ao14 t265.length co14) : Value).ownBlock) (.slice Ao22 t278.length co22) t278) ∧ Aside0 (wc.heap[gb269]? = some (.cells #[.int .i64 t260, .int .i64 t261, (.slice Ao13 t262.length co13), (.slice Ao14 t265.length co14)] 75 (0, 0))) ∧ Aside0 (wc.heap[gb282]? = some (.cells #[.int .i64 t273, .int .i64 t274, (.slice Ao21 t275.length co21), (.slice Ao22 t278.length co22)] 75 (0, 0))) ∧ Aside0 (Below w.heap.size w wc))
            case first =>
              have H := HC38.out
              clear HC38
              by_cases c42 : t288 < 0
              · rw [if_pos c42] at H
                have c42b0 : decide (t288 < 0) = true := decide_eq_true c42
                clear c42
                (first | rw [c42b0] | (simp only [i64_w, i32_w]; rw [c42b0]) | skip)
                have H' := Aside0.mk H
                clear H
                go_wp2
                go_meet
                case rel => exact ⟨_, (true), (by first | rfl | (simp; done) | (simp [*]; done)), H', ⟨by have := HJ6.out; first | omega | exact Nat.le_refl _⟩, ⟨by (with_reducible repeat (first | apply Kd.R_alloc | apply Kd.R_drewN | apply Kd.R_drew)); exact HO_270002.out⟩, ⟨by (with_reducible repeat (first | apply Kd.R_alloc | apply Kd.R_drewN | apply Kd.R_drew)); exact HO_270003.out⟩, ⟨by (with_reducible repeat (first | apply Kd.R_alloc | apply Kd.R_drewN | apply Kd.R_drew)); exact HO_283002.out⟩, ⟨by (with_reducible repeat (first | apply Kd.R_alloc | apply Kd.R_drewN | apply Kd.R_drew)); exact HO_283003.out⟩, ⟨by (with_reducible repeat (first | refine blk_drewN ?_ _ | refine blk_drew ?_ | refine blk_alloc ?_ _)); exact BK269.out⟩, ⟨by (with_reducible repeat (first | refine blk_drewN ?_ _ | refine blk_drew ?_ | refine blk_alloc ?_ _)); exact BK282.out⟩, ⟨by repeat (first | (with_reducible first | exact HB.out | apply below_alloc | apply pw_below_drewN | apply below_drew1 | refine below_set ?_ GE269.out | refine below_set ?_ GE282.out) | exact HB.out)⟩⟩
              · rw [if_neg c42] at H
                have c42b0 : decide (t288 < 0) = false := decide_eq_false c42
                clear c42
                (first | rw [c42b0] | (simp only [i64_w, i32_w]; rw [c42b0]) | skip)
                replace H := Option.bind_eq_some_iff.mp H
                obtain ⟨t290, A430, H⟩ := H
                replace H : (if t290 = true then (laws_FnExactGetSig.j1 kj6 l0 t268 (t281 != t268) t260 t261 t262 t265 t273 t274 t275 t278) else (laws_FnExactGetSig.j1 kj6 l0 t268 true t260 t261 t262 t265 t273 t274 t275 t278)) = some r := H
                have A43 := Aside0.mk A430
                clear A430
                by_cases c44 : t290 = true
                · subst c44
                  have H1 : (laws_FnExactGetSig.j1 kj6 l0 t268 (t281 != t268) t260 t261 t262 t265 t273 t274 t275 t278) = some r := by rw [if_pos rfl] at H; exact H
                  clear H
                  have H := H1
                  clear H1
                  have H' := Aside0.mk H
                  clear H
                  have hnb45 := NB282_269.out
                  have hnc45 := NB269_282.out
                  have hcz46_0 : w41.cell? ⟨gb282, 0, none⟩ = some (.int .i64 t273) := (blk_cell BK282.out 0).trans rfl
                  have hcz46_1 : w41.cell? ⟨gb282, 1, none⟩ = some (.int .i64 t274) := (blk_cell BK282.out 1).trans rfl
                  have hcz46_2 : w41.cell? ⟨gb282, 2, none⟩ = some (.slice Ao21 t275.length co21) := (blk_cell BK282.out 2).trans rfl
                  have hcz46_3 : w41.cell? ⟨gb282, 3, none⟩ = some (.slice Ao22 t278.length co22) := (blk_cell BK282.out 3).trans rfl
                  have hfz46_0 := blk_frozen BK282.out 0
                  have hfz46_1 := blk_frozen BK282.out 1
                  have hfz46_2 := blk_frozen BK282.out 2
                  have hfz46_3 := blk_frozen BK282.out 3
                  have hcz47_0 : w41.cell? ⟨gb269, 0, none⟩ = some (.int .i64 t260) := (blk_cell BK269.out 0).trans rfl
                  have hcz47_1 : w41.cell? ⟨gb269, 1, none⟩ = some (.int .i64 t261) := (blk_cell BK269.out 1).trans rfl
                  have hcz47_2 : w41.cell? ⟨gb269, 2, none⟩ = some (.slice Ao13 t262.length co13) := (blk_cell BK269.out 2).trans rfl
                  have hcz47_3 : w41.cell? ⟨gb269, 3, none⟩ = some (.slice Ao14 t265.length co14) := (blk_cell BK269.out 3).trans rfl
                  have hfz47_0 := blk_frozen BK269.out 0
                  have hfz47_1 := blk_frozen BK269.out 1
                  have hfz47_2 := blk_frozen BK269.out 2
                  have hfz47_3 := blk_frozen BK269.out 3
                  go_wp2_with (first | (go_at_call 60; (with_reducible refine (laws_eqSig.calls kj6 t273 t274 _ _ t275 _ _ t278 t260 t261 _ _ t262 _ _ t265 true _ ?side1 ?side2 ?side3 ?side4 ?side5 ?side6 ?side7 ?side8 A43.out).mono ?_); (case side1 => repeat (first | exact (Kd.R_reads' HO_283002.out).2.2 | (with_reducible refine Kd.C_alloc ?_ _) | (with_reducible refine Kd.C_drewN ?_ _) | (with_reducible refine Kd.C_drew ?_))); (case side2 => exact (Kd.R_reads' HO_283002.out).2.1); (case side3 => repeat (first | exact (Kd.R_reads' HO_283003.out).2.2 | (with_reducible refine Kd.C_alloc ?_ _) | (with_reducible refine Kd.C_drewN ?_ _) | (with_reducible refine Kd.C_drew ?_))); (case side4 => exact (Kd.R_reads' HO_283003.out).2.1); (case side5 => repeat (first | exact (Kd.R_reads' HO_270002.out).2.2 | (with_reducible refine Kd.C_alloc ?_ _) | (with_reducible refine Kd.C_drewN ?_ _) | (with_reducible refine Kd.C_drew ?_))); (case side6 => exact (Kd.R_reads' HO_270002.out).2.1); (case side7 => repeat (first | exact (Kd.R_reads' HO_270003.out).2.2 | (with_reducible refine Kd.C_alloc ?_ _) | (with_reducible refine Kd.C_drewN ?_ _) | (with_reducible refine Kd.C_drew ?_))); (case side8 => exact (Kd.R_reads' HO_270003.out).2.1); rintro e w48 ⟨rfl, hb⟩; have n0_ := Aside0.mk (Kd.R_below (by (with_reducible repeat (first | apply Kd.R_alloc | apply Kd.R_drewN | apply Kd.R_drew)); exact HO_5.out) hb); have n1_ := Aside0.mk (Kd.R_below (by (with_reducible repeat (first | apply Kd.R_alloc | apply Kd.R_drewN | apply Kd.R_drew)); exact HO_270002.out) hb); have n2_ := Aside0.mk (Kd.R_below (by (with_reducible repeat (first | apply Kd.R_alloc | apply Kd.R_drewN | apply Kd.R_drew)); exact HO_270003.out) hb); have n3_ := Aside0.mk (Kd.R_below (by (with_reducible repeat (first | apply Kd.R_alloc | apply Kd.R_drewN | apply Kd.R_drew)); exact HO_283002.out) hb); have n4_ := Aside0.mk (Kd.R_below (by (with_reducible repeat (first | apply Kd.R_alloc | apply Kd.R_drewN | apply Kd.R_drew)); exact HO_283003.out) hb); have n5_ := Aside0.mk (Kd.R_below (by (with_reducible repeat (first | apply Kd.R_alloc | apply Kd.R_drewN | apply Kd.R_drew)); exact HO286.out) hb); have n6_ := Aside0.mk (blk_below (g := gb269) (o := .cells #[.int .i64 t260, .int .i64 t261, .slice Ao13 t262.length co13, .slice Ao14 t265.length co14] 75 (0, 0)) (by (with_reducible repeat (first | refine blk_drewN ?_ _ | refine blk_drew ?_ | refine blk_alloc ?_ _)); exact BK269.out) hb); have n7_ := Aside0.mk (blk_below (g := gb282) (o := .cells #[.int .i64 t273, .int .i64 t274, .slice Ao21 t275.length co21, .slice Ao22 t278.length co22] 75 (0, 0)) (by (with_reducible repeat (first | refine blk_drewN ?_ _ | refine blk_drew ?_ | refine blk_alloc ?_ _)); exact BK282.out) hb); have n8_ := Aside0.mk (below_step (by repeat (first | (with_reducible first | exact HB.out | apply below_alloc | apply pw_below_drewN | apply below_drew1 | refine below_set ?_ GE269.out | refine below_set ?_ GE282.out) | exact HB.out)) hb); clear HO_5; clear HO_270002; clear HO_270003; clear HO_283002; clear HO_283003; clear HO286; clear BK269; clear BK282; clear HB; have HO_5 := n0_; have HO_270002 := n1_; have HO_270003 := n2_; have HO_283002 := n3_; have HO_283003 := n4_; have HO286 := n5_; have BK269 := n6_; have BK282 := n7_; have HB := n8_; clear n0_ n1_ n2_ n3_ n4_ n5_ n6_ n7_ n8_; (try clear hb); (try clear hb2); (try clear hk); (try clear hi)))
                  go_meet
                  case rel => exact ⟨_, ((t281 != t268)), (by first | rfl | (simp; done) | (simp [*]; done)), H', ⟨by have := HJ6.out; first | omega | exact Nat.le_refl _⟩, ⟨by (with_reducible repeat (first | apply Kd.R_alloc | apply Kd.R_drewN | apply Kd.R_drew)); exact HO_270002.out⟩, ⟨by (with_reducible repeat (first | apply Kd.R_alloc | apply Kd.R_drewN | apply Kd.R_drew)); exact HO_270003.out⟩, ⟨by (with_reducible repeat (first | apply Kd.R_alloc | apply Kd.R_drewN | apply Kd.R_drew)); exact HO_283002.out⟩, ⟨by (with_reducible repeat (first | apply Kd.R_alloc | apply Kd.R_drewN | apply Kd.R_drew)); exact HO_283003.out⟩, ⟨by (with_reducible repeat (first | refine blk_drewN ?_ _ | refine blk_drew ?_ | refine blk_alloc ?_ _)); exact BK269.out⟩, ⟨by (with_reducible repeat (first | refine blk_drewN ?_ _ | refine blk_drew ?_ | refine blk_alloc ?_ _)); exact BK282.out⟩, ⟨by repeat (first | (with_reducible first | exact HB.out | apply below_alloc | apply pw_below_drewN | apply below_drew1 | refine below_set ?_ GE269.out | refine below_set ?_ GE282.out) | exact HB.out)⟩⟩
                · replace c44 := Bool.eq_false_iff.mpr c44
                  subst c44
                  have H1 : (laws_FnExactGetSig.j1 kj6 l0 t268 true t260 t261 t262 t265 t273 t274 t275 t278) = some r := by rw [if_neg (show ¬ (false = true) by decide)] at H; exact H
                  clear H
                  have H := H1
                  clear H1
                  have H' := Aside0.mk H
                  clear H
                  have hnb49 := NB282_269.out
                  have hnc49 := NB269_282.out
                  have hcz50_0 : w41.cell? ⟨gb282, 0, none⟩ = some (.int .i64 t273) := (blk_cell BK282.out 0).trans rfl
                  have hcz50_1 : w41.cell? ⟨gb282, 1, none⟩ = some (.int .i64 t274) := (blk_cell BK282.out 1).trans rfl
                  have hcz50_2 : w41.cell? ⟨gb282, 2, none⟩ = some (.slice Ao21 t275.length co21) := (blk_cell BK282.out 2).trans rfl
                  have hcz50_3 : w41.cell? ⟨gb282, 3, none⟩ = some (.slice Ao22 t278.length co22) := (blk_cell BK282.out 3).trans rfl
                  have hfz50_0 := blk_frozen BK282.out 0
                  have hfz50_1 := blk_frozen BK282.out 1
                  have hfz50_2 := blk_frozen BK282.out 2
                  have hfz50_3 := blk_frozen BK282.out 3
                  have hcz51_0 : w41.cell? ⟨gb269, 0, none⟩ = some (.int .i64 t260) := (blk_cell BK269.out 0).trans rfl
                  have hcz51_1 : w41.cell? ⟨gb269, 1, none⟩ = some (.int .i64 t261) := (blk_cell BK269.out 1).trans rfl
                  have hcz51_2 : w41.cell? ⟨gb269, 2, none⟩ = some (.slice Ao13 t262.length co13) := (blk_cell BK269.out 2).trans rfl
                  have hcz51_3 : w41.cell? ⟨gb269, 3, none⟩ = some (.slice Ao14 t265.length co14) := (blk_cell BK269.out 3).trans rfl
                  have hfz51_0 := blk_frozen BK269.out 0
                  have hfz51_1 := blk_frozen BK269.out 1
                  have hfz51_2 := blk_frozen BK269.out 2
                  have hfz51_3 := blk_frozen BK269.out 3
                  go_wp2_with (first | (go_at_call 60; (with_reducible refine (laws_eqSig.calls kj6 t273 t274 _ _ t275 _ _ t278 t260 t261 _ _ t262 _ _ t265 false _ ?side1 ?side2 ?side3 ?side4 ?side5 ?side6 ?side7 ?side8 A43.out).mono ?_); (case side1 => repeat (first | exact (Kd.R_reads' HO_283002.out).2.2 | (with_reducible refine Kd.C_alloc ?_ _) | (with_reducible refine Kd.C_drewN ?_ _) | (with_reducible refine Kd.C_drew ?_))); (case side2 => exact (Kd.R_reads' HO_283002.out).2.1); (case side3 => repeat (first | exact (Kd.R_reads' HO_283003.out).2.2 | (with_reducible refine Kd.C_alloc ?_ _) | (with_reducible refine Kd.C_drewN ?_ _) | (with_reducible refine Kd.C_drew ?_))); (case side4 => exact (Kd.R_reads' HO_283003.out).2.1); (case side5 => repeat (first | exact (Kd.R_reads' HO_270002.out).2.2 | (with_reducible refine Kd.C_alloc ?_ _) | (with_reducible refine Kd.C_drewN ?_ _) | (with_reducible refine Kd.C_drew ?_))); (case side6 => exact (Kd.R_reads' HO_270002.out).2.1); (case side7 => repeat (first | exact (Kd.R_reads' HO_270003.out).2.2 | (with_reducible refine Kd.C_alloc ?_ _) | (with_reducible refine Kd.C_drewN ?_ _) | (with_reducible refine Kd.C_drew ?_))); (case side8 => exact (Kd.R_reads' HO_270003.out).2.1); rintro e w52 ⟨rfl, hb⟩; have n0_ := Aside0.mk (Kd.R_below (by (with_reducible repeat (first | apply Kd.R_alloc | apply Kd.R_drewN | apply Kd.R_drew)); exact HO_5.out) hb); have n1_ := Aside0.mk (Kd.R_below (by (with_reducible repeat (first | apply Kd.R_alloc | apply Kd.R_drewN | apply Kd.R_drew)); exact HO_270002.out) hb); have n2_ := Aside0.mk (Kd.R_below (by (with_reducible repeat (first | apply Kd.R_alloc | apply Kd.R_drewN | apply Kd.R_drew)); exact HO_270003.out) hb); have n3_ := Aside0.mk (Kd.R_below (by (with_reducible repeat (first | apply Kd.R_alloc | apply Kd.R_drewN | apply Kd.R_drew)); exact HO_283002.out) hb); have n4_ := Aside0.mk (Kd.R_below (by (with_reducible repeat (first | apply Kd.R_alloc | apply Kd.R_drewN | apply Kd.R_drew)); exact HO_283003.out) hb); have n5_ := Aside0.mk (Kd.R_below (by (with_reducible repeat (first | apply Kd.R_alloc | apply Kd.R_drewN | apply Kd.R_drew)); exact HO286.out) hb); have n6_ := Aside0.mk (blk_below (g := gb269) (o := .cells #[.int .i64 t260, .int .i64 t261, .slice Ao13 t262.length co13, .slice Ao14 t265.length co14] 75 (0, 0)) (by (with_reducible repeat (first | refine blk_drewN ?_ _ | refine blk_drew ?_ | refine blk_alloc ?_ _)); exact BK269.out) hb); have n7_ := Aside0.mk (blk_below (g := gb282) (o := .cells #[.int .i64 t273, .int .i64 t274, .slice Ao21 t275.length co21, .slice Ao22 t278.length co22] 75 (0, 0)) (by (with_reducible repeat (first | refine blk_drewN ?_ _ | refine blk_drew ?_ | refine blk_alloc ?_ _)); exact BK282.out) hb); have n8_ := Aside0.mk (below_step (by repeat (first | (with_reducible first | exact HB.out | apply below_alloc | apply pw_below_drewN | apply below_drew1 | refine below_set ?_ GE269.out | refine below_set ?_ GE282.out) | exact HB.out)) hb); clear HO_5; clear HO_270002; clear HO_270003; clear HO_283002; clear HO_283003; clear HO286; clear BK269; clear BK282; clear HB; have HO_5 := n0_; have HO_270002 := n1_; have HO_270003 := n2_; have HO_283002 := n3_; have HO_283003 := n4_; have HO286 := n5_; have BK269 := n6_; have BK282 := n7_; have HB := n8_; clear n0_ n1_ n2_ n3_ n4_ n5_ n6_ n7_ n8_; (try clear hb); (try clear hb2); (try clear hk); (try clear hi)))
                  go_meet
                  case rel => exact ⟨_, (true), (by first | rfl | (simp; done) | (simp [*]; done)), H', ⟨by have := HJ6.out; first | omega | exact Nat.le_refl _⟩, ⟨by (with_reducible repeat (first | apply Kd.R_alloc | apply Kd.R_drewN | apply Kd.R_drew)); exact HO_270002.out⟩, ⟨by (with_reducible repeat (first | apply Kd.R_alloc | apply Kd.R_drewN | apply Kd.R_drew)); exact HO_270003.out⟩, ⟨by (with_reducible repeat (first | apply Kd.R_alloc | apply Kd.R_drewN | apply Kd.R_drew)); exact HO_283002.out⟩, ⟨by (with_reducible repeat (first | apply Kd.R_alloc | apply Kd.R_drewN | apply Kd.R_drew)); exact HO_283003.out⟩, ⟨by (with_reducible repeat (first | refine blk_drewN ?_ _ | refine blk_drew ?_ | refine blk_alloc ?_ _)); exact BK269.out⟩, ⟨by (with_reducible repeat (first | refine blk_drewN ?_ _ | refine blk_drew ?_ | refine blk_alloc ?_ _)); exact BK282.out⟩, ⟨by repeat (first | (with_reducible first | exact HB.out | apply below_alloc | apply pw_below_drewN | apply below_drew1 | refine below_set ?_ GE269.out | refine below_set ?_ GE282.out) | exact HB.out)⟩⟩
            case rest =>
              clear HC38
              try clear c1
              try clear c2
              try clear c2b0
              try clear c2b1
              try clear p2
              try clear c3
              try clear c4
              try clear c5
              try clear c6
              try clear c13
              try clear c19
              try clear c21
              try clear c22
              try clear c24
              try clear c25
              try clear c29
              try clear c33
              try clear c34
              try clear c36
              try clear c42
              try clear c42b0
              try clear c44
              try clear c45
              try clear c49
              try clear hcz12_0
              try clear hcz12_1
              try clear hcz12_2
              try clear hcz12_3
              try clear hcz20_0
              try clear hcz20_1
              try clear hcz20_2
              try clear hcz20_3
              try clear hcz26_0
              try clear hcz26_1
              try clear hcz26_2
              try clear hcz26_3
              try clear hcz27_0
              try clear hcz27_1
              try clear hcz27_2
              try clear hcz27_3
              try clear hcz30_0
              try clear hcz30_1
              try clear hcz30_2
              try clear hcz30_3
              try clear hcz31_0
              try clear hcz31_1
              try clear hcz31_2
              try clear hcz31_3
              try clear hcz46_0
              try clear hcz46_1
              try clear hcz46_2
              try clear hcz46_3
              try clear hcz47_0
              try clear hcz47_1
              try clear hcz47_2
              try clear hcz47_3
              try clear hcz50_0
              try clear hcz50_1
              try clear hcz50_2
              try clear hcz50_3
              try clear hcz51_0
              try clear hcz51_1
              try clear hcz51_2
              try clear hcz51_3
              try clear hfz12_0
              try clear hfz12_1
              try clear hfz12_2
              try clear hfz12_3
              try clear hfz20_0
              try clear hfz20_1
              try clear hfz20_2
              try clear hfz20_3
              try clear hfz26_0
              try clear hfz26_1
              try clear hfz26_2
              try clear hfz26_3
              try clear hfz27_0
              try clear hfz27_1
              try clear hfz27_2
              try clear hfz27_3
              try clear hfz30_0
              try clear hfz30_1
              try clear hfz30_2
              try clear hfz30_3
              try clear hfz31_0
              try clear hfz31_1
              try clear hfz31_2
              try clear hfz31_3
              try clear hfz46_0
              try clear hfz46_1
              try clear hfz46_2
              try clear hfz46_3
              try clear hfz47_0
              try clear hfz47_1
              try clear hfz47_2
              try clear hfz47_3
              try clear hfz50_0
              try clear hfz50_1
              try clear hfz50_2
              try clear hfz50_3
              try clear hfz51_0
              try clear hfz51_1
              try clear hfz51_2
              try clear hfz51_3
              try clear p2
              obtain ⟨kq, x58_37, rfl, HA, HJ37, HO_270002, HO_270003, HO_283002, HO_283003, BK269, BK282, HB⟩ := hcut
              cases kq with
              | zero => exact absurd HA.out (by simp [laws_FnExactGetSig.j1])
              | succ kj37 =>
                have H := HA.out
                clear HA
                simp only [laws_FnExactGetSig.j1] at H
                by_cases c53 : x58_37 = true
                · subst c53
                  have H1 : (some false) = some r := by rw [if_pos rfl] at H; exact H
                  clear H
                  have H := H1
                  clear H1
                  exact absurd (hrt.symm.trans (Option.some.inj H).symm) (by decide)
                · replace c53 := Bool.eq_false_iff.mpr c53
                  subst c53
                  have H1 : ((laws_markSig.f kj37 t273 t274 t275 t278 1).bind fun bt291 => ((laws_heldSig.f kj37 t273 t274 bt291.2.1 bt291.2.2 1).bind fun t294 => (if t294 < 0 then (some false) else (if t294 = bt291.1 then ((laws_toByteS.f kj37 l0).bind fun t295 => ((impl_GetSig.f kj37 t295).bind fun bt298 => ((laws_eqSig.f kj37 bt298.1 bt298.2.1 bt298.2.2.1 bt298.2.2.2.1 t260 t261 t262 t265).bind fun t308 => (if t308 = true then (laws_FnExactGetSig.j2 kj37 bt291.1 (bt298.2.2.2.2 != t268) t273 t274 bt291.2.1 bt291.2.2) else (laws_FnExactGetSig.j2 kj37 bt291.1 true t273 t274 bt291.2.1 bt291.2.2))))) else (some false))))) = some r := by rw [if_neg (show ¬ (false = true) by decide)] at H; exact H
                  clear H
                  have H := H1
                  clear H1
                  replace H := Option.bind_eq_some_iff.mp H
                  obtain ⟨⟨t291, t292, t293⟩, A540, H⟩ := H
                  replace H : ((laws_heldSig.f kj37 t273 t274 t292 t293 1).bind fun t294 => (if t294 < 0 then (some false) else (if t294 = t291 then ((laws_toByteS.f kj37 l0).bind fun t295 => ((impl_GetSig.f kj37 t295).bind fun bt298 => ((laws_eqSig.f kj37 bt298.1 bt298.2.1 bt298.2.2.1 bt298.2.2.2.1 t260 t261 t262 t265).bind fun t308 => (if t308 = true then (laws_FnExactGetSig.j2 kj37 t291 (bt298.2.2.2.2 != t268) t273 t274 t292 t293) else (laws_FnExactGetSig.j2 kj37 t291 true t273 t274 t292 t293))))) else (some false)))) = some r := H
                  have A54 := Aside0.mk A540
                  clear A540
                  replace H := Option.bind_eq_some_iff.mp H
                  obtain ⟨t294, A550, H⟩ := H
                  replace H : (if t294 < 0 then (some false) else (if t294 = t291 then ((laws_toByteS.f kj37 l0).bind fun t295 => ((impl_GetSig.f kj37 t295).bind fun bt298 => ((laws_eqSig.f kj37 bt298.1 bt298.2.1 bt298.2.2.1 bt298.2.2.2.1 t260 t261 t262 t265).bind fun t308 => (if t308 = true then (laws_FnExactGetSig.j2 kj37 t291 (bt298.2.2.2.2 != t268) t273 t274 t292 t293) else (laws_FnExactGetSig.j2 kj37 t291 true t273 t274 t292 t293))))) else (some false))) = some r := H
                  have A55 := Aside0.mk A550
                  clear A550
                  by_cases c56 : t294 < 0
                  · rw [if_pos c56] at H
                    have c56b0 : decide (t294 < 0) = true := decide_eq_true c56
                    clear c56
                    exact absurd (hrt.symm.trans (Option.some.inj H).symm) (by decide)
                  · rw [if_neg c56] at H
                    have c56b0 : decide (t294 < 0) = false := decide_eq_false c56
                    clear c56
                    by_cases c62 : t294 = t291
                    · rw [if_pos c62] at H
                      have c62b0 : (t294 == t291) = true := beq_iff_eq.mpr c62
                      have c62b1 : (t294 != t291) = false := bne_eq_false_iff_eq.mpr c62
                      clear c62
                      replace H := Option.bind_eq_some_iff.mp H
                      obtain ⟨t295, A630, H⟩ := H
                      replace H : ((impl_GetSig.f kj37 t295).bind fun bt298 => ((laws_eqSig.f kj37 bt298.1 bt298.2.1 bt298.2.2.1 bt298.2.2.2.1 t260 t261 t262 t265).bind fun t308 => (if t308 = true then (laws_FnExactGetSig.j2 kj37 t291 (bt298.2.2.2.2 != t268) t273 t274 t292 t293) else (laws_FnExactGetSig.j2 kj37 t291 true t273 t274 t292 t293)))) = some r := H
                      have A63 := Aside0.mk A630
                      clear A630
                      replace H := Option.bind_eq_some_iff.mp H
                      obtain ⟨⟨t298, t299, t300, t303, t306⟩, A640, H⟩ := H
                      replace H : ((laws_eqSig.f kj37 t298 t299 t300 t303 t260 t261 t262 t265).bind fun t308 => (if t308 = true then (laws_FnExactGetSig.j2 kj37 t291 (t306 != t268) t273 t274 t292 t293) else (laws_FnExactGetSig.j2 kj37 t291 true t273 t274 t292 t293))) = some r := H
                      have A64 := Aside0.mk A640
                      clear A640
                      have HC65 := Aside0.mk H
                      clear H
                      have hnb66 := NB282_269.out
                      have hnc66 := NB269_282.out
                      have hcz67_0 : wc.cell? ⟨gb282, 0, none⟩ = some (.int .i64 t273) := (blk_cell BK282.out 0).trans rfl
                      have hcz67_1 : wc.cell? ⟨gb282, 1, none⟩ = some (.int .i64 t274) := (blk_cell BK282.out 1).trans rfl
                      have hcz67_2 : wc.cell? ⟨gb282, 2, none⟩ = some (.slice Ao21 t275.length co21) := (blk_cell BK282.out 2).trans rfl
                      have hcz67_3 : wc.cell? ⟨gb282, 3, none⟩ = some (.slice Ao22 t278.length co22) := (blk_cell BK282.out 3).trans rfl
                      have hfz67_0 := blk_frozen BK282.out 0
                      have hfz67_1 := blk_frozen BK282.out 1
                      have hfz67_2 := blk_frozen BK282.out 2
                      have hfz67_3 := blk_frozen BK282.out 3
                      go_upto_region 23 with (first | ((with_reducible refine gate_callee (f := 61) rfl ?_); refine goesL_ (some 61) rfl rfl Try.func61 (by kernel_rfl) rfl #[.agg #[.int .i64 t273, .int .i64 t274, .slice Ao21 t275.length co21, .slice Ao22 t278.length co22], .int .i64 1] rfl (by (try simp only [List.map_toArray, List.map_cons, List.map_nil]); first | done | rfl | (simp only [List.length_drop, List.length_take]; rfl)) ?_; (with_reducible refine (laws_markSig.calls kj37 t273 t274 (fun k_ => some k_ = (.slice Ao21 t275.length co21 : Value).ownBlock) (.slice Ao21 t275.length co21) t275 (fun k_ => some k_ = (.slice Ao22 t278.length co22 : Value).ownBlock) (.slice Ao22 t278.length co22) t278 1 t291 t292 t293 w _ ?side1 ?side2 ?side3 A54.out).mono ?_); (case side1 => repeat (first | (with_reducible first | exact HB.out | apply below_alloc | apply pw_below_drewN | apply below_drew1 | refine below_set ?_ GE269.out | refine below_set ?_ GE282.out) | exact HB.out)); (case side2 => exact Kd.R_tight rfl HO_283002.out); (case side3 => exact Kd.R_tight rfl HO_283003.out); rintro e w68 ⟨rfl, hy0, hy1, hb, hkp⟩; refine ⟨_, rfl, ?_⟩; have n0_ := Aside0.mk (Kd.R_mono (ok' := fun k_ => some k_ ≠ (.slice Ao21 t275.length co21 : Value).ownBlock) (Kd.R_keptB ((Kd.R_apart' HO_270002.out (Kd.R_typed HO_283003.out) (by decide))) hkp (fun k_ hk_ hs_ => Or.elim hs_ (fun e_ => (hk_.1) e_) (fun e_ => (hk_.2) e_))) (fun k_ hk_ => hk_.1.1)); have n1_ := Aside0.mk (Kd.R_mono (ok' := fun k_ => some k_ ≠ (.slice Ao22 t278.length co22 : Value).ownBlock) (Kd.R_keptB ((Kd.R_apart' HO_270003.out (Kd.R_typed HO_283002.out) (by decide))) hkp (fun k_ hk_ hs_ => Or.elim hs_ (fun e_ => (hk_.2) e_) (fun e_ => (hk_.1) e_))) (fun k_ hk_ => hk_.1.1)); have n2_ := Aside0.mk (Kd.R_reok rfl hy0 (fun k_ e_ => HO_283002.out.1 k_ e_)); have n3_ := Aside0.mk (Kd.R_reok rfl hy1 (fun k_ e_ => HO_283003.out.1 k_ e_)); have n4_ := Aside0.mk (blk_kept (by (with_reducible repeat (first | refine blk_drewN ?_ _ | refine blk_drew ?_ | refine blk_alloc ?_ _)); exact BK269.out) hkp (fun hs_ => Or.elim hs_ (fun e_ => (fun e_ => (Kd.R_ne HO_283002.out BK269.out (by decide)) e_) e_) (fun e_ => (fun e_ => (Kd.R_ne HO_283003.out BK269.out (by decide)) e_) e_))); have n5_ := Aside0.mk (blk_kept (by (with_reducible repeat (first | refine blk_drewN ?_ _ | refine blk_drew ?_ | refine blk_alloc ?_ _)); exact BK282.out) hkp (fun hs_ => Or.elim hs_ (fun e_ => (fun e_ => (Kd.R_ne HO_283002.out BK282.out (by decide)) e_) e_) (fun e_ => (fun e_ => (Kd.R_ne HO_283003.out BK282.out (by decide)) e_) e_))); have n6_ := Aside0.mk (hb); clear HO_270002; clear HO_270003; clear HO_283002; clear HO_283003; clear BK269; clear BK282; clear HB; have HO_270002 := n0_; have HO_270003 := n1_; have HO_283002 := n2_; have HO_283003 := n3_; have BK269 := n4_; have BK282 := n5_; have HB := n6_; clear n0_ n1_ n2_ n3_ n4_ n5_ n6_; (try clear hb); (try clear hkp); (try clear hy0); (try clear hy1); have hcz69_0 : w68.cell? ⟨gb282, 0, none⟩ = some (.int .i64 t273) := (blk_cell BK282.out 0).trans rfl; have hcz69_1 : w68.cell? ⟨gb282, 1, none⟩ = some (.int .i64 t274) := (blk_cell BK282.out 1).trans rfl; have hcz69_2 : w68.cell? ⟨gb282, 2, none⟩ = some (.slice Ao21 t275.length co21) := (blk_cell BK282.out 2).trans rfl; have hcz69_3 : w68.cell? ⟨gb282, 3, none⟩ = some (.slice Ao22 t278.length co22) := (blk_cell BK282.out 3).trans rfl; have hfz69_0 := blk_frozen BK282.out 0; have hfz69_1 := blk_frozen BK282.out 1; have hfz69_2 := blk_frozen BK282.out 2; have hfz69_3 := blk_frozen BK282.out 3) | ((with_reducible refine gate_callee (f := 62) rfl ?_); refine goesL_ (some 64) rfl rfl Try.func62 (by kernel_rfl) rfl #[.agg #[.int .i64 t273, .int .i64 t274, .slice Ao21 t292.length co21, .slice Ao22 t293.length co22], .int .i64 1] rfl (by (try simp only [List.map_toArray, List.map_cons, List.map_nil]); first | done | (rw [show t292.length = t275.length from (Kd.R_reads' HO_283002.out).1.symm, show t293.length = t278.length from (Kd.R_reads' HO_283003.out).1.symm] <;> rfl) | rfl | (simp only [List.length_drop, List.length_take]; rfl)) ?_; (with_reducible refine (laws_heldSig.calls kj37 t273 t274 _ _ t292 _ _ t293 1 t294 _ ?side1 ?side2 ?side3 ?side4 A55.out).mono ?_); (case side1 => repeat (first | exact (Kd.R_reads' HO_283002.out).2.2 | (with_reducible refine Kd.C_alloc ?_ _) | (with_reducible refine Kd.C_drewN ?_ _) | (with_reducible refine Kd.C_drew ?_))); (case side2 => rw [show t292.length = t275.length from (Kd.R_reads' HO_283002.out).1.symm]; exact (Kd.R_reads' HO_283002.out).2.1); (case side3 => repeat (first | exact (Kd.R_reads' HO_283003.out).2.2 | (with_reducible refine Kd.C_alloc ?_ _) | (with_reducible refine Kd.C_drewN ?_ _) | (with_reducible refine Kd.C_drew ?_))); (case side4 => rw [show t293.length = t278.length from (Kd.R_reads' HO_283003.out).1.symm]; exact (Kd.R_reads' HO_283003.out).2.1); rintro e w70 ⟨rfl, hb⟩; refine ⟨_, rfl, ?_⟩; have n0_ := Aside0.mk (Kd.R_below (by (with_reducible repeat (first | apply Kd.R_alloc | apply Kd.R_drewN | apply Kd.R_drew)); exact HO_270002.out) hb); have n1_ := Aside0.mk (Kd.R_below (by (with_reducible repeat (first | apply Kd.R_alloc | apply Kd.R_drewN | apply Kd.R_drew)); exact HO_270003.out) hb); have n2_ := Aside0.mk (Kd.R_below (by (with_reducible repeat (first | apply Kd.R_alloc | apply Kd.R_drewN | apply Kd.R_drew)); exact HO_283002.out) hb); have n3_ := Aside0.mk (Kd.R_below (by (with_reducible repeat (first | apply Kd.R_alloc | apply Kd.R_drewN | apply Kd.R_drew)); exact HO_283003.out) hb); have n4_ := Aside0.mk (blk_below (g := gb269) (o := .cells #[.int .i64 t260, .int .i64 t261, .slice Ao13 t262.length co13, .slice Ao14 t265.length co14] 75 (0, 0)) (by (with_reducible repeat (first | refine blk_drewN ?_ _ | refine blk_drew ?_ | refine blk_alloc ?_ _)); exact BK269.out) hb); have n5_ := Aside0.mk (blk_below (g := gb282) (o := .cells #[.int .i64 t273, .int .i64 t274, .slice Ao21 t275.length co21, .slice Ao22 t278.length co22] 75 (0, 0)) (by (with_reducible repeat (first | refine blk_drewN ?_ _ | refine blk_drew ?_ | refine blk_alloc ?_ _)); exact BK282.out) hb); have n6_ := Aside0.mk (below_step (by repeat (first | (with_reducible first | exact HB.out | apply below_alloc | apply pw_below_drewN | apply below_drew1 | refine below_set ?_ GE269.out | refine below_set ?_ GE282.out) | exact HB.out)) hb); clear HO_270002; clear HO_270003; clear HO_283002; clear HO_283003; clear BK269; clear BK282; clear HB; have HO_270002 := n0_; have HO_270003 := n1_; have HO_283002 := n2_; have HO_283003 := n3_; have BK269 := n4_; have BK282 := n5_; have HB := n6_; clear n0_ n1_ n2_ n3_ n4_ n5_ n6_; (try clear hb); (try clear hb2); (try clear hk); (try clear hi)) | ((with_reducible refine gate_callee (f := 34) rfl ?_); refine goesL_ (some 72) rfl rfl Try.func34 (by kernel_rfl) rfl #[.slice A0 l0.length c0] rfl (by (try simp only [List.map_toArray, List.map_cons, List.map_nil]); first | done | rfl | (simp only [List.length_drop, List.length_take]; rfl)) ?_; (with_reducible refine (laws_toByteS.calls kj37 _ _ l0 t295 _ ?side1 ?side2 A63.out).mono ?_); (case side1 => repeat (first | exact (Kd.C_below HR0.out HB.out) | (with_reducible refine Kd.C_alloc ?_ _) | (with_reducible refine Kd.C_drewN ?_ _) | (with_reducible refine Kd.C_drew ?_))); (case side2 => exact HC0.out); rintro e w71 ⟨v296, rfl, ho0, hb⟩; refine ⟨_, rfl, ?_⟩; have n0_ := Aside0.mk (Kd.R_below (by (with_reducible repeat (first | apply Kd.R_alloc | apply Kd.R_drewN | apply Kd.R_drew)); exact HO_270002.out) hb); have n1_ := Aside0.mk (Kd.R_below (by (with_reducible repeat (first | apply Kd.R_alloc | apply Kd.R_drewN | apply Kd.R_drew)); exact HO_270003.out) hb); have n2_ := Aside0.mk (Kd.R_below (by (with_reducible repeat (first | apply Kd.R_alloc | apply Kd.R_drewN | apply Kd.R_drew)); exact HO_283002.out) hb); have n3_ := Aside0.mk (Kd.R_below (by (with_reducible repeat (first | apply Kd.R_alloc | apply Kd.R_drewN | apply Kd.R_drew)); exact HO_283003.out) hb); have n4_ := Aside0.mk (Kd.R_lower ho0 (below_size (by repeat (first | (with_reducible first | exact HB.out | apply below_alloc | apply pw_below_drewN | apply below_drew1 | refine below_set ?_ GE269.out | refine below_set ?_ GE282.out) | exact HB.out)))); have n5_ := Aside0.mk (blk_below (g := gb269) (o := .cells #[.int .i64 t260, .int .i64 t261, .slice Ao13 t262.length co13, .slice Ao14 t265.length co14] 75 (0, 0)) (by (with_reducible repeat (first | refine blk_drewN ?_ _ | refine blk_drew ?_ | refine blk_alloc ?_ _)); exact BK269.out) hb); have n6_ := Aside0.mk (blk_below (g := gb282) (o := .cells #[.int .i64 t273, .int .i64 t274, .slice Ao21 t275.length co21, .slice Ao22 t278.length co22] 75 (0, 0)) (by (with_reducible repeat (first | refine blk_drewN ?_ _ | refine blk_drew ?_ | refine blk_alloc ?_ _)); exact BK282.out) hb); have n7_ := Aside0.mk (below_step (by repeat (first | (with_reducible first | exact HB.out | apply below_alloc | apply pw_below_drewN | apply below_drew1 | refine below_set ?_ GE269.out | refine below_set ?_ GE282.out) | exact HB.out)) hb); clear HO_270002; clear HO_270003; clear HO_283002; clear HO_283003; clear BK269; clear BK282; clear HB; have HO_270002 := n0_; have HO_270003 := n1_; have HO_283002 := n2_; have HO_283003 := n3_; have HO297 := n4_; have BK269 := n5_; have BK282 := n6_; have HB := n7_; clear n0_ n1_ n2_ n3_ n4_ n5_ n6_ n7_; (try clear hb); (try clear hb2); (try clear hk); (try clear hi); (try clear ho0); obtain ⟨Ao72, co72, eo72⟩ := Kd.R_slice HO297.out; subst eo72) | ((with_reducible refine gate_callee (f := 59) rfl ?_); refine goesL_ (some 73) rfl rfl Try.func59 (by kernel_rfl) rfl #[.slice Ao72 t295.length co72] rfl (by (try simp only [List.map_toArray, List.map_cons, List.map_nil]); first | done | rfl | (simp only [List.length_drop, List.length_take]; rfl)) ?_; (with_reducible refine (impl_GetSig.calls kj37 _ _ t295 t298 t299 t300 t303 t306 _ ?side1 ?side2 A64.out).mono ?_); (case side1 => repeat (first | exact (Kd.R_reads' HO297.out).2.2 | (with_reducible refine Kd.C_alloc ?_ _) | (with_reducible refine Kd.C_drewN ?_ _) | (with_reducible refine Kd.C_drew ?_))); (case side2 => exact (Kd.R_reads' HO297.out).2.1); rintro e w73 ⟨v301, v304, rfl, ho0, ho1, hb⟩; refine ⟨_, rfl, ?_⟩; have n0_ := Aside0.mk (Kd.R_elder' (by (with_reducible repeat (first | apply Kd.R_alloc | apply Kd.R_drewN | apply Kd.R_drew)); exact HO_270002.out) (Kd.R_base ho0) hb); have n1_ := Aside0.mk (Kd.R_elder' (by (with_reducible repeat (first | apply Kd.R_alloc | apply Kd.R_drewN | apply Kd.R_drew)); exact HO_270003.out) (Kd.R_base ho1) hb); have n2_ := Aside0.mk (Kd.R_elder' (by (with_reducible repeat (first | apply Kd.R_alloc | apply Kd.R_drewN | apply Kd.R_drew)); exact HO_283002.out) (Kd.R_base ho0) hb); have n3_ := Aside0.mk (Kd.R_elder' (by (with_reducible repeat (first | apply Kd.R_alloc | apply Kd.R_drewN | apply Kd.R_drew)); exact HO_283003.out) (Kd.R_base ho1) hb); have n4_ := Aside0.mk (Kd.R_below (by (with_reducible repeat (first | apply Kd.R_alloc | apply Kd.R_drewN | apply Kd.R_drew)); exact HO297.out) hb); have n5_ := Aside0.mk (Kd.R_lower (Kd.R_new' (Kd.R_new' ho0 (Kd.R_lt (by (with_reducible repeat (first | apply Kd.R_alloc | apply Kd.R_drewN | apply Kd.R_drew)); exact HO_270002.out))) (Kd.R_lt (by (with_reducible repeat (first | apply Kd.R_alloc | apply Kd.R_drewN | apply Kd.R_drew)); exact HO_283002.out))) (below_size (by repeat (first | (with_reducible first | exact HB.out | apply below_alloc | apply pw_below_drewN | apply below_drew1 | refine below_set ?_ GE269.out | refine below_set ?_ GE282.out) | exact HB.out)))); have n6_ := Aside0.mk (Kd.R_lower (Kd.R_new' (Kd.R_new' ho1 (Kd.R_lt (by (with_reducible repeat (first | apply Kd.R_alloc | apply Kd.R_drewN | apply Kd.R_drew)); exact HO_270003.out))) (Kd.R_lt (by (with_reducible repeat (first | apply Kd.R_alloc | apply Kd.R_drewN | apply Kd.R_drew)); exact HO_283003.out))) (below_size (by repeat (first | (with_reducible first | exact HB.out | apply below_alloc | apply pw_below_drewN | apply below_drew1 | refine below_set ?_ GE269.out | refine below_set ?_ GE282.out) | exact HB.out)))); have n7_ := Aside0.mk (blk_below (g := gb269) (o := .cells #[.int .i64 t260, .int .i64 t261, .slice Ao13 t262.length co13, .slice Ao14 t265.length co14] 75 (0, 0)) (by (with_reducible repeat (first | refine blk_drewN ?_ _ | refine blk_drew ?_ | refine blk_alloc ?_ _)); exact BK269.out) hb); have n8_ := Aside0.mk (blk_below (g := gb282) (o := .cells #[.int .i64 t273, .int .i64 t274, .slice Ao21 t275.length co21, .slice Ao22 t278.length co22] 75 (0, 0)) (by (with_reducible repeat (first | refine blk_drewN ?_ _ | refine blk_drew ?_ | refine blk_alloc ?_ _)); exact BK282.out) hb); have n9_ := Aside0.mk (below_step (by repeat (first | (with_reducible first | exact HB.out | apply below_alloc | apply pw_below_drewN | apply below_drew1 | refine below_set ?_ GE269.out | refine below_set ?_ GE282.out) | exact HB.out)) hb); clear HO_270002; clear HO_270003; clear HO_283002; clear HO_283003; clear HO297; clear BK269; clear BK282; clear HB; have HO_270002 := n0_; have HO_270003 := n1_; have HO_283002 := n2_; have HO_283003 := n3_; have HO297 := n4_; have HO302 := n5_; have HO305 := n6_; have BK269 := n7_; have BK282 := n8_; have HB := n9_; clear n0_ n1_ n2_ n3_ n4_ n5_ n6_ n7_ n8_ n9_; (try clear hb); (try clear hb2); (try clear hk); (try clear hi); (try clear ho0); (try clear ho1)) | ((with_reducible refine gate_dst (N := 11) rfl ?_); refine box_event ?hg (N := 11) ?hd (cs := #[.int .i64 0, .int .i64 0, .slice none 0 0, .slice none 0 0]) (t := 75) ?hr ?_; (case hd => rfl); (case hg => rfl); (case hr => first | (go_simp; done) | (go_simp; rfl)); intro gb307 hg w74 hbox hb; have n0_ := Aside0.mk (Kd.R_below (by (with_reducible repeat (first | apply Kd.R_alloc | apply Kd.R_drewN | apply Kd.R_drew)); exact HO_270002.out) hb); have n1_ := Aside0.mk (Kd.R_below (by (with_reducible repeat (first | apply Kd.R_alloc | apply Kd.R_drewN | apply Kd.R_drew)); exact HO_270003.out) hb); have n2_ := Aside0.mk (Kd.R_below (by (with_reducible repeat (first | apply Kd.R_alloc | apply Kd.R_drewN | apply Kd.R_drew)); exact HO_283002.out) hb); have n3_ := Aside0.mk (Kd.R_below (by (with_reducible repeat (first | apply Kd.R_alloc | apply Kd.R_drewN | apply Kd.R_drew)); exact HO_283003.out) hb); have n4_ := Aside0.mk (Kd.R_below (by (with_reducible repeat (first | apply Kd.R_alloc | apply Kd.R_drewN | apply Kd.R_drew)); exact HO297.out) hb); have n5_ := Aside0.mk (Kd.R_below (by (with_reducible repeat (first | apply Kd.R_alloc | apply Kd.R_drewN | apply Kd.R_drew)); exact HO302.out) hb); have n6_ := Aside0.mk (Kd.R_below (by (with_reducible repeat (first | apply Kd.R_alloc | apply Kd.R_drewN | apply Kd.R_drew)); exact HO305.out) hb); have n7_ := Aside0.mk (blk_below (g := gb269) (o := .cells #[.int .i64 t260, .int .i64 t261, .slice Ao13 t262.length co13, .slice Ao14 t265.length co14] 75 (0, 0)) (by (with_reducible repeat (first | refine blk_drewN ?_ _ | refine blk_drew ?_ | refine blk_alloc ?_ _)); exact BK269.out) hb); have n8_ := Aside0.mk (blk_below (g := gb282) (o := .cells #[.int .i64 t273, .int .i64 t274, .slice Ao21 t275.length co21, .slice Ao22 t278.length co22] 75 (0, 0)) (by (with_reducible repeat (first | refine blk_drewN ?_ _ | refine blk_drew ?_ | refine blk_alloc ?_ _)); exact BK282.out) hb); have n9_ := Aside0.mk (below_step (by repeat (first | (with_reducible first | exact HB.out | apply below_alloc | apply pw_below_drewN | apply below_drew1 | refine below_set ?_ GE269.out | refine below_set ?_ GE282.out) | exact HB.out)) hb); have n10_ := Aside0.mk (hbox); have n11_ := Aside0.mk ((by rw [hg]; exact (below_size (by repeat (first | (with_reducible first | exact HB.out | apply below_alloc | apply pw_below_drewN | apply below_drew1 | refine below_set ?_ GE269.out | refine below_set ?_ GE282.out) | exact HB.out))) : w.heap.size ≤ gb307)); have n12_ := Aside0.mk ((by rw [hg]; exact (below_size (by repeat (first | (with_reducible first | exact HB.out | apply below_alloc | apply pw_below_drewN | apply below_drew1 | refine below_set ?_ GE269.out | refine below_set ?_ GE282.out) | exact HB.out))) : w.heap.size ≤ gb307)); have n13_ := Aside0.mk ((by rw [hg]; exact Nat.ne_of_lt (blk_lt (g := gb269) (o := .cells #[.int .i64 t260, .int .i64 t261, .slice Ao13 t262.length co13, .slice Ao14 t265.length co14] 75 (0, 0)) (by (with_reducible repeat (first | refine blk_drewN ?_ _ | refine blk_drew ?_ | refine blk_alloc ?_ _)); exact BK269.out)) : gb269 ≠ gb307)); have n14_ := Aside0.mk ((by rw [hg]; exact Nat.ne_of_gt (blk_lt (g := gb269) (o := .cells #[.int .i64 t260, .int .i64 t261, .slice Ao13 t262.length co13, .slice Ao14 t265.length co14] 75 (0, 0)) (by (with_reducible repeat (first | refine blk_drewN ?_ _ | refine blk_drew ?_ | refine blk_alloc ?_ _)); exact BK269.out)) : gb307 ≠ gb269)); have n15_ := Aside0.mk ((by rw [hg]; exact Nat.ne_of_lt (blk_lt (g := gb282) (o := .cells #[.int .i64 t273, .int .i64 t274, .slice Ao21 t275.length co21, .slice Ao22 t278.length co22] 75 (0, 0)) (by (with_reducible repeat (first | refine blk_drewN ?_ _ | refine blk_drew ?_ | refine blk_alloc ?_ _)); exact BK282.out)) : gb282 ≠ gb307)); have n16_ := Aside0.mk ((by rw [hg]; exact Nat.ne_of_gt (blk_lt (g := gb282) (o := .cells #[.int .i64 t273, .int .i64 t274, .slice Ao21 t275.length co21, .slice Ao22 t278.length co22] 75 (0, 0)) (by (with_reducible repeat (first | refine blk_drewN ?_ _ | refine blk_drew ?_ | refine blk_alloc ?_ _)); exact BK282.out)) : gb307 ≠ gb282)); clear HO_270002; clear HO_270003; clear HO_283002; clear HO_283003; clear HO297; clear HO302; clear HO305; clear BK269; clear BK282; clear HB; have HO_270002 := n0_; have HO_270003 := n1_; have HO_283002 := n2_; have HO_283003 := n3_; have HO297 := n4_; have HO302 := n5_; have HO305 := n6_; have BK269 := n7_; have BK282 := n8_; have HB := n9_; have BK307 := n10_; have GW307 := n11_; have GE307 := n12_; have NB269_307 := n13_; have NB307_269 := n14_; have NB282_307 := n15_; have NB307_282 := n16_; clear n0_ n1_ n2_ n3_ n4_ n5_ n6_ n7_ n8_ n9_ n10_ n11_ n12_ n13_ n14_ n15_ n16_; clear hb hbox hg; have hnb75 := NB307_269.out; have hnc75 := NB269_307.out; have hnb76 := NB307_282.out; have hnc76 := NB282_307.out; have hcz77_0 : w74.cell? ⟨gb307, 0, none⟩ = some (.int .i64 0) := (blk_cell BK307.out 0).trans rfl; have hcz77_1 : w74.cell? ⟨gb307, 1, none⟩ = some (.int .i64 0) := (blk_cell BK307.out 1).trans rfl; have hcz77_2 : w74.cell? ⟨gb307, 2, none⟩ = some (.slice none 0 0) := (blk_cell BK307.out 2).trans rfl; have hcz77_3 : w74.cell? ⟨gb307, 3, none⟩ = some (.slice none 0 0) := (blk_cell BK307.out 3).trans rfl; have hfz77_0 := blk_frozen BK307.out 0; have hfz77_1 := blk_frozen BK307.out 1; have hfz77_2 := blk_frozen BK307.out 2; have hfz77_3 := blk_frozen BK307.out 3; obtain ⟨Ao78, co78, eo78⟩ := Kd.R_slice HO302.out; subst eo78; obtain ⟨Ao79, co79, eo79⟩ := Kd.R_slice HO305.out; subst eo79))
                      (try simp only [Act.put, List.setIfInBounds_toArray, List.set_cons_zero, List.set_cons_succ])
                      go_cut [84] (fun v84 wc => ∃ (kq : Nat) (x84_64 : Bool), v84 = .bool x84_64 ∧ Aside0 (laws_FnExactGetSig.j2 kq t291 x84_64 t273 t274 t292 t293 = some r) ∧ Aside0 (kq ≤ kj37) ∧ Aside0 (Kd.R (Kd.int .u32) 87 wc w.heap.size (fun k_ => some k_ ≠ ((.slice Ao21 t275.length co21) : Value).ownBlock ∧ some k_ ≠ ((.slice Ao78 t300.length co78) : Value).ownBlock) (.slice Ao13 t262.length co13) t262) ∧ Aside0 (Kd.R Kd.string 9 wc w.heap.size (fun k_ => some k_ ≠ ((.slice Ao22 t278.length co22) : Value).ownBlock ∧ some k_ ≠ ((.slice Ao79 t303.length co79) : Value).ownBlock) (.slice Ao14 t265.length co14) t265) ∧ Aside0 (Kd.R (Kd.int .u32) 87 wc w.heap.size (fun k_ => some k_ ≠ ((.slice Ao13 t262.length co13) : Value).ownBlock ∧ some k_ ≠ ((.slice Ao78 t300.length co78) : Value).ownBlock) (.slice Ao21 t275.length co21) t292) ∧ Aside0 (Kd.R Kd.string 9 wc w.heap.size (fun k_ => some k_ ≠ ((.slice Ao14 t265.length co14) : Value).ownBlock ∧ some k_ ≠ ((.slice Ao79 t303.length co79) : Value).ownBlock) (.slice Ao22 t278.length co22) t293) ∧ Aside0 (Kd.R (Kd.int .u32) 87 wc w.heap.size (fun k_ => some k_ ≠ ((.slice Ao13 t262.length co13) : Value).ownBlock ∧ some k_ ≠ ((.slice Ao21 t275.length co21) : Value).ownBlock) (.slice Ao78 t300.length co78) t300) ∧ Aside0 (Kd.R Kd.string 9 wc w.heap.size (fun k_ => some k_ ≠ ((.slice Ao14 t265.length co14) : Value).ownBlock ∧ some k_ ≠ ((.slice Ao22 t278.length co22) : Value).ownBlock) (.slice Ao79 t303.length co79) t303) ∧ Aside0 (wc.heap[gb269]? = some (.cells #[.int .i64 t260, .int .i64 t261, (.slice Ao13 t262.length co13), (.slice Ao14 t265.length co14)] 75 (0, 0))) ∧ Aside0 (wc.heap[gb282]? = some (.cells #[.int .i64 t273, .int .i64 t274, (.slice Ao21 t275.length co21), (.slice Ao22 t278.length co22)] 75 (0, 0))) ∧ Aside0 (wc.heap[gb307]? = some (.cells #[.int .i64 t298, .int .i64 t299, (.slice Ao78 t300.length co78), (.slice Ao79 t303.length co79)] 75 (0, 0))) ∧ Aside0 (Below w.heap.size w wc))
                      case first =>
                        have H := HC65.out
                        clear HC65
                        replace H := Option.bind_eq_some_iff.mp H
                        obtain ⟨t308, A800, H⟩ := H
                        replace H : (if t308 = true then (laws_FnExactGetSig.j2 kj37 t291 (t306 != t268) t273 t274 t292 t293) else (laws_FnExactGetSig.j2 kj37 t291 true t273 t274 t292 t293)) = some r := H
                        have A80 := Aside0.mk A800
                        clear A800
                        by_cases c81 : t308 = true
                        · subst c81
                          have H1 : (laws_FnExactGetSig.j2 kj37 t291 (t306 != t268) t273 t274 t292 t293) = some r := by rw [if_pos rfl] at H; exact H
                          clear H
                          have H := H1
                          clear H1
                          have H' := Aside0.mk H
                          clear H
                          have hnb82 := NB307_269.out
                          have hnc82 := NB269_307.out
                          have hnb83 := NB307_282.out
                          have hnc83 := NB282_307.out
                          have hcz84_0 : w74.cell? ⟨gb307, 0, none⟩ = some (.int .i64 0) := (blk_cell BK307.out 0).trans rfl
                          have hcz84_1 : w74.cell? ⟨gb307, 1, none⟩ = some (.int .i64 0) := (blk_cell BK307.out 1).trans rfl
                          have hcz84_2 : w74.cell? ⟨gb307, 2, none⟩ = some (.slice none 0 0) := (blk_cell BK307.out 2).trans rfl
                          have hcz84_3 : w74.cell? ⟨gb307, 3, none⟩ = some (.slice none 0 0) := (blk_cell BK307.out 3).trans rfl
                          have hfz84_0 := blk_frozen BK307.out 0
                          have hfz84_1 := blk_frozen BK307.out 1
                          have hfz84_2 := blk_frozen BK307.out 2
                          have hfz84_3 := blk_frozen BK307.out 3
                          have hnb85 := NB269_282.out
                          have hnc85 := NB282_269.out
                          have hcz86_0 : w74.cell? ⟨gb269, 0, none⟩ = some (.int .i64 t260) := (blk_cell BK269.out 0).trans rfl
                          have hcz86_1 : w74.cell? ⟨gb269, 1, none⟩ = some (.int .i64 t261) := (blk_cell BK269.out 1).trans rfl
                          have hcz86_2 : w74.cell? ⟨gb269, 2, none⟩ = some (.slice Ao13 t262.length co13) := (blk_cell BK269.out 2).trans rfl
                          have hcz86_3 : w74.cell? ⟨gb269, 3, none⟩ = some (.slice Ao14 t265.length co14) := (blk_cell BK269.out 3).trans rfl
                          have hfz86_0 := blk_frozen BK269.out 0
                          have hfz86_1 := blk_frozen BK269.out 1
                          have hfz86_2 := blk_frozen BK269.out 2
                          have hfz86_3 := blk_frozen BK269.out 3
                          go_wp2_with (first | ((with_reducible refine gate_callee (f := 60) rfl ?_); refine goesL_ (some 78) rfl rfl Try.func60 (by kernel_rfl) rfl #[.agg #[.int .i64 t298, .int .i64 t299, .slice Ao78 t300.length co78, .slice Ao79 t303.length co79], .agg #[.int .i64 t260, .int .i64 t261, .slice Ao13 t262.length co13, .slice Ao14 t265.length co14]] rfl (by (try simp only [List.map_toArray, List.map_cons, List.map_nil]); first | done | rfl | (simp only [List.length_drop, List.length_take]; rfl)) ?_; (with_reducible refine (laws_eqSig.calls kj37 t298 t299 _ _ t300 _ _ t303 t260 t261 _ _ t262 _ _ t265 true _ ?side1 ?side2 ?side3 ?side4 ?side5 ?side6 ?side7 ?side8 A80.out).mono ?_); (case side1 => refine (Kd.R_reads' (e := 87) (base := w.heap.size) (ok := fun k_ => ((True ∧ some k_ ≠ (.slice Ao13 t262.length co13 : Value).ownBlock) ∧ some k_ ≠ (.slice Ao21 t275.length co21 : Value).ownBlock)) (n := t300.length) (c := co78) ?_).2.2; exact (by (with_reducible repeat (first | apply Kd.R_alloc | apply Kd.R_drewN | apply Kd.R_drew)); exact (Kd.R_mono (Kd.R_far (p := ⟨gb307, 3, none⟩) (Kd.R_far (p := ⟨gb307, 2, none⟩) (Kd.R_far (p := ⟨gb307, 1, none⟩) (Kd.R_far (p := ⟨gb307, 0, none⟩) (Kd.R_types HO302.out BK307.out (by decide)) (fun _ hk => hk.2) (.int .i64 t298)) (fun _ hk => hk.2) (.int .i64 t299)) (fun _ hk => hk.2) (.slice Ao78 t300.length co78)) (fun _ hk => hk.2) (.slice Ao79 t303.length co79)) (fun _ h_ => h_.1)))); (case side2 => exact (Kd.R_reads' HO302.out).2.1); (case side3 => refine (Kd.R_reads' (e := 9) (base := w.heap.size) (ok := fun k_ => ((True ∧ some k_ ≠ (.slice Ao14 t265.length co14 : Value).ownBlock) ∧ some k_ ≠ (.slice Ao22 t278.length co22 : Value).ownBlock)) (n := t303.length) (c := co79) ?_).2.2; exact (by (with_reducible repeat (first | apply Kd.R_alloc | apply Kd.R_drewN | apply Kd.R_drew)); exact (Kd.R_mono (Kd.R_far (p := ⟨gb307, 3, none⟩) (Kd.R_far (p := ⟨gb307, 2, none⟩) (Kd.R_far (p := ⟨gb307, 1, none⟩) (Kd.R_far (p := ⟨gb307, 0, none⟩) (Kd.R_types HO305.out BK307.out (by decide)) (fun _ hk => hk.2) (.int .i64 t298)) (fun _ hk => hk.2) (.int .i64 t299)) (fun _ hk => hk.2) (.slice Ao78 t300.length co78)) (fun _ hk => hk.2) (.slice Ao79 t303.length co79)) (fun _ h_ => h_.1)))); (case side4 => exact (Kd.R_reads' HO305.out).2.1); (case side5 => refine (Kd.R_reads' (e := 87) (base := w.heap.size) (ok := fun k_ => (some k_ ≠ (.slice Ao21 t275.length co21 : Value).ownBlock ∧ some k_ ≠ (.slice Ao78 t300.length co78 : Value).ownBlock)) (n := t262.length) (c := co13) ?_).2.2; exact (by (with_reducible repeat (first | apply Kd.R_alloc | apply Kd.R_drewN | apply Kd.R_drew)); exact (Kd.R_mono (Kd.R_far (p := ⟨gb307, 3, none⟩) (Kd.R_far (p := ⟨gb307, 2, none⟩) (Kd.R_far (p := ⟨gb307, 1, none⟩) (Kd.R_far (p := ⟨gb307, 0, none⟩) (Kd.R_types HO_270002.out BK307.out (by decide)) (fun _ hk => hk.2) (.int .i64 t298)) (fun _ hk => hk.2) (.int .i64 t299)) (fun _ hk => hk.2) (.slice Ao78 t300.length co78)) (fun _ hk => hk.2) (.slice Ao79 t303.length co79)) (fun _ h_ => h_.1)))); (case side6 => exact (Kd.R_reads' HO_270002.out).2.1); (case side7 => refine (Kd.R_reads' (e := 9) (base := w.heap.size) (ok := fun k_ => (some k_ ≠ (.slice Ao22 t278.length co22 : Value).ownBlock ∧ some k_ ≠ (.slice Ao79 t303.length co79 : Value).ownBlock)) (n := t265.length) (c := co14) ?_).2.2; exact (by (with_reducible repeat (first | apply Kd.R_alloc | apply Kd.R_drewN | apply Kd.R_drew)); exact (Kd.R_mono (Kd.R_far (p := ⟨gb307, 3, none⟩) (Kd.R_far (p := ⟨gb307, 2, none⟩) (Kd.R_far (p := ⟨gb307, 1, none⟩) (Kd.R_far (p := ⟨gb307, 0, none⟩) (Kd.R_types HO_270003.out BK307.out (by decide)) (fun _ hk => hk.2) (.int .i64 t298)) (fun _ hk => hk.2) (.int .i64 t299)) (fun _ hk => hk.2) (.slice Ao78 t300.length co78)) (fun _ hk => hk.2) (.slice Ao79 t303.length co79)) (fun _ h_ => h_.1)))); (case side8 => exact (Kd.R_reads' HO_270003.out).2.1); rintro e w87 ⟨rfl, hb⟩; refine ⟨_, rfl, ?_⟩; have n0_ := Aside0.mk (Kd.R_below (by (with_reducible repeat (first | apply Kd.R_alloc | apply Kd.R_drewN | apply Kd.R_drew)); exact (Kd.R_mono (Kd.R_far (p := ⟨gb307, 3, none⟩) (Kd.R_far (p := ⟨gb307, 2, none⟩) (Kd.R_far (p := ⟨gb307, 1, none⟩) (Kd.R_far (p := ⟨gb307, 0, none⟩) (Kd.R_types HO_270002.out BK307.out (by decide)) (fun _ hk => hk.2) (.int .i64 t298)) (fun _ hk => hk.2) (.int .i64 t299)) (fun _ hk => hk.2) (.slice Ao78 t300.length co78)) (fun _ hk => hk.2) (.slice Ao79 t303.length co79)) (fun _ h_ => h_.1))) hb); have n1_ := Aside0.mk (Kd.R_below (by (with_reducible repeat (first | apply Kd.R_alloc | apply Kd.R_drewN | apply Kd.R_drew)); exact (Kd.R_mono (Kd.R_far (p := ⟨gb307, 3, none⟩) (Kd.R_far (p := ⟨gb307, 2, none⟩) (Kd.R_far (p := ⟨gb307, 1, none⟩) (Kd.R_far (p := ⟨gb307, 0, none⟩) (Kd.R_types HO_270003.out BK307.out (by decide)) (fun _ hk => hk.2) (.int .i64 t298)) (fun _ hk => hk.2) (.int .i64 t299)) (fun _ hk => hk.2) (.slice Ao78 t300.length co78)) (fun _ hk => hk.2) (.slice Ao79 t303.length co79)) (fun _ h_ => h_.1))) hb); have n2_ := Aside0.mk (Kd.R_below (by (with_reducible repeat (first | apply Kd.R_alloc | apply Kd.R_drewN | apply Kd.R_drew)); exact (Kd.R_mono (Kd.R_far (p := ⟨gb307, 3, none⟩) (Kd.R_far (p := ⟨gb307, 2, none⟩) (Kd.R_far (p := ⟨gb307, 1, none⟩) (Kd.R_far (p := ⟨gb307, 0, none⟩) (Kd.R_types HO_283002.out BK307.out (by decide)) (fun _ hk => hk.2) (.int .i64 t298)) (fun _ hk => hk.2) (.int .i64 t299)) (fun _ hk => hk.2) (.slice Ao78 t300.length co78)) (fun _ hk => hk.2) (.slice Ao79 t303.length co79)) (fun _ h_ => h_.1))) hb); have n3_ := Aside0.mk (Kd.R_below (by (with_reducible repeat (first | apply Kd.R_alloc | apply Kd.R_drewN | apply Kd.R_drew)); exact (Kd.R_mono (Kd.R_far (p := ⟨gb307, 3, none⟩) (Kd.R_far (p := ⟨gb307, 2, none⟩) (Kd.R_far (p := ⟨gb307, 1, none⟩) (Kd.R_far (p := ⟨gb307, 0, none⟩) (Kd.R_types HO_283003.out BK307.out (by decide)) (fun _ hk => hk.2) (.int .i64 t298)) (fun _ hk => hk.2) (.int .i64 t299)) (fun _ hk => hk.2) (.slice Ao78 t300.length co78)) (fun _ hk => hk.2) (.slice Ao79 t303.length co79)) (fun _ h_ => h_.1))) hb); have n4_ := Aside0.mk (Kd.R_below (by (with_reducible repeat (first | apply Kd.R_alloc | apply Kd.R_drewN | apply Kd.R_drew)); exact (Kd.R_mono (Kd.R_far (p := ⟨gb307, 3, none⟩) (Kd.R_far (p := ⟨gb307, 2, none⟩) (Kd.R_far (p := ⟨gb307, 1, none⟩) (Kd.R_far (p := ⟨gb307, 0, none⟩) (Kd.R_types HO297.out BK307.out (by decide)) (fun _ hk => hk.2) (.int .i64 t298)) (fun _ hk => hk.2) (.int .i64 t299)) (fun _ hk => hk.2) (.slice Ao78 t300.length co78)) (fun _ hk => hk.2) (.slice Ao79 t303.length co79)) (fun _ h_ => h_.1))) hb); have n5_ := Aside0.mk (Kd.R_below (by (with_reducible repeat (first | apply Kd.R_alloc | apply Kd.R_drewN | apply Kd.R_drew)); exact (Kd.R_mono (Kd.R_far (p := ⟨gb307, 3, none⟩) (Kd.R_far (p := ⟨gb307, 2, none⟩) (Kd.R_far (p := ⟨gb307, 1, none⟩) (Kd.R_far (p := ⟨gb307, 0, none⟩) (Kd.R_types HO302.out BK307.out (by decide)) (fun _ hk => hk.2) (.int .i64 t298)) (fun _ hk => hk.2) (.int .i64 t299)) (fun _ hk => hk.2) (.slice Ao78 t300.length co78)) (fun _ hk => hk.2) (.slice Ao79 t303.length co79)) (fun _ h_ => h_.1))) hb); have n6_ := Aside0.mk (Kd.R_below (by (with_reducible repeat (first | apply Kd.R_alloc | apply Kd.R_drewN | apply Kd.R_drew)); exact (Kd.R_mono (Kd.R_far (p := ⟨gb307, 3, none⟩) (Kd.R_far (p := ⟨gb307, 2, none⟩) (Kd.R_far (p := ⟨gb307, 1, none⟩) (Kd.R_far (p := ⟨gb307, 0, none⟩) (Kd.R_types HO305.out BK307.out (by decide)) (fun _ hk => hk.2) (.int .i64 t298)) (fun _ hk => hk.2) (.int .i64 t299)) (fun _ hk => hk.2) (.slice Ao78 t300.length co78)) (fun _ hk => hk.2) (.slice Ao79 t303.length co79)) (fun _ h_ => h_.1))) hb); have n7_ := Aside0.mk (blk_below (g := gb269) (o := .cells #[.int .i64 t260, .int .i64 t261, .slice Ao13 t262.length co13, .slice Ao14 t265.length co14] 75 (0, 0)) (by (with_reducible repeat (first | refine blk_drewN ?_ _ | refine blk_drew ?_ | refine blk_alloc ?_ _)); refine blk_far ?_ NB269_307.out _; (with_reducible repeat (first | refine blk_drewN ?_ _ | refine blk_drew ?_ | refine blk_alloc ?_ _)); refine blk_far ?_ NB269_307.out _; (with_reducible repeat (first | refine blk_drewN ?_ _ | refine blk_drew ?_ | refine blk_alloc ?_ _)); refine blk_far ?_ NB269_307.out _; (with_reducible repeat (first | refine blk_drewN ?_ _ | refine blk_drew ?_ | refine blk_alloc ?_ _)); refine blk_far ?_ NB269_307.out _; (with_reducible repeat (first | refine blk_drewN ?_ _ | refine blk_drew ?_ | refine blk_alloc ?_ _)); exact BK269.out) hb); have n8_ := Aside0.mk (blk_below (g := gb282) (o := .cells #[.int .i64 t273, .int .i64 t274, .slice Ao21 t275.length co21, .slice Ao22 t278.length co22] 75 (0, 0)) (by (with_reducible repeat (first | refine blk_drewN ?_ _ | refine blk_drew ?_ | refine blk_alloc ?_ _)); refine blk_far ?_ NB282_307.out _; (with_reducible repeat (first | refine blk_drewN ?_ _ | refine blk_drew ?_ | refine blk_alloc ?_ _)); refine blk_far ?_ NB282_307.out _; (with_reducible repeat (first | refine blk_drewN ?_ _ | refine blk_drew ?_ | refine blk_alloc ?_ _)); refine blk_far ?_ NB282_307.out _; (with_reducible repeat (first | refine blk_drewN ?_ _ | refine blk_drew ?_ | refine blk_alloc ?_ _)); refine blk_far ?_ NB282_307.out _; (with_reducible repeat (first | refine blk_drewN ?_ _ | refine blk_drew ?_ | refine blk_alloc ?_ _)); exact BK282.out) hb); have n9_ := Aside0.mk (blk_below (g := gb307) (o := .cells #[.int .i64 t298, .int .i64 t299, .slice Ao78 t300.length co78, .slice Ao79 t303.length co79] 75 (0, 0)) (by (with_reducible repeat (first | refine blk_drewN ?_ _ | refine blk_drew ?_ | refine blk_alloc ?_ _)); refine blk_put (cs := #[.int .i64 t298, .int .i64 t299, .slice Ao78 t300.length co78, .slice none 0 0]) ?_ 3 _ rfl; (with_reducible repeat (first | refine blk_drewN ?_ _ | refine blk_drew ?_ | refine blk_alloc ?_ _)); refine blk_put (cs := #[.int .i64 t298, .int .i64 t299, .slice none 0 0, .slice none 0 0]) ?_ 2 _ rfl; (with_reducible repeat (first | refine blk_drewN ?_ _ | refine blk_drew ?_ | refine blk_alloc ?_ _)); refine blk_put (cs := #[.int .i64 t298, .int .i64 0, .slice none 0 0, .slice none 0 0]) ?_ 1 _ rfl; (with_reducible repeat (first | refine blk_drewN ?_ _ | refine blk_drew ?_ | refine blk_alloc ?_ _)); refine blk_put (cs := #[.int .i64 0, .int .i64 0, .slice none 0 0, .slice none 0 0]) ?_ 0 _ rfl; (with_reducible repeat (first | refine blk_drewN ?_ _ | refine blk_drew ?_ | refine blk_alloc ?_ _)); exact BK307.out) hb); have n10_ := Aside0.mk (below_step (by repeat (first | (with_reducible first | exact HB.out | apply below_alloc | apply pw_below_drewN | apply below_drew1 | refine below_set ?_ GE269.out | refine below_set ?_ GE282.out | refine below_set ?_ GE307.out) | exact HB.out)) hb); clear HO_270002; clear HO_270003; clear HO_283002; clear HO_283003; clear HO297; clear HO302; clear HO305; clear BK269; clear BK282; clear BK307; clear HB; have HO_270002 := n0_; have HO_270003 := n1_; have HO_283002 := n2_; have HO_283003 := n3_; have HO297 := n4_; have HO302 := n5_; have HO305 := n6_; have BK269 := n7_; have BK282 := n8_; have BK307 := n9_; have HB := n10_; clear n0_ n1_ n2_ n3_ n4_ n5_ n6_ n7_ n8_ n9_ n10_; (try clear hb); (try clear hb2); (try clear hk); (try clear hi)))
                          go_meet
                          case rel => exact ⟨_, ((t306 != t268)), (by first | rfl | (simp; done) | (simp [*]; done)), H', ⟨by have := HJ6.out; have := HJ37.out; first | omega | exact Nat.le_refl _⟩, ⟨by (with_reducible repeat (first | apply Kd.R_alloc | apply Kd.R_drewN | apply Kd.R_drew)); exact HO_270002.out⟩, ⟨by (with_reducible repeat (first | apply Kd.R_alloc | apply Kd.R_drewN | apply Kd.R_drew)); exact HO_270003.out⟩, ⟨by (with_reducible repeat (first | apply Kd.R_alloc | apply Kd.R_drewN | apply Kd.R_drew)); exact HO_283002.out⟩, ⟨by (with_reducible repeat (first | apply Kd.R_alloc | apply Kd.R_drewN | apply Kd.R_drew)); exact HO_283003.out⟩, ⟨by (with_reducible repeat (first | apply Kd.R_alloc | apply Kd.R_drewN | apply Kd.R_drew)); exact Kd.R_mono HO302.out (fun _ hk => ⟨hk.1.2, hk.2⟩)⟩, ⟨by (with_reducible repeat (first | apply Kd.R_alloc | apply Kd.R_drewN | apply Kd.R_drew)); exact Kd.R_mono HO305.out (fun _ hk => ⟨hk.1.2, hk.2⟩)⟩, ⟨by (with_reducible repeat (first | refine blk_drewN ?_ _ | refine blk_drew ?_ | refine blk_alloc ?_ _)); exact BK269.out⟩, ⟨by (with_reducible repeat (first | refine blk_drewN ?_ _ | refine blk_drew ?_ | refine blk_alloc ?_ _)); exact BK282.out⟩, ⟨by (with_reducible repeat (first | refine blk_drewN ?_ _ | refine blk_drew ?_ | refine blk_alloc ?_ _)); exact BK307.out⟩, ⟨by repeat (first | (with_reducible first | exact HB.out | apply below_alloc | apply pw_below_drewN | apply below_drew1 | refine below_set ?_ GE269.out | refine below_set ?_ GE282.out | refine below_set ?_ GE307.out) | exact HB.out)⟩⟩
                        · replace c81 := Bool.eq_false_iff.mpr c81
                          subst c81
                          have H1 : (laws_FnExactGetSig.j2 kj37 t291 true t273 t274 t292 t293) = some r := by rw [if_neg (show ¬ (false = true) by decide)] at H; exact H
                          clear H
                          have H := H1
                          clear H1
                          have H' := Aside0.mk H
                          clear H
                          have hnb88 := NB307_269.out
                          have hnc88 := NB269_307.out
                          have hnb89 := NB307_282.out
                          have hnc89 := NB282_307.out
                          have hcz90_0 : w74.cell? ⟨gb307, 0, none⟩ = some (.int .i64 0) := (blk_cell BK307.out 0).trans rfl
                          have hcz90_1 : w74.cell? ⟨gb307, 1, none⟩ = some (.int .i64 0) := (blk_cell BK307.out 1).trans rfl
                          have hcz90_2 : w74.cell? ⟨gb307, 2, none⟩ = some (.slice none 0 0) := (blk_cell BK307.out 2).trans rfl
                          have hcz90_3 : w74.cell? ⟨gb307, 3, none⟩ = some (.slice none 0 0) := (blk_cell BK307.out 3).trans rfl
                          have hfz90_0 := blk_frozen BK307.out 0
                          have hfz90_1 := blk_frozen BK307.out 1
                          have hfz90_2 := blk_frozen BK307.out 2
                          have hfz90_3 := blk_frozen BK307.out 3
                          have hnb91 := NB269_282.out
                          have hnc91 := NB282_269.out
                          have hcz92_0 : w74.cell? ⟨gb269, 0, none⟩ = some (.int .i64 t260) := (blk_cell BK269.out 0).trans rfl
                          have hcz92_1 : w74.cell? ⟨gb269, 1, none⟩ = some (.int .i64 t261) := (blk_cell BK269.out 1).trans rfl
                          have hcz92_2 : w74.cell? ⟨gb269, 2, none⟩ = some (.slice Ao13 t262.length co13) := (blk_cell BK269.out 2).trans rfl
                          have hcz92_3 : w74.cell? ⟨gb269, 3, none⟩ = some (.slice Ao14 t265.length co14) := (blk_cell BK269.out 3).trans rfl
                          have hfz92_0 := blk_frozen BK269.out 0
                          have hfz92_1 := blk_frozen BK269.out 1
                          have hfz92_2 := blk_frozen BK269.out 2
                          have hfz92_3 := blk_frozen BK269.out 3
                          go_wp2_with (first | ((with_reducible refine gate_callee (f := 60) rfl ?_); refine goesL_ (some 78) rfl rfl Try.func60 (by kernel_rfl) rfl #[.agg #[.int .i64 t298, .int .i64 t299, .slice Ao78 t300.length co78, .slice Ao79 t303.length co79], .agg #[.int .i64 t260, .int .i64 t261, .slice Ao13 t262.length co13, .slice Ao14 t265.length co14]] rfl (by (try simp only [List.map_toArray, List.map_cons, List.map_nil]); first | done | rfl | (simp only [List.length_drop, List.length_take]; rfl)) ?_; (with_reducible refine (laws_eqSig.calls kj37 t298 t299 _ _ t300 _ _ t303 t260 t261 _ _ t262 _ _ t265 false _ ?side1 ?side2 ?side3 ?side4 ?side5 ?side6 ?side7 ?side8 A80.out).mono ?_); (case side1 => refine (Kd.R_reads' (e := 87) (base := w.heap.size) (ok := fun k_ => ((True ∧ some k_ ≠ (.slice Ao13 t262.length co13 : Value).ownBlock) ∧ some k_ ≠ (.slice Ao21 t275.length co21 : Value).ownBlock)) (n := t300.length) (c := co78) ?_).2.2; exact (by (with_reducible repeat (first | apply Kd.R_alloc | apply Kd.R_drewN | apply Kd.R_drew)); exact (Kd.R_mono (Kd.R_far (p := ⟨gb307, 3, none⟩) (Kd.R_far (p := ⟨gb307, 2, none⟩) (Kd.R_far (p := ⟨gb307, 1, none⟩) (Kd.R_far (p := ⟨gb307, 0, none⟩) (Kd.R_types HO302.out BK307.out (by decide)) (fun _ hk => hk.2) (.int .i64 t298)) (fun _ hk => hk.2) (.int .i64 t299)) (fun _ hk => hk.2) (.slice Ao78 t300.length co78)) (fun _ hk => hk.2) (.slice Ao79 t303.length co79)) (fun _ h_ => h_.1)))); (case side2 => exact (Kd.R_reads' HO302.out).2.1); (case side3 => refine (Kd.R_reads' (e := 9) (base := w.heap.size) (ok := fun k_ => ((True ∧ some k_ ≠ (.slice Ao14 t265.length co14 : Value).ownBlock) ∧ some k_ ≠ (.slice Ao22 t278.length co22 : Value).ownBlock)) (n := t303.length) (c := co79) ?_).2.2; exact (by (with_reducible repeat (first | apply Kd.R_alloc | apply Kd.R_drewN | apply Kd.R_drew)); exact (Kd.R_mono (Kd.R_far (p := ⟨gb307, 3, none⟩) (Kd.R_far (p := ⟨gb307, 2, none⟩) (Kd.R_far (p := ⟨gb307, 1, none⟩) (Kd.R_far (p := ⟨gb307, 0, none⟩) (Kd.R_types HO305.out BK307.out (by decide)) (fun _ hk => hk.2) (.int .i64 t298)) (fun _ hk => hk.2) (.int .i64 t299)) (fun _ hk => hk.2) (.slice Ao78 t300.length co78)) (fun _ hk => hk.2) (.slice Ao79 t303.length co79)) (fun _ h_ => h_.1)))); (case side4 => exact (Kd.R_reads' HO305.out).2.1); (case side5 => refine (Kd.R_reads' (e := 87) (base := w.heap.size) (ok := fun k_ => (some k_ ≠ (.slice Ao21 t275.length co21 : Value).ownBlock ∧ some k_ ≠ (.slice Ao78 t300.length co78 : Value).ownBlock)) (n := t262.length) (c := co13) ?_).2.2; exact (by (with_reducible repeat (first | apply Kd.R_alloc | apply Kd.R_drewN | apply Kd.R_drew)); exact (Kd.R_mono (Kd.R_far (p := ⟨gb307, 3, none⟩) (Kd.R_far (p := ⟨gb307, 2, none⟩) (Kd.R_far (p := ⟨gb307, 1, none⟩) (Kd.R_far (p := ⟨gb307, 0, none⟩) (Kd.R_types HO_270002.out BK307.out (by decide)) (fun _ hk => hk.2) (.int .i64 t298)) (fun _ hk => hk.2) (.int .i64 t299)) (fun _ hk => hk.2) (.slice Ao78 t300.length co78)) (fun _ hk => hk.2) (.slice Ao79 t303.length co79)) (fun _ h_ => h_.1)))); (case side6 => exact (Kd.R_reads' HO_270002.out).2.1); (case side7 => refine (Kd.R_reads' (e := 9) (base := w.heap.size) (ok := fun k_ => (some k_ ≠ (.slice Ao22 t278.length co22 : Value).ownBlock ∧ some k_ ≠ (.slice Ao79 t303.length co79 : Value).ownBlock)) (n := t265.length) (c := co14) ?_).2.2; exact (by (with_reducible repeat (first | apply Kd.R_alloc | apply Kd.R_drewN | apply Kd.R_drew)); exact (Kd.R_mono (Kd.R_far (p := ⟨gb307, 3, none⟩) (Kd.R_far (p := ⟨gb307, 2, none⟩) (Kd.R_far (p := ⟨gb307, 1, none⟩) (Kd.R_far (p := ⟨gb307, 0, none⟩) (Kd.R_types HO_270003.out BK307.out (by decide)) (fun _ hk => hk.2) (.int .i64 t298)) (fun _ hk => hk.2) (.int .i64 t299)) (fun _ hk => hk.2) (.slice Ao78 t300.length co78)) (fun _ hk => hk.2) (.slice Ao79 t303.length co79)) (fun _ h_ => h_.1)))); (case side8 => exact (Kd.R_reads' HO_270003.out).2.1); rintro e w93 ⟨rfl, hb⟩; refine ⟨_, rfl, ?_⟩; have n0_ := Aside0.mk (Kd.R_below (by (with_reducible repeat (first | apply Kd.R_alloc | apply Kd.R_drewN | apply Kd.R_drew)); exact (Kd.R_mono (Kd.R_far (p := ⟨gb307, 3, none⟩) (Kd.R_far (p := ⟨gb307, 2, none⟩) (Kd.R_far (p := ⟨gb307, 1, none⟩) (Kd.R_far (p := ⟨gb307, 0, none⟩) (Kd.R_types HO_270002.out BK307.out (by decide)) (fun _ hk => hk.2) (.int .i64 t298)) (fun _ hk => hk.2) (.int .i64 t299)) (fun _ hk => hk.2) (.slice Ao78 t300.length co78)) (fun _ hk => hk.2) (.slice Ao79 t303.length co79)) (fun _ h_ => h_.1))) hb); have n1_ := Aside0.mk (Kd.R_below (by (with_reducible repeat (first | apply Kd.R_alloc | apply Kd.R_drewN | apply Kd.R_drew)); exact (Kd.R_mono (Kd.R_far (p := ⟨gb307, 3, none⟩) (Kd.R_far (p := ⟨gb307, 2, none⟩) (Kd.R_far (p := ⟨gb307, 1, none⟩) (Kd.R_far (p := ⟨gb307, 0, none⟩) (Kd.R_types HO_270003.out BK307.out (by decide)) (fun _ hk => hk.2) (.int .i64 t298)) (fun _ hk => hk.2) (.int .i64 t299)) (fun _ hk => hk.2) (.slice Ao78 t300.length co78)) (fun _ hk => hk.2) (.slice Ao79 t303.length co79)) (fun _ h_ => h_.1))) hb); have n2_ := Aside0.mk (Kd.R_below (by (with_reducible repeat (first | apply Kd.R_alloc | apply Kd.R_drewN | apply Kd.R_drew)); exact (Kd.R_mono (Kd.R_far (p := ⟨gb307, 3, none⟩) (Kd.R_far (p := ⟨gb307, 2, none⟩) (Kd.R_far (p := ⟨gb307, 1, none⟩) (Kd.R_far (p := ⟨gb307, 0, none⟩) (Kd.R_types HO_283002.out BK307.out (by decide)) (fun _ hk => hk.2) (.int .i64 t298)) (fun _ hk => hk.2) (.int .i64 t299)) (fun _ hk => hk.2) (.slice Ao78 t300.length co78)) (fun _ hk => hk.2) (.slice Ao79 t303.length co79)) (fun _ h_ => h_.1))) hb); have n3_ := Aside0.mk (Kd.R_below (by (with_reducible repeat (first | apply Kd.R_alloc | apply Kd.R_drewN | apply Kd.R_drew)); exact (Kd.R_mono (Kd.R_far (p := ⟨gb307, 3, none⟩) (Kd.R_far (p := ⟨gb307, 2, none⟩) (Kd.R_far (p := ⟨gb307, 1, none⟩) (Kd.R_far (p := ⟨gb307, 0, none⟩) (Kd.R_types HO_283003.out BK307.out (by decide)) (fun _ hk => hk.2) (.int .i64 t298)) (fun _ hk => hk.2) (.int .i64 t299)) (fun _ hk => hk.2) (.slice Ao78 t300.length co78)) (fun _ hk => hk.2) (.slice Ao79 t303.length co79)) (fun _ h_ => h_.1))) hb); have n4_ := Aside0.mk (Kd.R_below (by (with_reducible repeat (first | apply Kd.R_alloc | apply Kd.R_drewN | apply Kd.R_drew)); exact (Kd.R_mono (Kd.R_far (p := ⟨gb307, 3, none⟩) (Kd.R_far (p := ⟨gb307, 2, none⟩) (Kd.R_far (p := ⟨gb307, 1, none⟩) (Kd.R_far (p := ⟨gb307, 0, none⟩) (Kd.R_types HO297.out BK307.out (by decide)) (fun _ hk => hk.2) (.int .i64 t298)) (fun _ hk => hk.2) (.int .i64 t299)) (fun _ hk => hk.2) (.slice Ao78 t300.length co78)) (fun _ hk => hk.2) (.slice Ao79 t303.length co79)) (fun _ h_ => h_.1))) hb); have n5_ := Aside0.mk (Kd.R_below (by (with_reducible repeat (first | apply Kd.R_alloc | apply Kd.R_drewN | apply Kd.R_drew)); exact (Kd.R_mono (Kd.R_far (p := ⟨gb307, 3, none⟩) (Kd.R_far (p := ⟨gb307, 2, none⟩) (Kd.R_far (p := ⟨gb307, 1, none⟩) (Kd.R_far (p := ⟨gb307, 0, none⟩) (Kd.R_types HO302.out BK307.out (by decide)) (fun _ hk => hk.2) (.int .i64 t298)) (fun _ hk => hk.2) (.int .i64 t299)) (fun _ hk => hk.2) (.slice Ao78 t300.length co78)) (fun _ hk => hk.2) (.slice Ao79 t303.length co79)) (fun _ h_ => h_.1))) hb); have n6_ := Aside0.mk (Kd.R_below (by (with_reducible repeat (first | apply Kd.R_alloc | apply Kd.R_drewN | apply Kd.R_drew)); exact (Kd.R_mono (Kd.R_far (p := ⟨gb307, 3, none⟩) (Kd.R_far (p := ⟨gb307, 2, none⟩) (Kd.R_far (p := ⟨gb307, 1, none⟩) (Kd.R_far (p := ⟨gb307, 0, none⟩) (Kd.R_types HO305.out BK307.out (by decide)) (fun _ hk => hk.2) (.int .i64 t298)) (fun _ hk => hk.2) (.int .i64 t299)) (fun _ hk => hk.2) (.slice Ao78 t300.length co78)) (fun _ hk => hk.2) (.slice Ao79 t303.length co79)) (fun _ h_ => h_.1))) hb); have n7_ := Aside0.mk (blk_below (g := gb269) (o := .cells #[.int .i64 t260, .int .i64 t261, .slice Ao13 t262.length co13, .slice Ao14 t265.length co14] 75 (0, 0)) (by (with_reducible repeat (first | refine blk_drewN ?_ _ | refine blk_drew ?_ | refine blk_alloc ?_ _)); refine blk_far ?_ NB269_307.out _; (with_reducible repeat (first | refine blk_drewN ?_ _ | refine blk_drew ?_ | refine blk_alloc ?_ _)); refine blk_far ?_ NB269_307.out _; (with_reducible repeat (first | refine blk_drewN ?_ _ | refine blk_drew ?_ | refine blk_alloc ?_ _)); refine blk_far ?_ NB269_307.out _; (with_reducible repeat (first | refine blk_drewN ?_ _ | refine blk_drew ?_ | refine blk_alloc ?_ _)); refine blk_far ?_ NB269_307.out _; (with_reducible repeat (first | refine blk_drewN ?_ _ | refine blk_drew ?_ | refine blk_alloc ?_ _)); exact BK269.out) hb); have n8_ := Aside0.mk (blk_below (g := gb282) (o := .cells #[.int .i64 t273, .int .i64 t274, .slice Ao21 t275.length co21, .slice Ao22 t278.length co22] 75 (0, 0)) (by (with_reducible repeat (first | refine blk_drewN ?_ _ | refine blk_drew ?_ | refine blk_alloc ?_ _)); refine blk_far ?_ NB282_307.out _; (with_reducible repeat (first | refine blk_drewN ?_ _ | refine blk_drew ?_ | refine blk_alloc ?_ _)); refine blk_far ?_ NB282_307.out _; (with_reducible repeat (first | refine blk_drewN ?_ _ | refine blk_drew ?_ | refine blk_alloc ?_ _)); refine blk_far ?_ NB282_307.out _; (with_reducible repeat (first | refine blk_drewN ?_ _ | refine blk_drew ?_ | refine blk_alloc ?_ _)); refine blk_far ?_ NB282_307.out _; (with_reducible repeat (first | refine blk_drewN ?_ _ | refine blk_drew ?_ | refine blk_alloc ?_ _)); exact BK282.out) hb); have n9_ := Aside0.mk (blk_below (g := gb307) (o := .cells #[.int .i64 t298, .int .i64 t299, .slice Ao78 t300.length co78, .slice Ao79 t303.length co79] 75 (0, 0)) (by (with_reducible repeat (first | refine blk_drewN ?_ _ | refine blk_drew ?_ | refine blk_alloc ?_ _)); refine blk_put (cs := #[.int .i64 t298, .int .i64 t299, .slice Ao78 t300.length co78, .slice none 0 0]) ?_ 3 _ rfl; (with_reducible repeat (first | refine blk_drewN ?_ _ | refine blk_drew ?_ | refine blk_alloc ?_ _)); refine blk_put (cs := #[.int .i64 t298, .int .i64 t299, .slice none 0 0, .slice none 0 0]) ?_ 2 _ rfl; (with_reducible repeat (first | refine blk_drewN ?_ _ | refine blk_drew ?_ | refine blk_alloc ?_ _)); refine blk_put (cs := #[.int .i64 t298, .int .i64 0, .slice none 0 0, .slice none 0 0]) ?_ 1 _ rfl; (with_reducible repeat (first | refine blk_drewN ?_ _ | refine blk_drew ?_ | refine blk_alloc ?_ _)); refine blk_put (cs := #[.int .i64 0, .int .i64 0, .slice none 0 0, .slice none 0 0]) ?_ 0 _ rfl; (with_reducible repeat (first | refine blk_drewN ?_ _ | refine blk_drew ?_ | refine blk_alloc ?_ _)); exact BK307.out) hb); have n10_ := Aside0.mk (below_step (by repeat (first | (with_reducible first | exact HB.out | apply below_alloc | apply pw_below_drewN | apply below_drew1 | refine below_set ?_ GE269.out | refine below_set ?_ GE282.out | refine below_set ?_ GE307.out) | exact HB.out)) hb); clear HO_270002; clear HO_270003; clear HO_283002; clear HO_283003; clear HO297; clear HO302; clear HO305; clear BK269; clear BK282; clear BK307; clear HB; have HO_270002 := n0_; have HO_270003 := n1_; have HO_283002 := n2_; have HO_283003 := n3_; have HO297 := n4_; have HO302 := n5_; have HO305 := n6_; have BK269 := n7_; have BK282 := n8_; have BK307 := n9_; have HB := n10_; clear n0_ n1_ n2_ n3_ n4_ n5_ n6_ n7_ n8_ n9_ n10_; (try clear hb); (try clear hb2); (try clear hk); (try clear hi)))
                          go_meet
                          case rel => exact ⟨_, (true), (by first | rfl | (simp; done) | (simp [*]; done)), H', ⟨by have := HJ6.out; have := HJ37.out; first | omega | exact Nat.le_refl _⟩, ⟨by (with_reducible repeat (first | apply Kd.R_alloc | apply Kd.R_drewN | apply Kd.R_drew)); exact HO_270002.out⟩, ⟨by (with_reducible repeat (first | apply Kd.R_alloc | apply Kd.R_drewN | apply Kd.R_drew)); exact HO_270003.out⟩, ⟨by (with_reducible repeat (first | apply Kd.R_alloc | apply Kd.R_drewN | apply Kd.R_drew)); exact HO_283002.out⟩, ⟨by (with_reducible repeat (first | apply Kd.R_alloc | apply Kd.R_drewN | apply Kd.R_drew)); exact HO_283003.out⟩, ⟨by (with_reducible repeat (first | apply Kd.R_alloc | apply Kd.R_drewN | apply Kd.R_drew)); exact Kd.R_mono HO302.out (fun _ hk => ⟨hk.1.2, hk.2⟩)⟩, ⟨by (with_reducible repeat (first | apply Kd.R_alloc | apply Kd.R_drewN | apply Kd.R_drew)); exact Kd.R_mono HO305.out (fun _ hk => ⟨hk.1.2, hk.2⟩)⟩, ⟨by (with_reducible repeat (first | refine blk_drewN ?_ _ | refine blk_drew ?_ | refine blk_alloc ?_ _)); exact BK269.out⟩, ⟨by (with_reducible repeat (first | refine blk_drewN ?_ _ | refine blk_drew ?_ | refine blk_alloc ?_ _)); exact BK282.out⟩, ⟨by (with_reducible repeat (first | refine blk_drewN ?_ _ | refine blk_drew ?_ | refine blk_alloc ?_ _)); exact BK307.out⟩, ⟨by repeat (first | (with_reducible first | exact HB.out | apply below_alloc | apply pw_below_drewN | apply below_drew1 | refine below_set ?_ GE269.out | refine below_set ?_ GE282.out | refine below_set ?_ GE307.out) | exact HB.out)⟩⟩
                      case rest =>
                        clear HC65
                        try clear c1
                        try clear c2
                        try clear c2b0
                        try clear c2b1
                        try clear p2
                        try clear c3
                        try clear c4
                        try clear c5
                        try clear c6
                        try clear c7
                        try clear c8
                        try clear c9
                        try clear c13
                        try clear c19
                        try clear c21
                        try clear c22
                        try clear c24
                        try clear c25
                        try clear c29
                        try clear c33
                        try clear c34
                        try clear c36
                        try clear c42
                        try clear c42b0
                        try clear c44
                        try clear c45
                        try clear c49
                        try clear c53
                        try clear c56
                        try clear c56b0
                        try clear c57
                        try clear c58
                        try clear c59
                        try clear c60
                        try clear c61
                        try clear c62
                        try clear c62b0
                        try clear c62b1
                        try clear c66
                        try clear c75
                        try clear c76
                        try clear c81
                        try clear c82
                        try clear c83
                        try clear c85
                        try clear c88
                        try clear c89
                        try clear c91
                        try clear hcz12_0
                        try clear hcz12_1
                        try clear hcz12_2
                        try clear hcz12_3
                        try clear hcz20_0
                        try clear hcz20_1
                        try clear hcz20_2
                        try clear hcz20_3
                        try clear hcz26_0
                        try clear hcz26_1
                        try clear hcz26_2
                        try clear hcz26_3
                        try clear hcz27_0
                        try clear hcz27_1
                        try clear hcz27_2
                        try clear hcz27_3
                        try clear hcz30_0
                        try clear hcz30_1
                        try clear hcz30_2
                        try clear hcz30_3
                        try clear hcz31_0
                        try clear hcz31_1
                        try clear hcz31_2
                        try clear hcz31_3
                        try clear hcz46_0
                        try clear hcz46_1
                        try clear hcz46_2
                        try clear hcz46_3
                        try clear hcz47_0
                        try clear hcz47_1
                        try clear hcz47_2
                        try clear hcz47_3
                        try clear hcz50_0
                        try clear hcz50_1
                        try clear hcz50_2
                        try clear hcz50_3
                        try clear hcz51_0
                        try clear hcz51_1
                        try clear hcz51_2
                        try clear hcz51_3
                        try clear hcz58_0
                        try clear hcz58_1
                        try clear hcz58_2
                        try clear hcz58_3
                        try clear hcz60_0
                        try clear hcz60_1
                        try clear hcz60_2
                        try clear hcz60_3
                        try clear hcz67_0
                        try clear hcz67_1
                        try clear hcz67_2
                        try clear hcz67_3
                        try clear hcz69_0
                        try clear hcz69_1
                        try clear hcz69_2
                        try clear hcz69_3
                        try clear hcz77_0
                        try clear hcz77_1
                        try clear hcz77_2
                        try clear hcz77_3
                        try clear hcz84_0
                        try clear hcz84_1
                        try clear hcz84_2
                        try clear hcz84_3
                        try clear hcz86_0
                        try clear hcz86_1
                        try clear hcz86_2
                        try clear hcz86_3
                        try clear hcz90_0
                        try clear hcz90_1
                        try clear hcz90_2
                        try clear hcz90_3
                        try clear hcz92_0
                        try clear hcz92_1
                        try clear hcz92_2
                        try clear hcz92_3
                        try clear hfz12_0
                        try clear hfz12_1
                        try clear hfz12_2
                        try clear hfz12_3
                        try clear hfz20_0
                        try clear hfz20_1
                        try clear hfz20_2
                        try clear hfz20_3
                        try clear hfz26_0
                        try clear hfz26_1
                        try clear hfz26_2
                        try clear hfz26_3
                        try clear hfz27_0
                        try clear hfz27_1
                        try clear hfz27_2
                        try clear hfz27_3
                        try clear hfz30_0
                        try clear hfz30_1
                        try clear hfz30_2
                        try clear hfz30_3
                        try clear hfz31_0
                        try clear hfz31_1
                        try clear hfz31_2
                        try clear hfz31_3
                        try clear hfz46_0
                        try clear hfz46_1
                        try clear hfz46_2
                        try clear hfz46_3
                        try clear hfz47_0
                        try clear hfz47_1
                        try clear hfz47_2
                        try clear hfz47_3
                        try clear hfz50_0
                        try clear hfz50_1
                        try clear hfz50_2
                        try clear hfz50_3
                        try clear hfz51_0
                        try clear hfz51_1
                        try clear hfz51_2
                        try clear hfz51_3
                        try clear hfz58_0
                        try clear hfz58_1
                        try clear hfz58_2
                        try clear hfz58_3
                        try clear hfz60_0
                        try clear hfz60_1
                        try clear hfz60_2
                        try clear hfz60_3
                        try clear hfz67_0
                        try clear hfz67_1
                        try clear hfz67_2
                        try clear hfz67_3
                        try clear hfz69_0
                        try clear hfz69_1
                        try clear hfz69_2
                        try clear hfz69_3
                        try clear hfz77_0
                        try clear hfz77_1
                        try clear hfz77_2
                        try clear hfz77_3
                        try clear hfz84_0
                        try clear hfz84_1
                        try clear hfz84_2
                        try clear hfz84_3
                        try clear hfz86_0
                        try clear hfz86_1
                        try clear hfz86_2
                        try clear hfz86_3
                        try clear hfz90_0
                        try clear hfz90_1
                        try clear hfz90_2
                        try clear hfz90_3
                        try clear hfz92_0
                        try clear hfz92_1
                        try clear hfz92_2
                        try clear hfz92_3
                        try clear p2
                        obtain ⟨kq, x84_64, rfl, HA, HJ64, HO_270002, HO_270003, HO_283002, HO_283003, HO_308002, HO_308003, BK269, BK282, BK307, HB⟩ := hcut
                        have hl283002_64 := (Kd.R_reads' HO_283002.out).1
                        rw [hl283002_64] at HO_283002
                        (try simp only [hl283002_64])
                        (try simp only [hl283002_64] at BK269)
                        (try simp only [hl283002_64] at BK282)
                        (try simp only [hl283002_64] at BK307)
                        (try simp only [hl283002_64] at HO_270002)
                        (try simp only [hl283002_64] at HO_270003)
                        (try simp only [hl283002_64] at HO_283003)
                        (try simp only [hl283002_64] at HO_308002)
                        (try simp only [hl283002_64] at HO_308003)
                        have hl283003_64 := (Kd.R_reads' HO_283003.out).1
                        rw [hl283003_64] at HO_283003
                        (try simp only [hl283003_64])
                        (try simp only [hl283003_64] at BK269)
                        (try simp only [hl283003_64] at BK282)
                        (try simp only [hl283003_64] at BK307)
                        (try simp only [hl283003_64] at HO_270002)
                        (try simp only [hl283003_64] at HO_270003)
                        (try simp only [hl283003_64] at HO_283002)
                        (try simp only [hl283003_64] at HO_308002)
                        (try simp only [hl283003_64] at HO_308003)
                        cases kq with
                        | zero => exact absurd HA.out (by simp [laws_FnExactGetSig.j2])
                        | succ kj64 =>
                          have H := HA.out
                          clear HA
                          simp only [laws_FnExactGetSig.j2] at H
                          by_cases c94 : x84_64 = true
                          · subst c94
                            have H1 : (some false) = some r := by rw [if_pos rfl] at H; exact H
                            clear H
                            have H := H1
                            clear H1
                            exact absurd (hrt.symm.trans (Option.some.inj H).symm) (by decide)
                          · replace c94 := Bool.eq_false_iff.mpr c94
                            subst c94
                            have H1 : ((laws_heldSig.f kj64 t273 t274 t292 t293 1).bind fun t309 => (if t309 < 0 then (some false) else (if t309 = t291 then (some true) else (some false)))) = some r := by rw [if_neg (show ¬ (false = true) by decide)] at H; exact H
                            clear H
                            have H := H1
                            clear H1
                            replace H := Option.bind_eq_some_iff.mp H
                            obtain ⟨t309, A950, H⟩ := H
                            replace H : (if t309 < 0 then (some false) else (if t309 = t291 then (some true) else (some false))) = some r := H
                            have A95 := Aside0.mk A950
                            clear A950
                            by_cases c96 : t309 < 0
                            · rw [if_pos c96] at H
                              have c96b0 : decide (t309 < 0) = true := decide_eq_true c96
                              clear c96
                              exact absurd (hrt.symm.trans (Option.some.inj H).symm) (by decide)
                            · rw [if_neg c96] at H
                              have c96b0 : decide (t309 < 0) = false := decide_eq_false c96
                              clear c96
                              by_cases c101 : t309 = t291
                              · rw [if_pos c101] at H
                                have c101b0 : (t309 == t291) = true := beq_iff_eq.mpr c101
                                have c101b1 : (t309 != t291) = false := bne_eq_false_iff_eq.mpr c101
                                clear c101
                                obtain rfl := Option.some.inj H
                                have hnb102 := NB282_269.out
                                have hnc102 := NB269_282.out
                                have hnb103 := NB282_307.out
                                have hnc103 := NB307_282.out
                                have hcz104_0 : wc.cell? ⟨gb282, 0, none⟩ = some (.int .i64 t273) := (blk_cell BK282.out 0).trans rfl
                                have hcz104_1 : wc.cell? ⟨gb282, 1, none⟩ = some (.int .i64 t274) := (blk_cell BK282.out 1).trans rfl
                                have hcz104_2 : wc.cell? ⟨gb282, 2, none⟩ = some (.slice Ao21 t292.length co21) := (blk_cell BK282.out 2).trans rfl
                                have hcz104_3 : wc.cell? ⟨gb282, 3, none⟩ = some (.slice Ao22 t293.length co22) := (blk_cell BK282.out 3).trans rfl
                                have hfz104_0 := blk_frozen BK282.out 0
                                have hfz104_1 := blk_frozen BK282.out 1
                                have hfz104_2 := blk_frozen BK282.out 2
                                have hfz104_3 := blk_frozen BK282.out 3
                                go_wp2_with (first | ((with_reducible refine gate_callee (f := 62) rfl ?_); refine goesL_ (some 87) rfl rfl Try.func62 (by kernel_rfl) rfl #[.agg #[.int .i64 t273, .int .i64 t274, .slice Ao21 t292.length co21, .slice Ao22 t293.length co22], .int .i64 1] rfl (by (try simp only [List.map_toArray, List.map_cons, List.map_nil]); first | done | rfl | (simp only [List.length_drop, List.length_take]; rfl)) ?_; (with_reducible refine (laws_heldSig.calls kj64 t273 t274 _ _ t292 _ _ t293 1 t309 _ ?side1 ?side2 ?side3 ?side4 A95.out).mono ?_); (case side1 => repeat (first | exact (Kd.R_reads' HO_283002.out).2.2 | (with_reducible refine Kd.C_alloc ?_ _) | (with_reducible refine Kd.C_drewN ?_ _) | (with_reducible refine Kd.C_drew ?_))); (case side2 => exact (Kd.R_reads' HO_283002.out).2.1); (case side3 => repeat (first | exact (Kd.R_reads' HO_283003.out).2.2 | (with_reducible refine Kd.C_alloc ?_ _) | (with_reducible refine Kd.C_drewN ?_ _) | (with_reducible refine Kd.C_drew ?_))); (case side4 => exact (Kd.R_reads' HO_283003.out).2.1); rintro e w105 ⟨rfl, hb⟩; refine ⟨_, rfl, ?_⟩; have n0_ := Aside0.mk (Kd.R_below (by (with_reducible repeat (first | apply Kd.R_alloc | apply Kd.R_drewN | apply Kd.R_drew)); exact HO_270002.out) hb); have n1_ := Aside0.mk (Kd.R_below (by (with_reducible repeat (first | apply Kd.R_alloc | apply Kd.R_drewN | apply Kd.R_drew)); exact HO_270003.out) hb); have n2_ := Aside0.mk (Kd.R_below (by (with_reducible repeat (first | apply Kd.R_alloc | apply Kd.R_drewN | apply Kd.R_drew)); exact HO_283002.out) hb); have n3_ := Aside0.mk (Kd.R_below (by (with_reducible repeat (first | apply Kd.R_alloc | apply Kd.R_drewN | apply Kd.R_drew)); exact HO_283003.out) hb); have n4_ := Aside0.mk (Kd.R_below (by (with_reducible repeat (first | apply Kd.R_alloc | apply Kd.R_drewN | apply Kd.R_drew)); exact HO_308002.out) hb); have n5_ := Aside0.mk (Kd.R_below (by (with_reducible repeat (first | apply Kd.R_alloc | apply Kd.R_drewN | apply Kd.R_drew)); exact HO_308003.out) hb); have n6_ := Aside0.mk (blk_below (g := gb269) (o := .cells #[.int .i64 t260, .int .i64 t261, .slice Ao13 t262.length co13, .slice Ao14 t265.length co14] 75 (0, 0)) (by (with_reducible repeat (first | refine blk_drewN ?_ _ | refine blk_drew ?_ | refine blk_alloc ?_ _)); exact BK269.out) hb); have n7_ := Aside0.mk (blk_below (g := gb282) (o := .cells #[.int .i64 t273, .int .i64 t274, .slice Ao21 t292.length co21, .slice Ao22 t293.length co22] 75 (0, 0)) (by (with_reducible repeat (first | refine blk_drewN ?_ _ | refine blk_drew ?_ | refine blk_alloc ?_ _)); exact BK282.out) hb); have n8_ := Aside0.mk (blk_below (g := gb307) (o := .cells #[.int .i64 t298, .int .i64 t299, .slice Ao78 t300.length co78, .slice Ao79 t303.length co79] 75 (0, 0)) (by (with_reducible repeat (first | refine blk_drewN ?_ _ | refine blk_drew ?_ | refine blk_alloc ?_ _)); exact BK307.out) hb); have n9_ := Aside0.mk (below_step (by repeat (first | (with_reducible first | exact HB.out | apply below_alloc | apply pw_below_drewN | apply below_drew1 | refine below_set ?_ GE269.out | refine below_set ?_ GE282.out | refine below_set ?_ GE307.out) | exact HB.out)) hb); clear HO_270002; clear HO_270003; clear HO_283002; clear HO_283003; clear HO_308002; clear HO_308003; clear BK269; clear BK282; clear BK307; clear HB; have HO_270002 := n0_; have HO_270003 := n1_; have HO_283002 := n2_; have HO_283003 := n3_; have HO_308002 := n4_; have HO_308003 := n5_; have BK269 := n6_; have BK282 := n7_; have BK307 := n8_; have HB := n9_; clear n0_ n1_ n2_ n3_ n4_ n5_ n6_ n7_ n8_ n9_; (try clear hb); (try clear hb2); (try clear hk); (try clear hi)))
                                go_ret
                                exact ⟨by first | rfl | (simp [errW_none, errW_some] <;> rfl) | (simp [*, errW_none, errW_some] <;> rfl), by repeat (first | (with_reducible first | exact HB.out | apply below_alloc | apply pw_below_drewN | apply below_drew1 | refine below_set ?_ GE269.out | refine below_set ?_ GE282.out | refine below_set ?_ GE307.out) | exact HB.out)⟩
                              · rw [if_neg c101] at H
                                have c101b0 : (t309 == t291) = false := beq_eq_false_iff_ne.mpr c101
                                have c101b1 : (t309 != t291) = true := bne_iff_ne.mpr c101
                                exact absurd (hrt.symm.trans (Option.some.inj H).symm) (by decide)
                    · rw [if_neg c62] at H
                      have c62b0 : (t294 == t291) = false := beq_eq_false_iff_ne.mpr c62
                      have c62b1 : (t294 != t291) = true := bne_iff_ne.mpr c62
                      exact absurd (hrt.symm.trans (Option.some.inj H).symm) (by decide)
          · replace c36 := Bool.eq_false_iff.mpr c36
            subst c36
            have H1 : (some false) = some r := by rw [if_neg (show ¬ (false = true) by decide)] at H; exact H
            clear H
            have H := H1
            clear H1
            exact absurd (hrt.symm.trans (Option.some.inj H).symm) (by decide)

/-- THE ONE PURE STATEMENT of laws_FnExactGetSig: yours. -/
def laws_FnExactGetSig.Pure : Prop := ∀ (l0 : List Int), l0.length ≤ maxLen → l0.length * 1 ≤ 140737488351232 → (∀ x ∈ l0, (Lit.int .u8 x).wf = true) → ∃ k, laws_FnExactGetSig.f k l0 = some true
theorem laws_FnExactGetSig.walk (P : laws_FnExactGetSig.Pure) (a0 : Option Addr) (len0 cap0 : Nat) (z0 : List Int) (w : World) (w0 : (a0 = none ∧ len0 = 0 ∧ cap0 = 0 ∧ z0 = []) ∨ ∃ x, a0 = some x ∧ len0 ≤ cap0 ∧ cap0 ≤ maxLen ∧ z0.length = cap0 ∧ (∀ i, i < z0.length → w.cell? (x.add i) = some (.int .u8 (z0.getD i 0))) ∧ ∀ n ∈ z0, (Lit.int .u8 n).wf = true) (y0 : len0 * 1 ≤ 140737488351232) :
    Calls Try.prog 13 #[.slice a0 len0 cap0] w fun e w' => e = .returned (.bool true) ∧ Below w.heap.size w w' := by
  obtain ⟨l0, rfl, hr0, hm0, hw0, hc0⟩ := ReadsInt.ofRowC w0
  obtain ⟨k, h⟩ := P l0 hm0 y0 hw0
  refine (laws_FnExactGetSig.calls k _ _ l0 true rfl w (Kd.C_of_reads (d := (0 : Int)) (h1 := fun _ => rfl) hr0) hc0 h).mono ?_
  rintro e w' ⟨rfl, hd⟩
  exact ⟨rfl, hd⟩

end Go.Proofs.Ytbiaakkmmkddfaa.PFnExactGetSig
