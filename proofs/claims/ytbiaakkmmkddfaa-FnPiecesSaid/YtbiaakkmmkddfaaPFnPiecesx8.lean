-- PRINTED by print.py (a twelfth state) out of the translation. Not trusted: Lean checks it.
import Derived.Test.YtbiaakkmmkddfaaPFnPiecesx0
import Derived.Test.YtbiaakkmmkddfaaPFnPiecesx2
import Derived.Test.YtbiaakkmmkddfaaPFnPiecesx3
import Derived.Test.YtbiaakkmmkddfaaPFnPiecesx4
import Derived.Test.YtbiaakkmmkddfaaPFnPiecesx7
namespace Go.Proofs.Ytbiaakkmmkddfaa.PFnPieces
open Go.RowKit Go.Proofs.YtbiaakkmmkddfaaW.PrintWords Go.Proofs.YtbiaakkmmkddfaaW.PrintLast Go.Proofs.YtbiaakkmmkddfaaW.PrintMore
attribute [local go_sem] max2_int min2_int max_two min_two max_three min_three max_four min_four   -- for this text's walks alone
set_option linter.unusedVariables false
set_option linter.unusedSimpArgs false
open Go.Proofs.YtbiaakkmmkddfaaW

/-! ### laws_FnPieces: function 11 -/
def laws_FnPieces.l0 : Nat → List Int → List ByteArray → ByteArray → Int → ByteArray → List (S26) → Bool → Option (Bool)
  | 0, _, _, _, _, _, _, _ => none
  | k + 1, x3, x5, x6, x8, x400000, x400001, x400002 => if x8 < (x5.length : Int) then (if 0 ≤ x8 then (if x6.size + (rdOf ByteArray.empty x5 x8).size ≤ 9223372036854775807 then (if (rdOf ByteArray.empty x5 x8).size ≤ 9223372036854775807 then ((impl_ReaderPush.f k x400000 x400001 x400002 (bytesOf (rdOf ByteArray.empty x5 x8))).bind fun bt405 => (laws_FnPieces.l0 k x3 x5 (x6 ++ (rdOf ByteArray.empty x5 x8)) (wrap64 (x8 + 1)) bt405.1 bt405.2.1 bt405.2.2)) else (none)) else (none)) else (none)) else ((impl_ReaderPush.f k (⟨#[]⟩ : ByteArray) ([] : List (S26)) false x3).bind fun bt410 => ((spec_ReaderPush.f k (⟨#[]⟩ : ByteArray) ([] : List (S26)) false x3).bind fun bt416 => (if x6.toList = (strOfNums x3).toList then (if (bt410.2.1.length : Int) = (bt416.2.1.length : Int) then (if (bt410.2.2 != bt416.2.2) = true then (some false) else (if (x400002 == bt410.2.2) = true then (if x400000.toList = bt410.1.toList then ((laws_sameFrames.f k x400001 bt410.2.1).bind fun t422 => (some t422)) else (some false)) else (some false))) else (some false)) else (some false))))
def laws_FnPieces.f (k : Nat) (l0 : List Int) : Option (Bool) := (laws_big.f l0).bind fun t389 => (if t389 = true then (some true) else ((spec_DrawSplit.f k l0).bind fun bt390 => ((impl_Split.f k bt390.1 bt390.2).bind fun t396 => (laws_FnPieces.l0 k bt390.1 t396 (⟨#[]⟩ : ByteArray) 0 (⟨#[]⟩ : ByteArray) ([] : List (S26)) false))))
theorem laws_FnPieces.mono_l : ∀ k, (∀ y0 y1 y2 y3 y4 y5 y6, LeO (laws_FnPieces.l0 k y0 y1 y2 y3 y4 y5 y6) (laws_FnPieces.l0 (k + 1) y0 y1 y2 y3 y4 y5 y6))
  | 0 => fun _ _ _ _ _ _ _ r h => by simp [laws_FnPieces.l0] at h
  | k + 1 => by
    have ih0 := laws_FnPieces.mono_l k
    · intro y0 y1 y2 y3 y4 y5 y6
      unfold laws_FnPieces.l0
      repeat' first
      | (with_reducible exact ih0 _ _ _ _ _ _ _)
      | (with_reducible exact impl_ReaderPush.mono _ _ _ _ _)
      | (with_reducible exact impl_Split.mono _ _ _)
      | (with_reducible exact laws_sameFrames.mono _ _ _)
      | (with_reducible exact spec_DrawSplit.mono _ _)
      | (with_reducible exact spec_ReaderPush.mono _ _ _ _ _)
      | (with_reducible exact LeO.refl _)
      | (with_reducible exact LeO.none _)
      | (with_reducible refine LeO.ite ?_ ?_)
      | (with_reducible refine LeO.bind ?_ (fun _ => ?_))
      | exact ih0 _ _ _ _ _ _ _
      | exact impl_ReaderPush.mono _ _ _ _ _
      | exact impl_Split.mono _ _ _
      | exact laws_sameFrames.mono _ _ _
      | exact spec_DrawSplit.mono _ _
      | exact spec_ReaderPush.mono _ _ _ _ _
      | exact LeO.none _
      | refine LeO.ite ?_ ?_
      | refine LeO.bind ?_ (fun _ => ?_)
theorem laws_FnPieces.mono : ∀ a0 k, LeO (laws_FnPieces.f k a0) (laws_FnPieces.f (k + 1) a0) := by
  intro a0 k
  have ih0 := laws_FnPieces.mono_l k
  unfold laws_FnPieces.f
  repeat' first
      | (with_reducible exact ih0 _ _ _ _ _ _ _)
      | (with_reducible exact impl_ReaderPush.mono _ _ _ _ _)
      | (with_reducible exact impl_Split.mono _ _ _)
      | (with_reducible exact laws_sameFrames.mono _ _ _)
      | (with_reducible exact spec_DrawSplit.mono _ _)
      | (with_reducible exact spec_ReaderPush.mono _ _ _ _ _)
      | (with_reducible exact LeO.refl _)
      | (with_reducible exact LeO.none _)
      | (with_reducible refine LeO.ite ?_ ?_)
      | (with_reducible refine LeO.bind ?_ (fun _ => ?_))
      | exact ih0 _ _ _ _ _ _ _
      | exact impl_ReaderPush.mono _ _ _ _ _
      | exact impl_Split.mono _ _ _
      | exact laws_sameFrames.mono _ _ _
      | exact spec_DrawSplit.mono _ _
      | exact spec_ReaderPush.mono _ _ _ _ _
      | exact LeO.none _
      | refine LeO.ite ?_ ?_
      | refine LeO.bind ?_ (fun _ => ?_)
def laws_FnPieces.T11 : Bool × List (List Nat × List Nat) := (true, [([], []), ([], []), ([], []), ([1, 2], [1, 2]), ([3], [3]), ([4], [4]), ([0, 5], [0, 5]), ([6, 6, 0, 1, 2, 3, 4, 5, 6], [6])])
def laws_FnPieces.B11 : List Nat := [0, 0, 0, 6, 14, 30, 63, 127]
theorem laws_FnPieces.tab11 : rtab .any (opsOf Try.f11 11) = laws_FnPieces.T11 := by kernel_rfl
theorem laws_FnPieces.bits11 : waitsOk laws_FnPieces.T11.2 laws_FnPieces.B11 = true := by kernel_rfl
set_option maxHeartbeats 8000000 in
set_option maxRecDepth 100000 in
theorem laws_FnPieces.calls (k : Nat) (A0 : Option Addr) (c0 : Nat) (l0 : List Int) (r : Bool) (hrt : r = true) (w : World) (hr0 : Kd.C (Kd.int .u8) w A0 l0.length l0) (hc0 : l0.length ≤ c0) (h : laws_FnPieces.f k l0 = some r) :
    Calls Try.prog 11 #[.slice A0 l0.length c0] w fun e w' => e = .returned (.bool r) ∧ Below w.heap.size w w' := by
  have hu62 := Try.underlying62
  have HR0 := Aside0.mk hr0
  have HC0 := Aside0.mk hc0
  clear hr0 hc0
  have HB := Aside0.mk (Below.refl w.heap.size w)
  have H : ((laws_big.f l0).bind fun t389 => (if t389 = true then (some true) else ((spec_DrawSplit.f k l0).bind fun bt390 => ((impl_Split.f k bt390.1 bt390.2).bind fun t396 => (laws_FnPieces.l0 k bt390.1 t396 (⟨#[]⟩ : ByteArray) 0 (⟨#[]⟩ : ByteArray) ([] : List (S26)) false))))) = some r := h
  clear h
  replace H := Option.bind_eq_some_iff.mp H
  obtain ⟨t389, A20, H⟩ := H
  replace H : (if t389 = true then (some true) else ((spec_DrawSplit.f k l0).bind fun bt390 => ((impl_Split.f k bt390.1 bt390.2).bind fun t396 => (laws_FnPieces.l0 k bt390.1 t396 (⟨#[]⟩ : ByteArray) 0 (⟨#[]⟩ : ByteArray) ([] : List (S26)) false)))) = some r := H
  have A2 := Aside0.mk A20
  clear A20
  by_cases c3 : t389 = true
  · subst c3
    have H1 : (some true) = some r := by rw [if_pos rfl] at H; exact H
    clear H
    have H := H1
    clear H1
    obtain rfl := Option.some.inj H
    go_enter Try.func11, Try.ntmps11
    go_wp2_with (first | ((with_reducible refine gate_callee (f := 53) rfl ?_); refine goesL_ (some 12) rfl rfl Try.func53 (by kernel_rfl) rfl #[.slice A0 l0.length c0] rfl (by (try simp only [List.map_toArray, List.map_cons, List.map_nil]); first | done | rfl | (simp only [List.length_drop, List.length_take]; rfl)) ?_; (with_reducible refine (laws_big.calls _ _ l0 true _ ?side1 ?side2 A2.out).mono ?_); (case side1 => repeat (first | exact HR0.out | (with_reducible refine Kd.C_alloc ?_ _) | (with_reducible refine Kd.C_drewN ?_ _) | (with_reducible refine Kd.C_drew ?_))); (case side2 => exact HC0.out); rintro e w' ⟨rfl, ⟨nd, rfl⟩⟩; refine ⟨_, rfl, ?_⟩))
    go_ret
    exact ⟨by first | rfl | (simp [errW_none, errW_some] <;> rfl) | (simp [*, errW_none, errW_some] <;> rfl), by repeat (first | (with_reducible first | exact HB.out | apply below_alloc | apply pw_below_drewN | apply below_drew1) | exact HB.out)⟩
  · replace c3 := Bool.eq_false_iff.mpr c3
    subst c3
    have H1 : ((spec_DrawSplit.f k l0).bind fun bt390 => ((impl_Split.f k bt390.1 bt390.2).bind fun t396 => (laws_FnPieces.l0 k bt390.1 t396 (⟨#[]⟩ : ByteArray) 0 (⟨#[]⟩ : ByteArray) ([] : List (S26)) false))) = some r := by rw [if_neg (show ¬ (false = true) by decide)] at H; exact H
    clear H
    have H := H1
    clear H1
    replace H := Option.bind_eq_some_iff.mp H
    obtain ⟨⟨t390, t391⟩, A40, H⟩ := H
    replace H : ((impl_Split.f k t390 t391).bind fun t396 => (laws_FnPieces.l0 k t390 t396 (⟨#[]⟩ : ByteArray) 0 (⟨#[]⟩ : ByteArray) ([] : List (S26)) false)) = some r := H
    have A4 := Aside0.mk A40
    clear A40
    replace H := Option.bind_eq_some_iff.mp H
    obtain ⟨t396, A50, H⟩ := H
    replace H : (laws_FnPieces.l0 k t390 t396 (⟨#[]⟩ : ByteArray) 0 (⟨#[]⟩ : ByteArray) ([] : List (S26)) false) = some r := H
    have A5 := Aside0.mk A50
    clear A50
    have H' := Aside0.mk H
    clear H
    go_enter Try.func11, Try.ntmps11
    go_wp2_with (first | ((with_reducible refine gate_callee (f := 53) rfl ?_); refine goesL_ (some 12) rfl rfl Try.func53 (by kernel_rfl) rfl #[.slice A0 l0.length c0] rfl (by (try simp only [List.map_toArray, List.map_cons, List.map_nil]); first | done | rfl | (simp only [List.length_drop, List.length_take]; rfl)) ?_; (with_reducible refine (laws_big.calls _ _ l0 false _ ?side1 ?side2 A2.out).mono ?_); (case side1 => repeat (first | exact HR0.out | (with_reducible refine Kd.C_alloc ?_ _) | (with_reducible refine Kd.C_drewN ?_ _) | (with_reducible refine Kd.C_drew ?_))); (case side2 => exact HC0.out); rintro e w' ⟨rfl, ⟨nd, rfl⟩⟩; refine ⟨_, rfl, ?_⟩) | ((with_reducible refine gate_callee (f := 54) rfl ?_); refine goesL_ (some 15) rfl rfl Try.func54 (by kernel_rfl) rfl #[.slice A0 l0.length c0] rfl (by (try simp only [List.map_toArray, List.map_cons, List.map_nil]); first | done | rfl | (simp only [List.length_drop, List.length_take]; rfl)) ?_; (with_reducible refine (spec_DrawSplit.calls k _ _ l0 t390 t391 _ ?side1 ?side2 A4.out).mono ?_); (case side1 => repeat (first | exact HR0.out | (with_reducible refine Kd.C_alloc ?_ _) | (with_reducible refine Kd.C_drewN ?_ _) | (with_reducible refine Kd.C_drew ?_))); (case side2 => exact HC0.out); rintro e w6 ⟨v392, v394, rfl, ho0, ho1, hb⟩; refine ⟨_, rfl, ?_⟩; have n0_ := Aside0.mk (Kd.R_lower ho0 (below_size (by repeat (first | (with_reducible first | exact HB.out | apply below_alloc | apply pw_below_drewN | apply below_drew1) | exact HB.out)))); have n1_ := Aside0.mk (Kd.R_lower ho1 (below_size (by repeat (first | (with_reducible first | exact HB.out | apply below_alloc | apply pw_below_drewN | apply below_drew1) | exact HB.out)))); have n2_ := Aside0.mk (below_step (by repeat (first | (with_reducible first | exact HB.out | apply below_alloc | apply pw_below_drewN | apply below_drew1) | exact HB.out)) hb); clear HB; have HO393 := n0_; have HO395 := n1_; have HB := n2_; clear n0_ n1_ n2_; (try clear hb); (try clear hb2); (try clear hk); (try clear hi); (try clear ho0); (try clear ho1); obtain ⟨Ao7, co7, eo7⟩ := Kd.R_slice HO393.out; subst eo7; obtain ⟨Ao8, co8, eo8⟩ := Kd.R_slice HO395.out; subst eo8) | ((with_reducible refine gate_callee (f := 36) rfl ?_); refine goesL_ (some 20) rfl rfl Try.func36 (by kernel_rfl) rfl #[.slice Ao7 t390.length co7, .slice Ao8 t391.length co8] rfl (by (try simp only [List.map_toArray, List.map_cons, List.map_nil]); first | done | rfl | (simp only [List.length_drop, List.length_take]; rfl)) ?_; (with_reducible refine (impl_Split.calls k _ _ t390 _ _ t391 t396 _ ?side1 ?side2 ?side3 ?side4 A5.out).mono ?_); (case side1 => repeat (first | exact (Kd.R_reads' HO393.out).2.2 | (with_reducible refine Kd.C_alloc ?_ _) | (with_reducible refine Kd.C_drewN ?_ _) | (with_reducible refine Kd.C_drew ?_))); (case side2 => exact (Kd.R_reads' HO393.out).2.1); (case side3 => repeat (first | exact (Kd.R_reads' HO395.out).2.2 | (with_reducible refine Kd.C_alloc ?_ _) | (with_reducible refine Kd.C_drewN ?_ _) | (with_reducible refine Kd.C_drew ?_))); (case side4 => exact (Kd.R_reads' HO395.out).2.1); rintro e w9 ⟨v397, rfl, ho0, hb⟩; refine ⟨_, rfl, ?_⟩; have n0_ := Aside0.mk (Kd.R_below (by (with_reducible repeat (first | apply Kd.R_alloc | apply Kd.R_drewN | apply Kd.R_drew)); exact HO393.out) hb); have n1_ := Aside0.mk (Kd.R_below (by (with_reducible repeat (first | apply Kd.R_alloc | apply Kd.R_drewN | apply Kd.R_drew)); exact HO395.out) hb); have n2_ := Aside0.mk (Kd.R_lower ho0 (below_size (by repeat (first | (with_reducible first | exact HB.out | apply below_alloc | apply pw_below_drewN | apply below_drew1) | exact HB.out)))); have n3_ := Aside0.mk (below_step (by repeat (first | (with_reducible first | exact HB.out | apply below_alloc | apply pw_below_drewN | apply below_drew1) | exact HB.out)) hb); clear HO393; clear HO395; clear HB; have HO393 := n0_; have HO395 := n1_; have HO398 := n2_; have HB := n3_; clear n0_ n1_ n2_ n3_; (try clear hb); (try clear hb2); (try clear hk); (try clear hi); (try clear ho0)) | ((with_reducible refine gate_dst (N := 7) rfl ?_); (try (refine gate_guard (by rfl) ?_; dsimp only)); refine box_event ?hg (N := 7) ?hd (cs := #[.string (⟨#[]⟩ : ByteArray), .slice none 0 0, .bool false]) (t := 62) ?hr ?_; (case hd => rfl); (case hg => rfl); (case hr => first | (go_simp; done) | (go_simp; rfl)); intro gb399 hg w10 hbox hb; have n0_ := Aside0.mk (Kd.R_below (by (with_reducible repeat (first | apply Kd.R_alloc | apply Kd.R_drewN | apply Kd.R_drew)); exact HO393.out) hb); have n1_ := Aside0.mk (Kd.R_below (by (with_reducible repeat (first | apply Kd.R_alloc | apply Kd.R_drewN | apply Kd.R_drew)); exact HO395.out) hb); have n2_ := Aside0.mk (Kd.R_below (by (with_reducible repeat (first | apply Kd.R_alloc | apply Kd.R_drewN | apply Kd.R_drew)); exact HO398.out) hb); have n3_ := Aside0.mk (below_step (by repeat (first | (with_reducible first | exact HB.out | apply below_alloc | apply pw_below_drewN | apply below_drew1) | exact HB.out)) hb); have n4_ := Aside0.mk (hbox); have n5_ := Aside0.mk ((by rw [hg]; exact (below_size (by repeat (first | (with_reducible first | exact HB.out | apply below_alloc | apply pw_below_drewN | apply below_drew1) | exact HB.out))) : w.heap.size ≤ gb399)); have n6_ := Aside0.mk ((by rw [hg]; exact (below_size (by repeat (first | (with_reducible first | exact HB.out | apply below_alloc | apply pw_below_drewN | apply below_drew1) | exact HB.out))) : w.heap.size ≤ gb399)); clear HO393; clear HO395; clear HO398; clear HB; have HO393 := n0_; have HO395 := n1_; have HO398 := n2_; have HB := n3_; have BK399 := n4_; have GW399 := n5_; have GE399 := n6_; clear n0_ n1_ n2_ n3_ n4_ n5_ n6_; clear hb hbox hg; have hcz11_0 : w10.cell? ⟨gb399, 0, none⟩ = some (.string (⟨#[]⟩ : ByteArray)) := (blk_cell BK399.out 0).trans rfl; have hcz11_1 : w10.cell? ⟨gb399, 1, none⟩ = some (.slice none 0 0) := (blk_cell BK399.out 1).trans rfl; have hcz11_2 : w10.cell? ⟨gb399, 2, none⟩ = some (.bool false) := (blk_cell BK399.out 2).trans rfl; have hfz11_0 := blk_frozen BK399.out 0; have hfz11_1 := blk_frozen BK399.out 1; have hfz11_2 := blk_frozen BK399.out 2))
    go_loopg [6, 8] k (fun kq v6 v8 w' => ∃ (x6_1 : ByteArray) (x8_1 : Int) (x400000_1 : ByteArray) (x400001_1 : List (S26)) (x400002_1 : Bool) (u400001 : Value), v6 = .string x6_1 ∧ v8 = .int .i64 x8_1 ∧ Aside0 (laws_FnPieces.l0 kq t390 t396 x6_1 x8_1 x400000_1 x400001_1 x400002_1 = some r) ∧ Aside0 (kq ≤ k) ∧ Aside0 (Kd.R (Kd.int .u8) 5 w' w.heap.size (fun _ => True) (.slice Ao7 t390.length co7) t390) ∧ Aside0 (Kd.R Kd.string 9 w' w.heap.size (fun _ => True) v397 t396) ∧ Aside0 (Kd.R k26 26 w' w.heap.size (fun _ => True) u400001 x400001_1) ∧ Aside0 (w'.heap[gb399]? = some (.cells #[.string x400000_1, u400001, .bool x400002_1] 62 (0, 0))) ∧ Aside0 (Below w.heap.size w w'))
    case atStart => exact ⟨((⟨#[]⟩ : ByteArray)), (0), ((⟨#[]⟩ : ByteArray)), (([] : List (S26))), (false), (.slice none 0 0), (by first | rfl | (simp; done) | (simp [*]; done)), (by first | rfl | (simp; done) | (simp [*]; done)), H', ⟨Nat.le_refl _⟩, ⟨by (with_reducible repeat (first | apply Kd.R_alloc | apply Kd.R_drewN | apply Kd.R_drew)); exact Kd.R_mono (Kd.R_far (p := ⟨gb399, 2, none⟩) (Kd.R_far (p := ⟨gb399, 1, none⟩) (Kd.R_far (p := ⟨gb399, 0, none⟩) (Kd.R_types HO393.out BK399.out (by decide)) (fun _ hk => hk.2) (.string (⟨#[]⟩ : ByteArray))) (fun _ hk => hk.2) (.slice none 0 0)) (fun _ hk => hk.2) (.bool false)) (fun _ hk => trivial)⟩, ⟨by (with_reducible repeat (first | apply Kd.R_alloc | apply Kd.R_drewN | apply Kd.R_drew)); exact Kd.R_mono (Kd.R_far (p := ⟨gb399, 2, none⟩) (Kd.R_far (p := ⟨gb399, 1, none⟩) (Kd.R_far (p := ⟨gb399, 0, none⟩) (Kd.R_types HO398.out BK399.out (by decide)) (fun _ hk => hk.2) (.string (⟨#[]⟩ : ByteArray))) (fun _ hk => hk.2) (.slice none 0 0)) (fun _ hk => hk.2) (.bool false)) (fun _ hk => trivial)⟩, ⟨by first | exact Kd.R_nil _ _ _ _ _ | exact Kd.N_nil _ _ _ _ _ | exact Kd.V_nil _ _ _ _ _ | exact Kd.Q_nil _ _ _ _ _ | exact Kd.S_nil _ _ _ _ _⟩, ⟨by (with_reducible repeat (first | refine blk_drewN ?_ _ | refine blk_drew ?_ | refine blk_alloc ?_ _)); refine blk_put (cs := #[.string (⟨#[]⟩ : ByteArray), .slice none 0 0, .bool false]) ?_ 2 _ rfl; (with_reducible repeat (first | refine blk_drewN ?_ _ | refine blk_drew ?_ | refine blk_alloc ?_ _)); refine blk_put (cs := #[.string (⟨#[]⟩ : ByteArray), .slice none 0 0, .bool false]) ?_ 1 _ rfl; (with_reducible repeat (first | refine blk_drewN ?_ _ | refine blk_drew ?_ | refine blk_alloc ?_ _)); refine blk_put (cs := #[.string (⟨#[]⟩ : ByteArray), .slice none 0 0, .bool false]) ?_ 0 _ rfl; (with_reducible repeat (first | refine blk_drewN ?_ _ | refine blk_drew ?_ | refine blk_alloc ?_ _)); exact BK399.out⟩, ⟨by repeat (first | (with_reducible first | exact HB.out | apply below_alloc | apply pw_below_drewN | apply below_drew1 | refine below_set ?_ GE399.out) | exact HB.out)⟩⟩
    case round =>
      clear H'
      try clear c1
      try clear p2
      try clear c3
      try clear c5
      try clear c11
      try clear hcz11_0
      try clear hcz11_1
      try clear hcz11_2
      try clear hfz11_0
      try clear hfz11_1
      try clear hfz11_2
      obtain ⟨x6_1, x8_1, x400000_1, x400001_1, x400002_1, u400001, rfl, rfl, HA, HK1, HO_3, HO_5, HO_400001, BK399, HB⟩ := hrel
      cases gk with
      | zero => exact absurd HA.out (by simp [laws_FnPieces.l0])
      | succ k1 =>
        have H := HA.out
        clear HA
        simp only [laws_FnPieces.l0] at H
        by_cases c12 : x8_1 < (t396.length : Int)
        · rw [if_pos c12] at H
          have c12b0 : decide (x8_1 < (t396.length : Int)) = true := decide_eq_true c12
          clear c12
          by_cases c13 : 0 ≤ x8_1
          · rw [if_pos c13] at H
            have c13b0 : decide (0 ≤ x8_1) = true := decide_eq_true c13
            clear c13
            by_cases c14 : x6_1.size + (rdOf ByteArray.empty t396 x8_1).size ≤ 9223372036854775807
            · rw [if_pos c14] at H
              have c14b0 := eq_true c14
              have c14b1 : decide (x6_1.size + (rdOf ByteArray.empty t396 x8_1).size ≤ 9223372036854775807) = true := decide_eq_true c14
              try have c14b2 : (9223372036854775807 < x6_1.size + (rdOf ByteArray.empty t396 x8_1).size) = False := eq_false (Nat.not_lt.2 c14)
              by_cases c15 : (rdOf ByteArray.empty t396 x8_1).size ≤ 9223372036854775807
              · rw [if_pos c15] at H
                have c15b0 := eq_true c15
                have c15b1 : decide ((rdOf ByteArray.empty t396 x8_1).size ≤ 9223372036854775807) = true := decide_eq_true c15
                try have c15b2 : (9223372036854775807 < (rdOf ByteArray.empty t396 x8_1).size) = False := eq_false (Nat.not_lt.2 c15)
                clear c15
                obtain ⟨y402, hy402⟩ : ∃ y_ : List Int, y_ = (bytesOf (rdOf ByteArray.empty t396 x8_1)) := ⟨_, rfl⟩
                replace H : ((impl_ReaderPush.f k1 x400000_1 x400001_1 x400002_1 y402).bind fun bt405 => (laws_FnPieces.l0 k1 t390 t396 (x6_1 ++ (rdOf ByteArray.empty t396 x8_1)) (wrap64 (x8_1 + 1)) bt405.1 bt405.2.1 bt405.2.2)) = some r := by first | (rw [hy402]; with_reducible exact H) | (have H2_ := (Option.bind_some _ _).symm.trans H; rw [hy402]; with_reducible exact H2_) | (have H2_ := (Option.bind_some _ _).symm.trans H; with_reducible exact H2_) | with_reducible exact H | (rw [hy402]; exact H) | exact H
                have Ny402 := Aside0.mk hy402
                clear hy402
                replace H := Option.bind_eq_some_iff.mp H
                obtain ⟨⟨t405, t406, t409⟩, A160, H⟩ := H
                replace H : (laws_FnPieces.l0 k1 t390 t396 (x6_1 ++ (rdOf ByteArray.empty t396 x8_1)) (wrap64 (x8_1 + 1)) t405 t406 t409) = some r := H
                have A16 := Aside0.mk A160
                clear A160
                have H' := Aside0.mk H
                clear H
                obtain ⟨Ao17, co17, eo17⟩ := Kd.R_slice HO_5.out
                subst eo17
                have p400 : 0 ≤ (x8_1 : Int) := of_decide_eq_true (by first | (with_reducible assumption) | assumption)
                have q400 : x8_1 < (t396.length : Int) := of_decide_eq_true (by first | (with_reducible assumption) | assumption)
                obtain ⟨ad400, e400, hx400_0⟩ := Kd.at_string (Kd.R_reads' HO_5.out).2.2 x8_1 p400 q400
                cases e400
                replace p400 := eq_true p400
                replace q400 := eq_true q400
                try go_wp2
                have n0_ := Aside0.mk (Kd.R_drew HO_3.out)
                have n1_ := Aside0.mk (Kd.R_drew HO_5.out)
                have n2_ := Aside0.mk (Kd.R_drew HO_400001.out)
                have n3_ := Aside0.mk (blk_drew BK399.out)
                have n4_ := Aside0.mk (below_drew1 HB.out)
                clear HO_3
                clear HO_5
                clear HO_400001
                clear BK399
                clear HB
                have HO_3 := n0_
                have HO_5 := n1_
                have HO_400001 := n2_
                have BK399 := n3_
                have HB := n4_
                clear n0_ n1_ n2_ n3_ n4_
                have p401 : 0 ≤ (x8_1 : Int) := of_decide_eq_true (by first | (with_reducible assumption) | assumption)
                have q401 : x8_1 < (t396.length : Int) := of_decide_eq_true (by first | (with_reducible assumption) | assumption)
                obtain ⟨ad401, e401, hx401_0⟩ := Kd.at_string (Kd.R_reads' HO_5.out).2.2 x8_1 p401 q401
                obtain rfl : ad400 = ad401 := (by injection e401)
                replace p401 := eq_true p401
                replace q401 := eq_true q401
                refine start_ (n := 8) (S := fun w' => w'.cell? ⟨gb399, 0, none⟩ = some (.string x400000_1) ∧ w'.cell? ⟨gb399, 1, none⟩ = some (u400001) ∧ w'.cell? ⟨gb399, 2, none⟩ = some (.bool x400002_1) ∧ w'.cell? (ad400.add (x8_1).toNat) = some (.string (rdOf ByteArray.empty t396 x8_1))) (ds := [7]) #[false, false, false, false, false, false, false, false] (by kernel_rfl) rfl rfl ⟨(blk_cell BK399.out 0).trans rfl, (blk_cell BK399.out 1).trans rfl, (blk_cell BK399.out 2).trans rfl, hx401_0⟩ (fun hHeld => ?_); refine with_tabW laws_FnPieces.tab11 laws_FnPieces.bits11 (fun HT_ HW_ => ?_)
                generalize wr.drew = w18 at HO_3 HO_5 HO_400001 BK399 HB hx401_0 hHeld ⊢
                refine pure_ (i := 1) (N := some 35) (v := ?_) (a' := ?_) #[false, true, false, false, false, false, false, false] rfl rfl (any_of HT_.out (by kernel_rfl)) (fun _ _ _ h => h) (Or.inl ⟨by rfl, ?_⟩) ?_ ?_
                rotate_left
                · intro w'
                  go_simp
                  with_reducible rfl
                rotate_left
                · simp only [Act.put, List.setIfInBounds_toArray, List.set_cons_zero, List.set_cons_succ, i64_w, i32_w, u32_w, u64_w]
                  rfl
                refine pure_ (i := 2) (N := some 36) (v := ?_) (a' := ?_) #[false, true, true, false, false, false, false, false] rfl rfl (any_of HT_.out (by kernel_rfl)) (fun _ _ _ h => h) (Or.inl ⟨by rfl, ?_⟩) ?_ ?_
                rotate_left
                · intro w'
                  go_simp
                  with_reducible rfl
                rotate_left
                · simp only [Act.put, List.setIfInBounds_toArray, List.set_cons_zero, List.set_cons_succ, i64_w, i32_w, u32_w, u64_w]
                  rfl
                refine pure_ (i := 3) (N := some 37) (v := ?_) (a' := ?_) #[false, true, true, true, false, false, false, false] rfl rfl (any_of HT_.out (by kernel_rfl)) (fun _ _ _ h => h) (Or.inl ⟨by rfl, ?_⟩) ?_ ?_
                rotate_left
                · intro w'
                  go_simp
                  with_reducible rfl
                rotate_left
                · simp only [Act.put, List.setIfInBounds_toArray, List.set_cons_zero, List.set_cons_succ, i64_w, i32_w, u32_w, u64_w]
                  rfl
                refine take_ (i := 0) (N := some 34) (v := ?_) (a' := ?_) #[true, true, true, true, false, false, false, false] rfl rfl (take_ofW HT_.out HW_.out (by kernel_rfl)) (fun _ _ _ h => h) (Or.inl ⟨by rfl, ?_⟩) hHeld ?_ ?_
                rotate_left
                · rintro w' ⟨s0, s1, s2, s3⟩
                  go_simp
                  with_reducible rfl
                rotate_left
                · simp only [Act.put, List.setIfInBounds_toArray, List.set_cons_zero, List.set_cons_succ, i64_w, i32_w, u32_w, u64_w]
                  rfl
                refine take_ (i := 4) (N := some 38) (v := ?_) (a' := ?_) #[true, true, true, true, true, false, false, false] rfl rfl (take_ofW HT_.out HW_.out (by kernel_rfl)) (fun _ _ _ h => h) (Or.inl ⟨by rfl, ?_⟩) hHeld ?_ ?_
                rotate_left
                · rintro w' ⟨s0, s1, s2, s3⟩
                  go_simp
                  with_reducible rfl
                rotate_left
                · simp only [Act.put, List.setIfInBounds_toArray, List.set_cons_zero, List.set_cons_succ, i64_w, i32_w, u32_w, u64_w]
                  rfl
                refine one_ (i := 5) (N := some 39) #[true, true, true, true, true, true, false, false] rfl rfl (one_of HT_.out (by kernel_rfl)) (by decide) (fun K hK => ?_)
                refine Kd.V_conv_step _ 5 (by rfl) (N := some 39) rfl 9 29 _ rfl (rdOf ByteArray.empty t396 x8_1) rfl Try.underlying9 Try.underlying29 Try.underlying5 (of_decide_eq_true (by first | (with_reducible assumption) | assumption)) (ok := fun k_ => w18.heap.size ≤ k_) (Nat.le_refl _) (Below.refl _ _) (Nat.le_refl _) ?_
                intro v403 w19 ho20 hb hg_ hnew_
                have HS3_ := (hb.cell (World.block_lt_of_cell? _ _ (hHeld.2.2.2))).trans (hHeld.2.2.2)
                clear hg_ hnew_
                (first | rw [← Ny402.out] at ho20 | (simp only [Int.reduceToNat] at ho20; rw [← Ny402.out] at ho20))
                have n0_ := Aside0.mk (Kd.R_below (by (with_reducible repeat (first | apply Kd.R_alloc | apply Kd.R_drewN | apply Kd.R_drew)); exact HO_3.out) hb)
                have n1_ := Aside0.mk (Kd.R_below (by (with_reducible repeat (first | apply Kd.R_alloc | apply Kd.R_drewN | apply Kd.R_drew)); exact HO_5.out) hb)
                have n2_ := Aside0.mk (Kd.R_below (by (with_reducible repeat (first | apply Kd.R_alloc | apply Kd.R_drewN | apply Kd.R_drew)); exact HO_400001.out) hb)
                have n3_ := Aside0.mk (Kd.V_lower (Kd.V_mono (ok' := fun k_ => some k_ ≠ (.slice Ao7 t390.length co7 : Value).ownBlock ∧ some k_ ≠ (.slice (some ad400) t396.length co17 : Value).ownBlock ∧ some k_ ≠ (u400001 : Value).ownBlock ∧ k_ ≠ gb399) ho20 (fun k_ hk_ => ⟨(Kd.fresh' (Kd.R_lt (by (with_reducible repeat (first | apply Kd.R_alloc | apply Kd.R_drewN | apply Kd.R_drew)); exact HO_3.out)) k_ hk_), (Kd.fresh' (Kd.R_lt (by (with_reducible repeat (first | apply Kd.R_alloc | apply Kd.R_drewN | apply Kd.R_drew)); exact HO_5.out)) k_ hk_), (Kd.fresh' (Kd.R_lt (by (with_reducible repeat (first | apply Kd.R_alloc | apply Kd.R_drewN | apply Kd.R_drew)); exact HO_400001.out)) k_ hk_), (Kd.freshB (g := gb399) (o := .cells #[.string x400000_1, u400001, .bool x400002_1] 62 (0, 0)) (by (with_reducible repeat (first | refine blk_drewN ?_ _ | refine blk_drew ?_ | refine blk_alloc ?_ _)); exact BK399.out) k_ hk_)⟩)) (below_size (by repeat (first | (with_reducible first | exact HB.out | apply below_alloc | apply pw_below_drewN | apply below_drew1 | refine below_set ?_ GE399.out) | exact HB.out))))
                have n4_ := Aside0.mk (blk_below (g := gb399) (o := .cells #[.string x400000_1, u400001, .bool x400002_1] 62 (0, 0)) (by (with_reducible repeat (first | refine blk_drewN ?_ _ | refine blk_drew ?_ | refine blk_alloc ?_ _)); exact BK399.out) hb)
                have n5_ := Aside0.mk (below_step (by repeat (first | (with_reducible first | exact HB.out | apply below_alloc | apply pw_below_drewN | apply below_drew1 | refine below_set ?_ GE399.out) | exact HB.out)) hb)
                clear HO_3
                clear HO_5
                clear HO_400001
                clear BK399
                clear HB
                have HO_3 := n0_
                have HO_5 := n1_
                have HO_400001 := n2_
                have HO404 := n3_
                have BK399 := n4_
                have HB := n5_
                clear n0_ n1_ n2_ n3_ n4_ n5_
                clear hb ho20
                obtain ⟨Ao21, co21, eo21⟩ := Kd.R_slice HO_400001.out
                (first | subst eo21 | (injection eo21 with f1_ f2_ f3_; have f4_ := f1_.symm; have f5_ := f3_.symm; clear f1_ f2_ f3_; subst f4_; subst f5_))
                obtain ⟨Ao22, co22, eo22⟩ := Kd.V_slice HO404.out
                (first | subst eo22 | (injection eo22 with f1_ f2_ f3_; have f4_ := f1_.symm; have f5_ := f3_.symm; clear f1_ f2_ f3_; subst f4_; subst f5_))
                refine hK.out _ _ ⟨(blk_cell BK399.out 0).trans rfl, (blk_cell BK399.out 1).trans rfl, (blk_cell BK399.out 2).trans rfl, HS3_⟩ (fun hHeld => ?_)
                clear hK K
                refine norm_ (a' := ?_) ?_ ?_
                rotate_left
                · show Act.put _ (some 39) _ = _
                  simp only [Act.put, List.setIfInBounds_toArray, List.set_cons_zero, List.set_cons_succ, i64_w, i32_w, u32_w, u64_w]
                  rfl
                refine one_ (i := 6) (N := some 40) #[true, true, true, true, true, true, true, false] rfl rfl (one_of HT_.out (by kernel_rfl)) (by decide) (fun K hK => ?_)
                refine goes_ Try.func49 (by kernel_rfl) rfl #[.agg #[.string x400000_1, .slice Ao21 x400001_1.length co21, .bool x400002_1], .slice Ao22 y402.length co22] (by rfl) rfl rfl (by (try simp only [List.map_toArray, List.map_cons, List.map_nil]); first | done | rfl | (simp only [List.length_drop, List.length_take]; rfl)) ?_
                with_reducible refine (impl_ReaderPush.calls k1 x400000_1 _ _ x400001_1 x400002_1 _ _ y402 t405 t406 t409 _ ?side1 ?side2 ?side3 ?side4 A16.out).mono ?_
                (case side1 => repeat (first | exact (Kd.R_reads' HO_400001.out).2.2 | (with_reducible refine Kd.C_alloc ?_ _) | (with_reducible refine Kd.C_drewN ?_ _) | (with_reducible refine Kd.C_drew ?_)))
                (case side2 => exact (Kd.R_reads' HO_400001.out).2.1)
                (case side3 => repeat (first | exact (Kd.V_reads' HO404.out).2.2 | (with_reducible refine Kd.C_alloc ?_ _) | (with_reducible refine Kd.C_drewN ?_ _) | (with_reducible refine Kd.C_drew ?_)))
                (case side4 => exact (Kd.V_reads' HO404.out).2.1)
                rintro e w23 ⟨v407, rfl, ho0, hb⟩
                have HS3_ := (hb.cell (World.block_lt_of_cell? _ _ (hHeld.2.2.2))).trans (hHeld.2.2.2)
                refine ⟨_, rfl, ?_⟩
                have n0_ := Aside0.mk (Kd.R_below (by (with_reducible repeat (first | apply Kd.R_alloc | apply Kd.R_drewN | apply Kd.R_drew)); exact HO_3.out) hb)
                have n1_ := Aside0.mk (Kd.R_below (by (with_reducible repeat (first | apply Kd.R_alloc | apply Kd.R_drewN | apply Kd.R_drew)); exact HO_5.out) hb)
                have n2_ := Aside0.mk (Kd.R_elder' (by (with_reducible repeat (first | apply Kd.R_alloc | apply Kd.R_drewN | apply Kd.R_drew)); exact HO_400001.out) (Kd.R_base ho0) hb)
                have n3_ := Aside0.mk (Kd.V_elder' (by (with_reducible repeat (first | apply Kd.V_alloc | apply Kd.V_drewN | apply Kd.V_drew)); exact HO404.out) (Kd.R_base ho0) hb)
                have n4_ := Aside0.mk (Kd.R_lower (Kd.R_new' ho0 (Kd.R_lt (by (with_reducible repeat (first | apply Kd.R_alloc | apply Kd.R_drewN | apply Kd.R_drew)); exact HO_400001.out))) (below_size (by repeat (first | (with_reducible first | exact HB.out | apply below_alloc | apply pw_below_drewN | apply below_drew1 | refine below_set ?_ GE399.out) | exact HB.out))))
                have n5_ := Aside0.mk (blk_below (g := gb399) (o := .cells #[.string x400000_1, .slice Ao21 x400001_1.length co21, .bool x400002_1] 62 (0, 0)) (by (with_reducible repeat (first | refine blk_drewN ?_ _ | refine blk_drew ?_ | refine blk_alloc ?_ _)); exact BK399.out) hb)
                have n6_ := Aside0.mk (below_step (by repeat (first | (with_reducible first | exact HB.out | apply below_alloc | apply pw_below_drewN | apply below_drew1 | refine below_set ?_ GE399.out) | exact HB.out)) hb)
                clear HO_3
                clear HO_5
                clear HO_400001
                clear HO404
                clear BK399
                clear HB
                have HO_3 := n0_
                have HO_5 := n1_
                have HO_400001 := n2_
                have HO404 := n3_
                have HO408 := n4_
                have BK399 := n5_
                have HB := n6_
                clear n0_ n1_ n2_ n3_ n4_ n5_ n6_
                (try clear hb)
                (try clear hb2)
                (try clear hk)
                (try clear hi)
                (try clear ho0)
                obtain ⟨Ao25, co25, eo25⟩ := Kd.R_slice HO408.out
                (first | subst eo25 | (injection eo25 with f1_ f2_ f3_; have f4_ := f1_.symm; have f5_ := f3_.symm; clear f1_ f2_ f3_; subst f4_; subst f5_))
                refine hK.out _ _ ⟨(blk_cell BK399.out 0).trans rfl, (blk_cell BK399.out 1).trans rfl, (blk_cell BK399.out 2).trans rfl, HS3_⟩ (fun hHeld => ?_)
                clear hK K
                refine norm_ (a' := ?_) ?_ ?_
                rotate_left
                · show Act.put _ (some 40) _ = _
                  simp only [Act.put, List.setIfInBounds_toArray, List.set_cons_zero, List.set_cons_succ, i64_w, i32_w, u32_w, u64_w]
                  rfl
                refine last_ (i := 7) (N := none) #[true, true, true, true, true, true, true, true] rfl rfl (one_of HT_.out (by kernel_rfl)) (by decide) (fun K hK => ?_)
                have hs24 : w23.cell? ⟨gb399, 0, none⟩ = some (.string x400000_1) := (blk_cell BK399.out 0).trans rfl
                have hfs24 := blk_frozen BK399.out 0
                have hs26 : w23.cell? ⟨gb399, 1, none⟩ = some (.slice Ao21 x400001_1.length co21) := (blk_cell BK399.out 1).trans rfl
                have hfs26 := blk_frozen BK399.out 1
                have hs27 : w23.cell? ⟨gb399, 2, none⟩ = some (.bool x400002_1) := (blk_cell BK399.out 2).trans rfl
                have hfs27 := blk_frozen BK399.out 2
                refine skip_ (w1 := ?_) (by rfl) rfl ?_ ?_
                rotate_left
                · go_simp
                  rfl
                refine hK.out _ _ ?_
                clear hK K
                refine done_ (done_of HT_.out (by kernel_rfl)) ?_
                try go_wp2
                go_roundg k1
                case measure => have := HK1.out; omega
                case rel => exact ⟨(x6_1 ++ (rdOf ByteArray.empty t396 x8_1)), (wrap64 (x8_1 + 1)), (t405), (t406), (t409), (.slice Ao25 t406.length co25), (by first | rfl | (simp; done) | (simp [*]; done)), (by first | rfl | (simp; done) | (simp [*]; done)), H', ⟨by have := HK1.out; omega⟩, ⟨by (with_reducible repeat (first | apply Kd.R_alloc | apply Kd.R_drewN | apply Kd.R_drew)); exact Kd.R_mono (Kd.R_far (p := ⟨gb399, 2, none⟩) (Kd.R_far (p := ⟨gb399, 1, none⟩) (Kd.R_far (p := ⟨gb399, 0, none⟩) (Kd.R_types HO_3.out BK399.out (by decide)) (fun _ hk => hk.2) (.string t405)) (fun _ hk => hk.2) (.slice Ao25 t406.length co25)) (fun _ hk => hk.2) (.bool t409)) (fun _ hk => trivial)⟩, ⟨by (with_reducible repeat (first | apply Kd.R_alloc | apply Kd.R_drewN | apply Kd.R_drew)); exact Kd.R_mono (Kd.R_far (p := ⟨gb399, 2, none⟩) (Kd.R_far (p := ⟨gb399, 1, none⟩) (Kd.R_far (p := ⟨gb399, 0, none⟩) (Kd.R_types HO_5.out BK399.out (by decide)) (fun _ hk => hk.2) (.string t405)) (fun _ hk => hk.2) (.slice Ao25 t406.length co25)) (fun _ hk => hk.2) (.bool t409)) (fun _ hk => trivial)⟩, ⟨by (with_reducible repeat (first | apply Kd.R_alloc | apply Kd.R_drewN | apply Kd.R_drew)); exact Kd.R_mono (Kd.R_far (p := ⟨gb399, 2, none⟩) (Kd.R_far (p := ⟨gb399, 1, none⟩) (Kd.R_far (p := ⟨gb399, 0, none⟩) (Kd.R_types HO408.out BK399.out (by decide)) (fun _ hk => hk.2) (.string t405)) (fun _ hk => hk.2) (.slice Ao25 t406.length co25)) (fun _ hk => hk.2) (.bool t409)) (fun _ hk => trivial)⟩, ⟨by (with_reducible repeat (first | refine blk_drewN ?_ _ | refine blk_drew ?_ | refine blk_alloc ?_ _)); refine blk_put (cs := #[.string t405, .slice Ao25 t406.length co25, .bool x400002_1]) ?_ 2 _ rfl; (with_reducible repeat (first | refine blk_drewN ?_ _ | refine blk_drew ?_ | refine blk_alloc ?_ _)); refine blk_put (cs := #[.string t405, .slice Ao21 x400001_1.length co21, .bool x400002_1]) ?_ 1 _ rfl; (with_reducible repeat (first | refine blk_drewN ?_ _ | refine blk_drew ?_ | refine blk_alloc ?_ _)); refine blk_put (cs := #[.string x400000_1, .slice Ao21 x400001_1.length co21, .bool x400002_1]) ?_ 0 _ rfl; (with_reducible repeat (first | refine blk_drewN ?_ _ | refine blk_drew ?_ | refine blk_alloc ?_ _)); exact BK399.out⟩, ⟨by repeat (first | (with_reducible first | exact HB.out | apply below_alloc | apply pw_below_drewN | apply below_drew1 | refine below_set ?_ GE399.out) | exact HB.out)⟩⟩
              · rw [if_neg c15] at H
                exact absurd H (by simp)
            · rw [if_neg c14] at H
              exact absurd H (by simp)
          · rw [if_neg c13] at H
            exact absurd H (by simp)
        · rw [if_neg c12] at H
          have c12b0 : decide (x8_1 < (t396.length : Int)) = false := decide_eq_false c12
          clear c12
          replace H := Option.bind_eq_some_iff.mp H
          obtain ⟨⟨t410, t411, t414⟩, A280, H⟩ := H
          replace H : ((spec_ReaderPush.f k1 (⟨#[]⟩ : ByteArray) ([] : List (S26)) false t390).bind fun bt416 => (if x6_1.toList = (strOfNums t390).toList then (if (t411.length : Int) = (bt416.2.1.length : Int) then (if (t414 != bt416.2.2) = true then (some false) else (if (x400002_1 == t414) = true then (if x400000_1.toList = t410.toList then ((laws_sameFrames.f k1 x400001_1 t411).bind fun t422 => (some t422)) else (some false)) else (some false))) else (some false)) else (some false))) = some r := H
          have A28 := Aside0.mk A280
          clear A280
          replace H := Option.bind_eq_some_iff.mp H
          obtain ⟨⟨t416, t417, t420⟩, A290, H⟩ := H
          replace H : (if x6_1.toList = (strOfNums t390).toList then (if (t411.length : Int) = (t417.length : Int) then (if (t414 != t420) = true then (some false) else (if (x400002_1 == t414) = true then (if x400000_1.toList = t410.toList then ((laws_sameFrames.f k1 x400001_1 t411).bind fun t422 => (some t422)) else (some false)) else (some false))) else (some false)) else (some false)) = some r := H
          have A29 := Aside0.mk A290
          clear A290
          by_cases c30 : x6_1.toList = (strOfNums t390).toList
          · rw [if_pos c30] at H
            have c30b0 : (x6_1.toList == (strOfNums t390).toList) = true := beq_iff_eq.mpr c30
            have c30b1 : (x6_1.toList != (strOfNums t390).toList) = false := bne_eq_false_iff_eq.mpr c30
            clear c30
            by_cases c31 : (t411.length : Int) = (t417.length : Int)
            · rw [if_pos c31] at H
              have c31b0 : ((t411.length : Int) == (t417.length : Int)) = true := beq_iff_eq.mpr c31
              have c31b1 : ((t411.length : Int) != (t417.length : Int)) = false := bne_eq_false_iff_eq.mpr c31
              have c31b2 : (t411.length == t417.length) = true := by first | simpa using c31 | (simp at c31 ⊢; omega)
              clear c31
              by_cases c32 : (t414 != t420) = true
              · rw [if_pos c32] at H
                have c32b0 : (t414 != t420) = true := c32
                (try (have c32b1 : decide (t414 = t420) = false := by simpa using c32))
                (try (have c32b2 : (t414 == t420) = false := by simpa using c32))
                (try (have c32b3 : ¬ (t414 = t420) := by simpa using c32))
                clear c32
                exact absurd (hrt.symm.trans (Option.some.inj H).symm) (by decide)
              · rw [if_neg c32] at H
                have c32b0 : (t414 != t420) = false := by simpa using c32
                (try (have c32b1 : decide (t414 = t420) = true := by simpa using c32))
                (try (have c32b2 : (t414 == t420) = true := by simpa using c32))
                clear c32
                by_cases c47 : (x400002_1 == t414) = true
                · rw [if_pos c47] at H
                  have c47b0 : (x400002_1 == t414) = true := c47
                  (try (have c47b1 : decide (x400002_1 = t414) = true := by simpa using c47))
                  (try (have c47b2 : (x400002_1 == t414) = true := by simpa using c47))
                  clear c47
                  by_cases c48 : x400000_1.toList = t410.toList
                  · rw [if_pos c48] at H
                    have c48b0 : (x400000_1.toList == t410.toList) = true := beq_iff_eq.mpr c48
                    have c48b1 : (x400000_1.toList != t410.toList) = false := bne_eq_false_iff_eq.mpr c48
                    clear c48
                    replace H := Option.bind_eq_some_iff.mp H
                    obtain ⟨t422, A490, H⟩ := H
                    replace H : (some t422) = some r := H
                    have A49 := Aside0.mk A490
                    clear A490
                    obtain rfl := Option.some.inj H
                    obtain ⟨Ao50, co50, eo50⟩ := Kd.R_slice HO_5.out
                    subst eo50
                    go_wp2_with (first | ((with_reducible refine gate_callee (f := 49) rfl ?_); refine goesL_ (some 43) rfl rfl Try.func49 (by kernel_rfl) rfl #[.agg #[.string (⟨#[]⟩ : ByteArray), .slice none 0 0, .bool false], .slice Ao7 t390.length co7] rfl (by (try simp only [List.map_toArray, List.map_cons, List.map_nil]); first | done | rfl | (simp only [List.length_drop, List.length_take]; rfl)) ?_; (refine (impl_ReaderPush.calls k1 (⟨#[]⟩ : ByteArray) _ _ ([] : List (S26)) false _ _ t390 t410 t411 t414 _ ?side1 ?side2 ?side3 ?side4 A28.out).mono ?_); (case side1 => exact Kd.C_nil _ _); (case side2 => exact Nat.le_refl _); (case side3 => repeat (first | exact (Kd.R_reads' HO_3.out).2.2 | (with_reducible refine Kd.C_alloc ?_ _) | (with_reducible refine Kd.C_drewN ?_ _) | (with_reducible refine Kd.C_drew ?_))); (case side4 => exact (Kd.R_reads' HO_3.out).2.1); rintro e w51 ⟨v412, rfl, ho0, hb⟩; refine ⟨_, rfl, ?_⟩; have n0_ := Aside0.mk (Kd.R_below (by (with_reducible repeat (first | apply Kd.R_alloc | apply Kd.R_drewN | apply Kd.R_drew)); exact HO_3.out) hb); have n1_ := Aside0.mk (Kd.R_below (by (with_reducible repeat (first | apply Kd.R_alloc | apply Kd.R_drewN | apply Kd.R_drew)); exact HO_5.out) hb); have n2_ := Aside0.mk (Kd.R_elder' (by (with_reducible repeat (first | apply Kd.R_alloc | apply Kd.R_drewN | apply Kd.R_drew)); exact HO_400001.out) (Kd.R_base ho0) hb); have n3_ := Aside0.mk (Kd.R_lower (Kd.R_new' ho0 (Kd.R_lt (by (with_reducible repeat (first | apply Kd.R_alloc | apply Kd.R_drewN | apply Kd.R_drew)); exact HO_400001.out))) (below_size (by repeat (first | (with_reducible first | exact HB.out | apply below_alloc | apply pw_below_drewN | apply below_drew1 | refine below_set ?_ GE399.out) | exact HB.out)))); have n4_ := Aside0.mk (blk_below (g := gb399) (o := .cells #[.string x400000_1, u400001, .bool x400002_1] 62 (0, 0)) (by (with_reducible repeat (first | refine blk_drewN ?_ _ | refine blk_drew ?_ | refine blk_alloc ?_ _)); exact BK399.out) hb); have n5_ := Aside0.mk (below_step (by repeat (first | (with_reducible first | exact HB.out | apply below_alloc | apply pw_below_drewN | apply below_drew1 | refine below_set ?_ GE399.out) | exact HB.out)) hb); clear HO_3; clear HO_5; clear HO_400001; clear BK399; clear HB; have HO_3 := n0_; have HO_5 := n1_; have HO_400001 := n2_; have HO413 := n3_; have BK399 := n4_; have HB := n5_; clear n0_ n1_ n2_ n3_ n4_ n5_; (try clear hb); (try clear hb2); (try clear hk); (try clear hi); (try clear ho0)) | ((with_reducible refine gate_dst (N := 9) rfl ?_); (try (refine gate_guard (by rfl) ?_; dsimp only)); refine box_event ?hg (N := 9) ?hd (cs := #[.string (⟨#[]⟩ : ByteArray), .slice none 0 0, .bool false]) (t := 62) ?hr ?_; (case hd => rfl); (case hg => rfl); (case hr => first | (go_simp; done) | (go_simp; rfl)); intro gb415 hg w52 hbox hb; have n0_ := Aside0.mk (Kd.R_below (by (with_reducible repeat (first | apply Kd.R_alloc | apply Kd.R_drewN | apply Kd.R_drew)); exact HO_3.out) hb); have n1_ := Aside0.mk (Kd.R_below (by (with_reducible repeat (first | apply Kd.R_alloc | apply Kd.R_drewN | apply Kd.R_drew)); exact HO_5.out) hb); have n2_ := Aside0.mk (Kd.R_below (by (with_reducible repeat (first | apply Kd.R_alloc | apply Kd.R_drewN | apply Kd.R_drew)); exact HO_400001.out) hb); have n3_ := Aside0.mk (Kd.R_below (by (with_reducible repeat (first | apply Kd.R_alloc | apply Kd.R_drewN | apply Kd.R_drew)); exact HO413.out) hb); have n4_ := Aside0.mk (blk_below (g := gb399) (o := .cells #[.string x400000_1, u400001, .bool x400002_1] 62 (0, 0)) (by (with_reducible repeat (first | refine blk_drewN ?_ _ | refine blk_drew ?_ | refine blk_alloc ?_ _)); exact BK399.out) hb); have n5_ := Aside0.mk (below_step (by repeat (first | (with_reducible first | exact HB.out | apply below_alloc | apply pw_below_drewN | apply below_drew1 | refine below_set ?_ GE399.out) | exact HB.out)) hb); have n6_ := Aside0.mk (hbox); have n7_ := Aside0.mk ((by rw [hg]; exact (below_size (by repeat (first | (with_reducible first | exact HB.out | apply below_alloc | apply pw_below_drewN | apply below_drew1 | refine below_set ?_ GE399.out) | exact HB.out))) : w.heap.size ≤ gb415)); have n8_ := Aside0.mk ((by rw [hg]; exact (below_size (by repeat (first | (with_reducible first | exact HB.out | apply below_alloc | apply pw_below_drewN | apply below_drew1 | refine below_set ?_ GE399.out) | exact HB.out))) : w.heap.size ≤ gb415)); have n9_ := Aside0.mk ((by rw [hg]; exact Nat.ne_of_lt (blk_lt (g := gb399) (o := .cells #[.string x400000_1, u400001, .bool x400002_1] 62 (0, 0)) (by (with_reducible repeat (first | refine blk_drewN ?_ _ | refine blk_drew ?_ | refine blk_alloc ?_ _)); exact BK399.out)) : gb399 ≠ gb415)); have n10_ := Aside0.mk ((by rw [hg]; exact Nat.ne_of_gt (blk_lt (g := gb399) (o := .cells #[.string x400000_1, u400001, .bool x400002_1] 62 (0, 0)) (by (with_reducible repeat (first | refine blk_drewN ?_ _ | refine blk_drew ?_ | refine blk_alloc ?_ _)); exact BK399.out)) : gb415 ≠ gb399)); clear HO_3; clear HO_5; clear HO_400001; clear HO413; clear BK399; clear HB; have HO_3 := n0_; have HO_5 := n1_; have HO_400001 := n2_; have HO413 := n3_; have BK399 := n4_; have HB := n5_; have BK415 := n6_; have GW415 := n7_; have GE415 := n8_; have NB399_415 := n9_; have NB415_399 := n10_; clear n0_ n1_ n2_ n3_ n4_ n5_ n6_ n7_ n8_ n9_ n10_; clear hb hbox hg; have hnb53 := NB415_399.out; have hnc53 := NB399_415.out; have hcz54_0 : w52.cell? ⟨gb415, 0, none⟩ = some (.string (⟨#[]⟩ : ByteArray)) := (blk_cell BK415.out 0).trans rfl; have hcz54_1 : w52.cell? ⟨gb415, 1, none⟩ = some (.slice none 0 0) := (blk_cell BK415.out 1).trans rfl; have hcz54_2 : w52.cell? ⟨gb415, 2, none⟩ = some (.bool false) := (blk_cell BK415.out 2).trans rfl; have hfz54_0 := blk_frozen BK415.out 0; have hfz54_1 := blk_frozen BK415.out 1; have hfz54_2 := blk_frozen BK415.out 2; obtain ⟨Ao55, co55, eo55⟩ := Kd.R_slice HO413.out; subst eo55) | ((with_reducible refine gate_callee (f := 47) rfl ?_); refine goesL_ (some 46) rfl rfl Try.func47 (by kernel_rfl) rfl #[.agg #[.string (⟨#[]⟩ : ByteArray), .slice none 0 0, .bool false], .slice Ao7 t390.length co7] rfl (by (try simp only [List.map_toArray, List.map_cons, List.map_nil]); first | done | rfl | (simp only [List.length_drop, List.length_take]; rfl)) ?_; (refine (spec_ReaderPush.calls k1 (⟨#[]⟩ : ByteArray) _ _ ([] : List (S26)) false _ _ t390 t416 t417 t420 _ ?side1 ?side2 ?side3 ?side4 A29.out).mono ?_); (case side1 => exact Kd.C_nil _ _); (case side2 => exact Nat.le_refl _); (case side3 => refine (Kd.R_reads' (e := 5) (base := w.heap.size) (ok := fun k_ => True) (n := t390.length) (c := co7) ?_).2.2; exact (by (with_reducible repeat (first | apply Kd.R_alloc | apply Kd.R_drewN | apply Kd.R_drew)); exact (Kd.R_mono (Kd.R_far (p := ⟨gb415, 2, none⟩) (Kd.R_far (p := ⟨gb415, 1, none⟩) (Kd.R_far (p := ⟨gb415, 0, none⟩) (Kd.R_types HO_3.out BK415.out (by decide)) (fun _ hk => hk.2) (.string t410)) (fun _ hk => hk.2) (.slice Ao55 t411.length co55)) (fun _ hk => hk.2) (.bool t414)) (fun _ h_ => h_.1)))); (case side4 => exact (Kd.R_reads' HO_3.out).2.1); rintro e w56 ⟨v418, rfl, ho0, hb⟩; refine ⟨_, rfl, ?_⟩; have n0_ := Aside0.mk (Kd.R_below (by (with_reducible repeat (first | apply Kd.R_alloc | apply Kd.R_drewN | apply Kd.R_drew)); exact (Kd.R_mono (Kd.R_far (p := ⟨gb415, 2, none⟩) (Kd.R_far (p := ⟨gb415, 1, none⟩) (Kd.R_far (p := ⟨gb415, 0, none⟩) (Kd.R_types HO_3.out BK415.out (by decide)) (fun _ hk => hk.2) (.string t410)) (fun _ hk => hk.2) (.slice Ao55 t411.length co55)) (fun _ hk => hk.2) (.bool t414)) (fun _ h_ => h_.1))) hb); have n1_ := Aside0.mk (Kd.R_below (by (with_reducible repeat (first | apply Kd.R_alloc | apply Kd.R_drewN | apply Kd.R_drew)); exact (Kd.R_mono (Kd.R_far (p := ⟨gb415, 2, none⟩) (Kd.R_far (p := ⟨gb415, 1, none⟩) (Kd.R_far (p := ⟨gb415, 0, none⟩) (Kd.R_types HO_5.out BK415.out (by decide)) (fun _ hk => hk.2) (.string t410)) (fun _ hk => hk.2) (.slice Ao55 t411.length co55)) (fun _ hk => hk.2) (.bool t414)) (fun _ h_ => h_.1))) hb); have n2_ := Aside0.mk (Kd.R_elder' (by (with_reducible repeat (first | apply Kd.R_alloc | apply Kd.R_drewN | apply Kd.R_drew)); exact (Kd.R_mono (Kd.R_far (p := ⟨gb415, 2, none⟩) (Kd.R_far (p := ⟨gb415, 1, none⟩) (Kd.R_far (p := ⟨gb415, 0, none⟩) (Kd.R_types HO_400001.out BK415.out (by decide)) (fun _ hk => hk.2) (.string t410)) (fun _ hk => hk.2) (.slice Ao55 t411.length co55)) (fun _ hk => hk.2) (.bool t414)) (fun _ h_ => h_.1))) (Kd.R_base ho0) hb); have n3_ := Aside0.mk (Kd.R_elder' (by (with_reducible repeat (first | apply Kd.R_alloc | apply Kd.R_drewN | apply Kd.R_drew)); exact (Kd.R_mono (Kd.R_far (p := ⟨gb415, 2, none⟩) (Kd.R_far (p := ⟨gb415, 1, none⟩) (Kd.R_far (p := ⟨gb415, 0, none⟩) (Kd.R_types HO413.out BK415.out (by decide)) (fun _ hk => hk.2) (.string t410)) (fun _ hk => hk.2) (.slice Ao55 t411.length co55)) (fun _ hk => hk.2) (.bool t414)) (fun _ h_ => h_.1))) (Kd.R_base ho0) hb); have n4_ := Aside0.mk (Kd.R_lower (Kd.R_new' (Kd.R_new' ho0 (Kd.R_lt (by (with_reducible repeat (first | apply Kd.R_alloc | apply Kd.R_drewN | apply Kd.R_drew)); exact (Kd.R_mono (Kd.R_far (p := ⟨gb415, 2, none⟩) (Kd.R_far (p := ⟨gb415, 1, none⟩) (Kd.R_far (p := ⟨gb415, 0, none⟩) (Kd.R_types HO_400001.out BK415.out (by decide)) (fun _ hk => hk.2) (.string t410)) (fun _ hk => hk.2) (.slice Ao55 t411.length co55)) (fun _ hk => hk.2) (.bool t414)) (fun _ h_ => h_.1))))) (Kd.R_lt (by (with_reducible repeat (first | apply Kd.R_alloc | apply Kd.R_drewN | apply Kd.R_drew)); exact (Kd.R_mono (Kd.R_far (p := ⟨gb415, 2, none⟩) (Kd.R_far (p := ⟨gb415, 1, none⟩) (Kd.R_far (p := ⟨gb415, 0, none⟩) (Kd.R_types HO413.out BK415.out (by decide)) (fun _ hk => hk.2) (.string t410)) (fun _ hk => hk.2) (.slice Ao55 t411.length co55)) (fun _ hk => hk.2) (.bool t414)) (fun _ h_ => h_.1))))) (below_size (by repeat (first | (with_reducible first | exact HB.out | apply below_alloc | apply pw_below_drewN | apply below_drew1 | refine below_set ?_ GE399.out | refine below_set ?_ GE415.out) | exact HB.out)))); have n5_ := Aside0.mk (blk_below (g := gb399) (o := .cells #[.string x400000_1, u400001, .bool x400002_1] 62 (0, 0)) (by (with_reducible repeat (first | refine blk_drewN ?_ _ | refine blk_drew ?_ | refine blk_alloc ?_ _)); refine blk_far ?_ NB399_415.out _; (with_reducible repeat (first | refine blk_drewN ?_ _ | refine blk_drew ?_ | refine blk_alloc ?_ _)); refine blk_far ?_ NB399_415.out _; (with_reducible repeat (first | refine blk_drewN ?_ _ | refine blk_drew ?_ | refine blk_alloc ?_ _)); refine blk_far ?_ NB399_415.out _; (with_reducible repeat (first | refine blk_drewN ?_ _ | refine blk_drew ?_ | refine blk_alloc ?_ _)); exact BK399.out) hb); have n6_ := Aside0.mk (blk_below (g := gb415) (o := .cells #[.string t410, .slice Ao55 t411.length co55, .bool t414] 62 (0, 0)) (by (with_reducible repeat (first | refine blk_drewN ?_ _ | refine blk_drew ?_ | refine blk_alloc ?_ _)); refine blk_put (cs := #[.string t410, .slice Ao55 t411.length co55, .bool false]) ?_ 2 _ rfl; (with_reducible repeat (first | refine blk_drewN ?_ _ | refine blk_drew ?_ | refine blk_alloc ?_ _)); refine blk_put (cs := #[.string t410, .slice none 0 0, .bool false]) ?_ 1 _ rfl; (with_reducible repeat (first | refine blk_drewN ?_ _ | refine blk_drew ?_ | refine blk_alloc ?_ _)); refine blk_put (cs := #[.string (⟨#[]⟩ : ByteArray), .slice none 0 0, .bool false]) ?_ 0 _ rfl; (with_reducible repeat (first | refine blk_drewN ?_ _ | refine blk_drew ?_ | refine blk_alloc ?_ _)); exact BK415.out) hb); have n7_ := Aside0.mk (below_step (by repeat (first | (with_reducible first | exact HB.out | apply below_alloc | apply pw_below_drewN | apply below_drew1 | refine below_set ?_ GE399.out | refine below_set ?_ GE415.out) | exact HB.out)) hb); clear HO_3; clear HO_5; clear HO_400001; clear HO413; clear BK399; clear BK415; clear HB; have HO_3 := n0_; have HO_5 := n1_; have HO_400001 := n2_; have HO413 := n3_; have HO419 := n4_; have BK399 := n5_; have BK415 := n6_; have HB := n7_; clear n0_ n1_ n2_ n3_ n4_ n5_ n6_ n7_; (try clear hb); (try clear hb2); (try clear hk); (try clear hi); (try clear ho0)) | ((with_reducible refine gate_dst (N := 10) rfl ?_); (try (refine gate_guard (by rfl) ?_; dsimp only)); refine box_event ?hg (N := 10) ?hd (cs := #[.string (⟨#[]⟩ : ByteArray), .slice none 0 0, .bool false]) (t := 62) ?hr ?_; (case hd => rfl); (case hg => rfl); (case hr => first | (go_simp; done) | (go_simp; rfl)); intro gb421 hg w57 hbox hb; have n0_ := Aside0.mk (Kd.R_below (by (with_reducible repeat (first | apply Kd.R_alloc | apply Kd.R_drewN | apply Kd.R_drew)); exact HO_3.out) hb); have n1_ := Aside0.mk (Kd.R_below (by (with_reducible repeat (first | apply Kd.R_alloc | apply Kd.R_drewN | apply Kd.R_drew)); exact HO_5.out) hb); have n2_ := Aside0.mk (Kd.R_below (by (with_reducible repeat (first | apply Kd.R_alloc | apply Kd.R_drewN | apply Kd.R_drew)); exact HO_400001.out) hb); have n3_ := Aside0.mk (Kd.R_below (by (with_reducible repeat (first | apply Kd.R_alloc | apply Kd.R_drewN | apply Kd.R_drew)); exact HO413.out) hb); have n4_ := Aside0.mk (Kd.R_below (by (with_reducible repeat (first | apply Kd.R_alloc | apply Kd.R_drewN | apply Kd.R_drew)); exact HO419.out) hb); have n5_ := Aside0.mk (blk_below (g := gb399) (o := .cells #[.string x400000_1, u400001, .bool x400002_1] 62 (0, 0)) (by (with_reducible repeat (first | refine blk_drewN ?_ _ | refine blk_drew ?_ | refine blk_alloc ?_ _)); exact BK399.out) hb); have n6_ := Aside0.mk (blk_below (g := gb415) (o := .cells #[.string t410, .slice Ao55 t411.length co55, .bool t414] 62 (0, 0)) (by (with_reducible repeat (first | refine blk_drewN ?_ _ | refine blk_drew ?_ | refine blk_alloc ?_ _)); exact BK415.out) hb); have n7_ := Aside0.mk (below_step (by repeat (first | (with_reducible first | exact HB.out | apply below_alloc | apply pw_below_drewN | apply below_drew1 | refine below_set ?_ GE399.out | refine below_set ?_ GE415.out) | exact HB.out)) hb); have n8_ := Aside0.mk (hbox); have n9_ := Aside0.mk ((by rw [hg]; exact (below_size (by repeat (first | (with_reducible first | exact HB.out | apply below_alloc | apply pw_below_drewN | apply below_drew1 | refine below_set ?_ GE399.out | refine below_set ?_ GE415.out) | exact HB.out))) : w.heap.size ≤ gb421)); have n10_ := Aside0.mk ((by rw [hg]; exact (below_size (by repeat (first | (with_reducible first | exact HB.out | apply below_alloc | apply pw_below_drewN | apply below_drew1 | refine below_set ?_ GE399.out | refine below_set ?_ GE415.out) | exact HB.out))) : w.heap.size ≤ gb421)); have n11_ := Aside0.mk ((by rw [hg]; exact Nat.ne_of_lt (blk_lt (g := gb399) (o := .cells #[.string x400000_1, u400001, .bool x400002_1] 62 (0, 0)) (by (with_reducible repeat (first | refine blk_drewN ?_ _ | refine blk_drew ?_ | refine blk_alloc ?_ _)); exact BK399.out)) : gb399 ≠ gb421)); have n12_ := Aside0.mk ((by rw [hg]; exact Nat.ne_of_gt (blk_lt (g := gb399) (o := .cells #[.string x400000_1, u400001, .bool x400002_1] 62 (0, 0)) (by (with_reducible repeat (first | refine blk_drewN ?_ _ | refine blk_drew ?_ | refine blk_alloc ?_ _)); exact BK399.out)) : gb421 ≠ gb399)); have n13_ := Aside0.mk ((by rw [hg]; exact Nat.ne_of_lt (blk_lt (g := gb415) (o := .cells #[.string t410, .slice Ao55 t411.length co55, .bool t414] 62 (0, 0)) (by (with_reducible repeat (first | refine blk_drewN ?_ _ | refine blk_drew ?_ | refine blk_alloc ?_ _)); exact BK415.out)) : gb415 ≠ gb421)); have n14_ := Aside0.mk ((by rw [hg]; exact Nat.ne_of_gt (blk_lt (g := gb415) (o := .cells #[.string t410, .slice Ao55 t411.length co55, .bool t414] 62 (0, 0)) (by (with_reducible repeat (first | refine blk_drewN ?_ _ | refine blk_drew ?_ | refine blk_alloc ?_ _)); exact BK415.out)) : gb421 ≠ gb415)); clear HO_3; clear HO_5; clear HO_400001; clear HO413; clear HO419; clear BK399; clear BK415; clear HB; have HO_3 := n0_; have HO_5 := n1_; have HO_400001 := n2_; have HO413 := n3_; have HO419 := n4_; have BK399 := n5_; have BK415 := n6_; have HB := n7_; have BK421 := n8_; have GW421 := n9_; have GE421 := n10_; have NB399_421 := n11_; have NB421_399 := n12_; have NB415_421 := n13_; have NB421_415 := n14_; clear n0_ n1_ n2_ n3_ n4_ n5_ n6_ n7_ n8_ n9_ n10_ n11_ n12_ n13_ n14_; clear hb hbox hg; have hnb58 := NB421_399.out; have hnc58 := NB399_421.out; have hnb59 := NB421_415.out; have hnc59 := NB415_421.out; have hcz60_0 : w57.cell? ⟨gb421, 0, none⟩ = some (.string (⟨#[]⟩ : ByteArray)) := (blk_cell BK421.out 0).trans rfl; have hcz60_1 : w57.cell? ⟨gb421, 1, none⟩ = some (.slice none 0 0) := (blk_cell BK421.out 1).trans rfl; have hcz60_2 : w57.cell? ⟨gb421, 2, none⟩ = some (.bool false) := (blk_cell BK421.out 2).trans rfl; have hfz60_0 := blk_frozen BK421.out 0; have hfz60_1 := blk_frozen BK421.out 1; have hfz60_2 := blk_frozen BK421.out 2; obtain ⟨Ao61, co61, eo61⟩ := Kd.R_slice HO419.out; subst eo61; have hcv62 := own_string (P := Try.prog) Try.underlying29 Try.underlying5 Try.underlying9 (Kd.own_of_R (Kd.R_far (p := ⟨gb421, 2, none⟩) (Kd.R_far (p := ⟨gb421, 1, none⟩) (Kd.R_far (p := ⟨gb421, 0, none⟩) (Kd.R_types HO_3.out BK421.out (by decide)) (fun _ hk => hk.2) (.string t416)) (fun _ hk => hk.2) (.slice Ao61 t417.length co61)) (fun _ hk => hk.2) (.bool t420))); have hcz63_0 : w57.cell? ⟨gb415, 0, none⟩ = some (.string t410) := (blk_cell BK415.out 0).trans rfl; have hcz63_1 : w57.cell? ⟨gb415, 1, none⟩ = some (.slice Ao55 t411.length co55) := (blk_cell BK415.out 1).trans rfl; have hcz63_2 : w57.cell? ⟨gb415, 2, none⟩ = some (.bool t414) := (blk_cell BK415.out 2).trans rfl; have hfz63_0 := blk_frozen BK415.out 0; have hfz63_1 := blk_frozen BK415.out 1; have hfz63_2 := blk_frozen BK415.out 2; have hcz64_0 : w57.cell? ⟨gb399, 0, none⟩ = some (.string x400000_1) := (blk_cell BK399.out 0).trans rfl; have hcz64_1 : w57.cell? ⟨gb399, 1, none⟩ = some (u400001) := (blk_cell BK399.out 1).trans rfl; have hcz64_2 : w57.cell? ⟨gb399, 2, none⟩ = some (.bool x400002_1) := (blk_cell BK399.out 2).trans rfl; have hfz64_0 := blk_frozen BK399.out 0; have hfz64_1 := blk_frozen BK399.out 1; have hfz64_2 := blk_frozen BK399.out 2; obtain ⟨Ao65, co65, eo65⟩ := Kd.R_slice HO_400001.out; subst eo65) | (go_at_call 55; (with_reducible refine (laws_sameFrames.calls k1 _ _ x400001_1 _ _ t411 t422 _ ?side1 ?side2 ?side3 ?side4 A49.out).mono ?_); (case side1 => refine (Kd.R_reads' (e := 26) (base := w.heap.size) (ok := fun k_ => ((True ∧ some k_ ≠ (.slice Ao55 t411.length co55 : Value).ownBlock) ∧ some k_ ≠ (.slice Ao61 t417.length co61 : Value).ownBlock)) (n := x400001_1.length) (c := co65) ?_).2.2; exact (by (with_reducible repeat (first | apply Kd.R_alloc | apply Kd.R_drewN | apply Kd.R_drew)); exact (Kd.R_mono (Kd.R_far (p := ⟨gb421, 2, none⟩) (Kd.R_far (p := ⟨gb421, 1, none⟩) (Kd.R_far (p := ⟨gb421, 0, none⟩) (Kd.R_types HO_400001.out BK421.out (by decide)) (fun _ hk => hk.2) (.string t416)) (fun _ hk => hk.2) (.slice Ao61 t417.length co61)) (fun _ hk => hk.2) (.bool t420)) (fun _ h_ => h_.1)))); (case side2 => exact (Kd.R_reads' HO_400001.out).2.1); (case side3 => refine (Kd.R_reads' (e := 26) (base := w.heap.size) (ok := fun k_ => ((True ∧ some k_ ≠ (.slice Ao65 x400001_1.length co65 : Value).ownBlock) ∧ some k_ ≠ (.slice Ao61 t417.length co61 : Value).ownBlock)) (n := t411.length) (c := co55) ?_).2.2; exact (by (with_reducible repeat (first | apply Kd.R_alloc | apply Kd.R_drewN | apply Kd.R_drew)); exact (Kd.R_mono (Kd.R_far (p := ⟨gb421, 2, none⟩) (Kd.R_far (p := ⟨gb421, 1, none⟩) (Kd.R_far (p := ⟨gb421, 0, none⟩) (Kd.R_types HO413.out BK421.out (by decide)) (fun _ hk => hk.2) (.string t416)) (fun _ hk => hk.2) (.slice Ao61 t417.length co61)) (fun _ hk => hk.2) (.bool t420)) (fun _ h_ => h_.1)))); (case side4 => exact (Kd.R_reads' HO413.out).2.1); rintro e w' ⟨rfl, ⟨nd, rfl⟩⟩))
                    go_ret
                    exact ⟨by first | rfl | (simp [errW_none, errW_some] <;> rfl) | (simp [*, errW_none, errW_some] <;> rfl), by repeat (first | (with_reducible first | exact HB.out | apply below_alloc | apply pw_below_drewN | apply below_drew1 | refine below_set ?_ GE399.out | refine below_set ?_ GE415.out | refine below_set ?_ GE421.out) | exact HB.out)⟩
                  · rw [if_neg c48] at H
                    have c48b0 : (x400000_1.toList == t410.toList) = false := beq_eq_false_iff_ne.mpr c48
                    have c48b1 : (x400000_1.toList != t410.toList) = true := bne_iff_ne.mpr c48
                    exact absurd (hrt.symm.trans (Option.some.inj H).symm) (by decide)
                · rw [if_neg c47] at H
                  have c47b0 : (x400002_1 == t414) = false := by simpa using c47
                  (try (have c47b1 : decide (x400002_1 = t414) = false := by simpa using c47))
                  (try (have c47b2 : (x400002_1 == t414) = false := by simpa using c47))
                  (try (have c47b3 : ¬ (x400002_1 = t414) := by simpa using c47))
                  clear c47
                  exact absurd (hrt.symm.trans (Option.some.inj H).symm) (by decide)
            · rw [if_neg c31] at H
              have c31b0 : ((t411.length : Int) == (t417.length : Int)) = false := beq_eq_false_iff_ne.mpr c31
              have c31b1 : ((t411.length : Int) != (t417.length : Int)) = true := bne_iff_ne.mpr c31
              have c31b2 : (t411.length == t417.length) = false := by first | simpa using c31 | (simp at c31 ⊢; omega)
              exact absurd (hrt.symm.trans (Option.some.inj H).symm) (by decide)
          · rw [if_neg c30] at H
            have c30b0 : (x6_1.toList == (strOfNums t390).toList) = false := beq_eq_false_iff_ne.mpr c30
            have c30b1 : (x6_1.toList != (strOfNums t390).toList) = true := bne_iff_ne.mpr c30
            exact absurd (hrt.symm.trans (Option.some.inj H).symm) (by decide)

/-- THE ONE PURE STATEMENT of laws_FnPieces: yours. -/
def laws_FnPieces.Pure : Prop := ∀ (l0 : List Int), l0.length ≤ maxLen → l0.length * 1 ≤ 140737488351232 → (∀ x ∈ l0, (Lit.int .u8 x).wf = true) → ∃ k, laws_FnPieces.f k l0 = some true
theorem laws_FnPieces.walk (P : laws_FnPieces.Pure) (a0 : Option Addr) (len0 cap0 : Nat) (z0 : List Int) (w : World) (w0 : (a0 = none ∧ len0 = 0 ∧ cap0 = 0 ∧ z0 = []) ∨ ∃ x, a0 = some x ∧ len0 ≤ cap0 ∧ cap0 ≤ maxLen ∧ z0.length = cap0 ∧ (∀ i, i < z0.length → w.cell? (x.add i) = some (.int .u8 (z0.getD i 0))) ∧ ∀ n ∈ z0, (Lit.int .u8 n).wf = true) (y0 : len0 * 1 ≤ 140737488351232) :
    Calls Try.prog 11 #[.slice a0 len0 cap0] w fun e w' => e = .returned (.bool true) ∧ Below w.heap.size w w' := by
  obtain ⟨l0, rfl, hr0, hm0, hw0, hc0⟩ := ReadsInt.ofRowC w0
  obtain ⟨k, h⟩ := P l0 hm0 y0 hw0
  refine (laws_FnPieces.calls k _ _ l0 true rfl w (Kd.C_of_reads (d := (0 : Int)) (h1 := fun _ => rfl) hr0) hc0 h).mono ?_
  rintro e w' ⟨rfl, hd⟩
  exact ⟨rfl, hd⟩

end Go.Proofs.Ytbiaakkmmkddfaa.PFnPieces
