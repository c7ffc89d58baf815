-- PRINTED by print.py (a twelfth state) out of the translation. Not trusted: Lean checks it.
import Derived.Test.YtphlmaaplaaopaaPFnExactTalkStartx0
import Derived.Test.YtphlmaaplaaopaaPFnExactTalkStartx3
namespace Go.Proofs.Ytphlmaaplaaopaa.PFnExactTalkStart
open Go.RowKit Go.Proofs.YtphlmaaplaaopaaW.PrintWords Go.Proofs.YtphlmaaplaaopaaW.PrintLast Go.Proofs.YtphlmaaplaaopaaW.PrintMore
attribute [local go_sem] max2_int min2_int max_two min_two max_three min_three max_four min_four   -- for this text's walks alone
set_option linter.unusedVariables false
set_option linter.unusedSimpArgs false
open Go.Proofs.YtphlmaaplaaopaaW
theorem q4_1 {p : Prop} (h : p := by first | (simp only [putAll, Act.put, List.setIfInBounds_toArray, List.set_cons_zero, List.set_cons_succ]; done) | (simp only [putAll, Act.put, List.setIfInBounds_toArray, List.set_cons_zero, List.set_cons_succ]; rfl)) : p := h
theorem q4_2 {p : Prop} (h : p := by repeat (first | (with_reducible first | exact HB.out | apply below_alloc | apply pw_below_drewN | apply below_drew1 | refine below_set ?_ GE127.out) | exact HB.out)) : p := h
theorem q4_3 {p : Prop} (h : p := by first | exact Kd.S_nil _ _ _ _ _ | exact Kd.N_nil _ _ _ _ _ | exact Kd.V_nil _ _ _ _ _ | exact Kd.Q_nil _ _ _ _ _ | exact Kd.R_nil _ _ _ _ _) : p := h
theorem q4_4 {p : Prop} (h : p := by first | exact Kd.R_nil _ _ _ _ _ | exact Kd.N_nil _ _ _ _ _ | exact Kd.V_nil _ _ _ _ _ | exact Kd.Q_nil _ _ _ _ _ | exact Kd.S_nil _ _ _ _ _) : p := h
theorem q4_5 {p : Prop} (h : p := by (try simp only [List.map_toArray, List.map_cons, List.map_nil]); first | done | rfl | (simp only [List.length_drop, List.length_take]; rfl)) : p := h
theorem q4_6 {p : Prop} (h : p := by (with_reducible repeat (first | apply Kd.R_alloc | apply Kd.R_drewN | apply Kd.R_drew)); exact Kd.R_mono HO139.out (fun _ hk => hk.2)) : p := h
theorem q4_7 {p : Prop} (h : p := by (with_reducible repeat (first | apply Kd.R_alloc | apply Kd.R_drewN | apply Kd.R_drew)); exact Kd.R_mono HO133.out (fun _ hk => hk.2)) : p := h
theorem q4_8 {p : Prop} (h : p := by repeat (first | (with_reducible first | exact HB.out | apply below_alloc | apply pw_below_drewN | apply below_drew1) | exact HB.out)) : p := h
theorem q4_9 {p : Prop} (h : p := by (with_reducible repeat (first | refine blk_drewN ?_ _ | refine blk_drew ?_ | refine blk_alloc ?_ _)); exact BK127.out) : p := h
theorem q4_10 {p : Prop} (h : p := by (with_reducible repeat (first | apply Kd.R_alloc | apply Kd.R_drewN | apply Kd.R_drew)); exact HO142.out) : p := h
theorem q4_11 {p : Prop} (h : p := by (with_reducible repeat (first | apply Kd.R_alloc | apply Kd.R_drewN | apply Kd.R_drew)); exact HO139.out) : p := h
theorem q4_12 {p : Prop} (h : p := by (with_reducible repeat (first | apply Kd.R_alloc | apply Kd.R_drewN | apply Kd.R_drew)); exact HO136.out) : p := h
theorem q4_13 {p : Prop} (h : p := by (with_reducible repeat (first | apply Kd.R_alloc | apply Kd.R_drewN | apply Kd.R_drew)); exact HO133.out) : p := h
theorem q4_14 {p : Prop} (h : p := by first | (with_reducible assumption) | assumption) : p := h

/-! ### impl_TalkStart: function 15 -/
def impl_TalkStart.j0 : Nat → Int → Int → List ByteArray → List ByteArray → Int → Bool → Option (Int × Int × List ByteArray × List ByteArray × Int × List Int × (List (S34)) × (List (S34)) × List ByteArray × List Bool × Int × Int × Int × Bool)
  | 0, _, _, _, _, _, _ => none
  | k + 1, x0, x1, x2, x3, x10, x35 => if x35 = true then (some (0, 0, ([] : List ByteArray), ([] : List ByteArray), 0, ([] : List Int), ([] : List (S34)), ([] : List (S34)), ([] : List ByteArray), ([] : List Bool), 0, 0, 0, false)) else ((slices_Clone_string_string.f x2).bind fun t131 => ((slices_Clone_string_string.f x3).bind fun t134 => (if 0 ≤ x10 then (if (x10 : Int).toNat ≤ 17592186044416 then (if (x10 : Int).toNat ≤ 281474976710656 then (some (x0, x1, t131, t134, 0, ([] : List Int), ([] : List (S34)), ([] : List (S34)), (List.replicate (x10 : Int).toNat (⟨#[]⟩ : ByteArray)), (List.replicate (x10 : Int).toNat false), 0, 0, 0, true)) else (none)) else (none)) else (none))))
def impl_TalkStart.f (k : Nat) (a0 : Int) (a1 : Int) (l2 : List ByteArray) (l3 : List ByteArray) : Option (Int × Int × List ByteArray × List ByteArray × Int × List Int × (List (S34)) × (List (S34)) × List ByteArray × List Bool × Int × Int × Int × Bool) := (impl_within.f a1 1 50).bind fun t128 => (if t128 = true then (if (l3.length : Int) = (l2.length : Int) then (if (l2.length : Int) > 1000 then (impl_TalkStart.j0 k a0 a1 l2 l3 (l2.length : Int) true) else ((impl_areTexts.f l2).bind fun t129 => (if t129 = true then ((impl_areTexts.f l3).bind fun t130 => (impl_TalkStart.j0 k a0 a1 l2 l3 (l2.length : Int) (!t130))) else (impl_TalkStart.j0 k a0 a1 l2 l3 (l2.length : Int) true)))) else (impl_TalkStart.j0 k a0 a1 l2 l3 (l2.length : Int) true)) else (impl_TalkStart.j0 k a0 a1 l2 l3 (l2.length : Int) true))
theorem impl_TalkStart.mono_l : ∀ k, (∀ y0 y1 y2 y3 y4 y5, LeO (impl_TalkStart.j0 k y0 y1 y2 y3 y4 y5) (impl_TalkStart.j0 (k + 1) y0 y1 y2 y3 y4 y5))
  | 0 => fun _ _ _ _ _ _ r h => by simp [impl_TalkStart.j0] at h
  | k + 1 => by
    have ih0 := impl_TalkStart.mono_l k
    · intro y0 y1 y2 y3 y4 y5
      unfold impl_TalkStart.j0
      repeat' first
      | (with_reducible exact ih0 _ _ _ _ _ _)
      | (with_reducible exact LeO.refl _)
      | (with_reducible exact LeO.none _)
      | (with_reducible refine LeO.ite ?_ ?_)
      | (with_reducible refine LeO.bind ?_ (fun _ => ?_))
      | exact ih0 _ _ _ _ _ _
      | exact LeO.none _
      | refine LeO.ite ?_ ?_
      | refine LeO.bind ?_ (fun _ => ?_)
theorem impl_TalkStart.mono : ∀ a0 a1 a2 a3 k, LeO (impl_TalkStart.f k a0 a1 a2 a3) (impl_TalkStart.f (k + 1) a0 a1 a2 a3) := by
  intro a0 a1 a2 a3 k
  have ih0 := impl_TalkStart.mono_l k
  unfold impl_TalkStart.f
  repeat' first
      | (with_reducible exact ih0 _ _ _ _ _ _)
      | (with_reducible exact LeO.refl _)
      | (with_reducible exact LeO.none _)
      | (with_reducible refine LeO.ite ?_ ?_)
      | (with_reducible refine LeO.bind ?_ (fun _ => ?_))
      | exact ih0 _ _ _ _ _ _
      | exact LeO.none _
      | refine LeO.ite ?_ ?_
      | refine LeO.bind ?_ (fun _ => ?_)
def impl_TalkStart.T4 : Bool × List (List Nat × List Nat) := (true, [([], []), ([], []), ([], []), ([2], [2]), ([], []), ([4, 3], [4]), ([], []), ([6, 6], [6]), ([], []), ([8, 8], [8]), ([0, 1, 3, 5, 7, 9], [0, 1, 3, 5, 7, 9]), ([10, 5, 0, 1, 2, 3, 4, 5, 6, 7, 8, 9, 10], [10]), ([11, 0, 1, 2, 3, 4, 5, 6, 7, 8, 9, 10, 11], [])])
def impl_TalkStart.B4 : List Nat := [0, 0, 0, 4, 0, 28, 0, 64, 0, 256, 1023, 2047, 4095]
theorem impl_TalkStart.tab4 : rtab .any (opsOf Try.f15 4) = impl_TalkStart.T4 := by kernel_rfl
theorem impl_TalkStart.bits4 : waitsOk impl_TalkStart.T4.2 impl_TalkStart.B4 = true := by kernel_rfl
set_option maxHeartbeats 8000000 in
set_option maxRecDepth 100000 in
theorem impl_TalkStart.calls (k : Nat) (a0 : Int) (a1 : Int) (A2 : Option Addr) (c2 : Nat) (l2 : List ByteArray) (A3 : Option Addr) (c3 : Nat) (l3 : List ByteArray) (r1 : Int) (r2 : Int) (r3 : List ByteArray) (r4 : List ByteArray) (r5 : Int) (r6 : List Int) (r7 : List (S34)) (r8 : List (S34)) (r9 : List ByteArray) (r10 : List Bool) (r11 : Int) (r12 : Int) (r13 : Int) (r14 : Bool) (w : World) (hr2 : Kd.C Kd.string w A2 l2.length l2) (hc2 : l2.length ≤ c2) (hr3 : Kd.C Kd.string w A3 l3.length l3) (hc3 : l3.length ≤ c3) (h : impl_TalkStart.f k a0 a1 l2 l3 = some (r1, r2, r3, r4, r5, r6, r7, r8, r9, r10, r11, r12, r13, r14)) :
    Calls Try.prog 15 #[.int .u32 a0, .int .i64 a1, .slice A2 l2.length c2, .slice A3 l3.length c3] w fun e w' => ∃ v2_ v3_ v5_ v6_ v7_ v8_ v9_ : Value, e = .returned (.tuple #[.agg #[.int .u32 r1, .int .i64 r2, v2_, v3_, .int .i64 r5, v5_, v6_, v7_, v8_, v9_, .int .i64 r11, .int .i64 r12, .int .i64 r13], .bool r14]) ∧ Kd.R Kd.string 9 w' w.heap.size (fun k_ => some k_ ≠ (v3_ : Value).ownBlock ∧ some k_ ≠ (v8_ : Value).ownBlock) v2_ r3 ∧ Kd.R Kd.string 9 w' w.heap.size (fun k_ => some k_ ≠ (v2_ : Value).ownBlock ∧ some k_ ≠ (v8_ : Value).ownBlock) v3_ r4 ∧ Kd.R (Kd.int .i64) 3 w' w.heap.size (fun _ => True) v5_ r6 ∧ Kd.S k34 34 w' w.heap.size (fun k_ => some k_ ≠ (v2_ : Value).ownBlock ∧ some k_ ≠ (v3_ : Value).ownBlock ∧ some k_ ≠ (v7_ : Value).ownBlock ∧ some k_ ≠ (v8_ : Value).ownBlock) v6_ r7 ∧ Kd.S k34 34 w' w.heap.size (fun k_ => some k_ ≠ (v2_ : Value).ownBlock ∧ some k_ ≠ (v3_ : Value).ownBlock ∧ some k_ ≠ (v6_ : Value).ownBlock ∧ some k_ ≠ (v8_ : Value).ownBlock) v7_ r8 ∧ Kd.R Kd.string 9 w' w.heap.size (fun k_ => some k_ ≠ (v2_ : Value).ownBlock ∧ some k_ ≠ (v3_ : Value).ownBlock) v8_ r9 ∧ Kd.R Kd.bool 4 w' w.heap.size (fun _ => True) v9_ r10 ∧ Below w.heap.size w w' := by
  have hu44 := Try.underlying44
  have HR2 := Aside0.mk hr2
  have HC2 := Aside0.mk hc2
  clear hr2 hc2
  have HR3 := Aside0.mk hr3
  have HC3 := Aside0.mk hc3
  clear hr3 hc3
  have HB := Aside0.mk (Below.refl w.heap.size w)
  have H : ((impl_within.f a1 1 50).bind fun t128 => (if t128 = true then (if (l3.length : Int) = (l2.length : Int) then (if (l2.length : Int) > 1000 then (impl_TalkStart.j0 k a0 a1 l2 l3 (l2.length : Int) true) else ((impl_areTexts.f l2).bind fun t129 => (if t129 = true then ((impl_areTexts.f l3).bind fun t130 => (impl_TalkStart.j0 k a0 a1 l2 l3 (l2.length : Int) (!t130))) else (impl_TalkStart.j0 k a0 a1 l2 l3 (l2.length : Int) true)))) else (impl_TalkStart.j0 k a0 a1 l2 l3 (l2.length : Int) true)) else (impl_TalkStart.j0 k a0 a1 l2 l3 (l2.length : Int) true))) = some (r1, r2, r3, r4, r5, r6, r7, r8, r9, r10, r11, r12, r13, r14) := h
  clear h
  have HC5 := Aside0.mk H
  clear H
  go_enter Try.func15, Try.ntmps15
  go_upto_region 2 with (first | ((with_reducible refine gate_dst (N := 8) rfl ?_); (try (refine gate_guard (by rfl) ?_; dsimp only)); refine box_event ?hg (N := 8) ?hd (cs := #[.int .u32 0, .int .i64 0, .slice none 0 0, .slice none 0 0, .int .i64 0, .slice none 0 0, .slice none 0 0, .slice none 0 0, .slice none 0 0, .slice none 0 0, .int .i64 0, .int .i64 0, .int .i64 0]) (t := 44) ?hr ?_; (case hd => rfl); (case hg => rfl); (case hr => first | (go_simp; done) | (go_simp; rfl)); intro gb127 hg w6 hbox hb; have n0_ := Aside0.mk (below_step (q4_8) hb); have n1_ := Aside0.mk (hbox); have n2_ := Aside0.mk ((by rw [hg]; exact (below_size (q4_8)) : w.heap.size ≤ gb127)); have n3_ := Aside0.mk ((by rw [hg]; exact (below_size (q4_8)) : w.heap.size ≤ gb127)); clear HB; have HB := n0_; have BK127 := n1_; have GW127 := n2_; have GE127 := n3_; clear n0_ n1_ n2_ n3_; clear hb hbox hg))
  (try simp only [Act.put, List.setIfInBounds_toArray, List.set_cons_zero, List.set_cons_succ])
  go_cut [35] (fun v35 wc => ∃ (kq : Nat) (x35_4 : Bool), v35 = .bool x35_4 ∧ Aside0 (impl_TalkStart.j0 kq a0 a1 l2 l3 (l2.length : Int) x35_4 = some (r1, r2, r3, r4, r5, r6, r7, r8, r9, r10, r11, r12, r13, r14)) ∧ Aside0 (kq ≤ k) ∧ Aside0 (wc.heap[gb127]? = some (.cells #[.int .u32 0, .int .i64 0, (.slice none 0 0), (.slice none 0 0), .int .i64 0, (.slice none 0 0), (.slice none 0 0), (.slice none 0 0), (.slice none 0 0), (.slice none 0 0), .int .i64 0, .int .i64 0, .int .i64 0] 44 (0, 0))) ∧ Aside0 (Below w.heap.size w wc))
  case first =>
    have H := HC5.out
    clear HC5
    replace H := Option.bind_eq_some_iff.mp H
    obtain ⟨t128, A70, H⟩ := H
    try dsimp only at H
    have A7 := Aside0.mk A70
    clear A70
    by_cases c8 : t128 = true
    · subst c8
      have H1 : (if (l3.length : Int) = (l2.length : Int) then (if (l2.length : Int) > 1000 then (impl_TalkStart.j0 k a0 a1 l2 l3 (l2.length : Int) true) else ((impl_areTexts.f l2).bind fun t129 => (if t129 = true then ((impl_areTexts.f l3).bind fun t130 => (impl_TalkStart.j0 k a0 a1 l2 l3 (l2.length : Int) (!t130))) else (impl_TalkStart.j0 k a0 a1 l2 l3 (l2.length : Int) true)))) else (impl_TalkStart.j0 k a0 a1 l2 l3 (l2.length : Int) true)) = some (r1, r2, r3, r4, r5, r6, r7, r8, r9, r10, r11, r12, r13, r14) := by rw [if_pos rfl] at H; exact H
      clear H
      have H := H1
      clear H1
      by_cases c9 : (l3.length : Int) = (l2.length : Int)
      · rw [if_pos c9] at H
        have c9b0 : ((l3.length : Int) == (l2.length : Int)) = true := beq_iff_eq.mpr c9
        have c9b1 : ((l3.length : Int) != (l2.length : Int)) = false := bne_eq_false_iff_eq.mpr c9
        have c9b2 : (l3.length == l2.length) = true := by first | simpa using c9 | (simp at c9 ⊢; omega)
        clear c9
        (first | rw [c9b0] | (simp only [i64_w, i32_w]; rw [c9b0]) | skip)
        by_cases c10 : (l2.length : Int) > 1000
        · rw [if_pos c10] at H
          have c10b0 : decide (1000 < (l2.length : Int)) = true := decide_eq_true c10
          have c10b1 : decide (1000 < l2.length) = true := decide_eq_true (by omega)
          clear c10
          have H' := Aside0.mk H
          clear H
          go_wp2_with (first | ((with_reducible refine gate_callee (f := 39) rfl ?_); refine goesL_ (some 14) rfl rfl Try.func39 (by kernel_rfl) rfl #[.int .i64 a1, .int .i64 1, .int .i64 50] rfl (q4_5) ?_; (with_reducible refine (impl_within.calls a1 1 50 true _ A7.out).mono ?_); rintro e w' ⟨rfl, ⟨nd, rfl⟩⟩; refine ⟨_, rfl, ?_⟩))
          go_meet
          case rel => exact ⟨_, (true), (by first | rfl | (simp; done) | (simp [*]; done)), H', ⟨by first | omega | exact Nat.le_refl _⟩, ⟨q4_9⟩, ⟨q4_2⟩⟩
        · rw [if_neg c10] at H
          have c10b0 : decide (1000 < (l2.length : Int)) = false := decide_eq_false c10
          have c10b1 : decide (1000 < l2.length) = false := decide_eq_false (by omega)
          clear c10
          replace H := Option.bind_eq_some_iff.mp H
          obtain ⟨t129, A110, H⟩ := H
          try dsimp only at H
          have A11 := Aside0.mk A110
          clear A110
          by_cases c12 : t129 = true
          · subst c12
            have H1 : ((impl_areTexts.f l3).bind fun t130 => (impl_TalkStart.j0 k a0 a1 l2 l3 (l2.length : Int) (!t130))) = some (r1, r2, r3, r4, r5, r6, r7, r8, r9, r10, r11, r12, r13, r14) := by rw [if_pos rfl] at H; exact H
            clear H
            have H := H1
            clear H1
            replace H := Option.bind_eq_some_iff.mp H
            obtain ⟨t130, A130, H⟩ := H
            try dsimp only at H
            have A13 := Aside0.mk A130
            clear A130
            have H' := Aside0.mk H
            clear H
            go_wp2_with (first | ((with_reducible refine gate_callee (f := 39) rfl ?_); refine goesL_ (some 14) rfl rfl Try.func39 (by kernel_rfl) rfl #[.int .i64 a1, .int .i64 1, .int .i64 50] rfl (q4_5) ?_; (with_reducible refine (impl_within.calls a1 1 50 true _ A7.out).mono ?_); rintro e w' ⟨rfl, ⟨nd, rfl⟩⟩; refine ⟨_, rfl, ?_⟩) | (go_at_call 45; (with_reducible refine (impl_areTexts.calls _ _ l2 true _ ?side1 ?side2 A11.out).mono ?_); (case side1 => repeat (first | exact (Kd.C_below HR2.out (q4_2)) | (with_reducible refine Kd.C_alloc ?_ _) | (with_reducible refine Kd.C_drewN ?_ _) | (with_reducible refine Kd.C_drew ?_))); (case side2 => exact HC2.out); rintro e w14 ⟨rfl, hb⟩; have n0_ := Aside0.mk (blk_below (g := gb127) (o := .cells #[.int .u32 0, .int .i64 0, .slice none 0 0, .slice none 0 0, .int .i64 0, .slice none 0 0, .slice none 0 0, .slice none 0 0, .slice none 0 0, .slice none 0 0, .int .i64 0, .int .i64 0, .int .i64 0] 44 (0, 0)) (q4_9) hb); have n1_ := Aside0.mk (below_step (q4_2) hb); clear BK127; clear HB; have BK127 := n0_; have HB := n1_; clear n0_ n1_; (try clear hb); (try clear hb2); (try clear hk); (try clear hi)) | (go_at_call 45; (with_reducible refine (impl_areTexts.calls _ _ l3 t130 _ ?side1 ?side2 A13.out).mono ?_); (case side1 => repeat (first | exact (Kd.C_below HR3.out HB.out) | (with_reducible refine Kd.C_alloc ?_ _) | (with_reducible refine Kd.C_drewN ?_ _) | (with_reducible refine Kd.C_drew ?_))); (case side2 => exact HC3.out); rintro e w15 ⟨rfl, hb⟩; have n0_ := Aside0.mk (blk_below (g := gb127) (o := .cells #[.int .u32 0, .int .i64 0, .slice none 0 0, .slice none 0 0, .int .i64 0, .slice none 0 0, .slice none 0 0, .slice none 0 0, .slice none 0 0, .slice none 0 0, .int .i64 0, .int .i64 0, .int .i64 0] 44 (0, 0)) (q4_9) hb); have n1_ := Aside0.mk (below_step (q4_2) hb); clear BK127; clear HB; have BK127 := n0_; have HB := n1_; clear n0_ n1_; (try clear hb); (try clear hb2); (try clear hk); (try clear hi)))
            go_meet
            case rel => exact ⟨_, (!t130), (by first | rfl | (simp; done) | (simp [*]; done)), H', ⟨by first | omega | exact Nat.le_refl _⟩, ⟨q4_9⟩, ⟨q4_2⟩⟩
          · replace c12 := Bool.eq_false_iff.mpr c12
            subst c12
            have H1 : (impl_TalkStart.j0 k a0 a1 l2 l3 (l2.length : Int) true) = some (r1, r2, r3, r4, r5, r6, r7, r8, r9, r10, r11, r12, r13, r14) := by rw [if_neg (show ¬ (false = true) by decide)] at H; exact H
            clear H
            have H := H1
            clear H1
            have H' := Aside0.mk H
            clear H
            go_wp2_with (first | ((with_reducible refine gate_callee (f := 39) rfl ?_); refine goesL_ (some 14) rfl rfl Try.func39 (by kernel_rfl) rfl #[.int .i64 a1, .int .i64 1, .int .i64 50] rfl (q4_5) ?_; (with_reducible refine (impl_within.calls a1 1 50 true _ A7.out).mono ?_); rintro e w' ⟨rfl, ⟨nd, rfl⟩⟩; refine ⟨_, rfl, ?_⟩) | (go_at_call 45; (with_reducible refine (impl_areTexts.calls _ _ l2 false _ ?side1 ?side2 A11.out).mono ?_); (case side1 => repeat (first | exact (Kd.C_below HR2.out (q4_2)) | (with_reducible refine Kd.C_alloc ?_ _) | (with_reducible refine Kd.C_drewN ?_ _) | (with_reducible refine Kd.C_drew ?_))); (case side2 => exact HC2.out); rintro e w16 ⟨rfl, hb⟩; have n0_ := Aside0.mk (blk_below (g := gb127) (o := .cells #[.int .u32 0, .int .i64 0, .slice none 0 0, .slice none 0 0, .int .i64 0, .slice none 0 0, .slice none 0 0, .slice none 0 0, .slice none 0 0, .slice none 0 0, .int .i64 0, .int .i64 0, .int .i64 0] 44 (0, 0)) (q4_9) hb); have n1_ := Aside0.mk (below_step (q4_2) hb); clear BK127; clear HB; have BK127 := n0_; have HB := n1_; clear n0_ n1_; (try clear hb); (try clear hb2); (try clear hk); (try clear hi)))
            go_meet
            case rel => exact ⟨_, (true), (by first | rfl | (simp; done) | (simp [*]; done)), H', ⟨by first | omega | exact Nat.le_refl _⟩, ⟨q4_9⟩, ⟨q4_2⟩⟩
      · rw [if_neg c9] at H
        have c9b0 : ((l3.length : Int) == (l2.length : Int)) = false := beq_eq_false_iff_ne.mpr c9
        have c9b1 : ((l3.length : Int) != (l2.length : Int)) = true := bne_iff_ne.mpr c9
        have c9b2 : (l3.length == l2.length) = false := by first | simpa using c9 | (simp at c9 ⊢; omega)
        (first | rw [c9b0] | (simp only [i64_w, i32_w]; rw [c9b0]) | skip)
        have H' := Aside0.mk H
        clear H
        go_wp2_with (first | ((with_reducible refine gate_callee (f := 39) rfl ?_); refine goesL_ (some 14) rfl rfl Try.func39 (by kernel_rfl) rfl #[.int .i64 a1, .int .i64 1, .int .i64 50] rfl (q4_5) ?_; (with_reducible refine (impl_within.calls a1 1 50 true _ A7.out).mono ?_); rintro e w' ⟨rfl, ⟨nd, rfl⟩⟩; refine ⟨_, rfl, ?_⟩))
        go_meet
        case rel => exact ⟨_, (true), (by first | rfl | (simp; done) | (simp [*]; done)), H', ⟨by first | omega | exact Nat.le_refl _⟩, ⟨q4_9⟩, ⟨q4_2⟩⟩
    · replace c8 := Bool.eq_false_iff.mpr c8
      subst c8
      have H1 : (impl_TalkStart.j0 k a0 a1 l2 l3 (l2.length : Int) true) = some (r1, r2, r3, r4, r5, r6, r7, r8, r9, r10, r11, r12, r13, r14) := by rw [if_neg (show ¬ (false = true) by decide)] at H; exact H
      clear H
      have H := H1
      clear H1
      have H' := Aside0.mk H
      clear H
      go_wp2_with (first | ((with_reducible refine gate_callee (f := 39) rfl ?_); refine goesL_ (some 14) rfl rfl Try.func39 (by kernel_rfl) rfl #[.int .i64 a1, .int .i64 1, .int .i64 50] rfl (q4_5) ?_; (with_reducible refine (impl_within.calls a1 1 50 false _ A7.out).mono ?_); rintro e w' ⟨rfl, ⟨nd, rfl⟩⟩; refine ⟨_, rfl, ?_⟩))
      go_meet
      case rel => exact ⟨_, (true), (by first | rfl | (simp; done) | (simp [*]; done)), H', ⟨by first | omega | exact Nat.le_refl _⟩, ⟨q4_9⟩, ⟨q4_2⟩⟩
  case rest =>
    clear HC5
    try clear c1
    try clear c2
    try clear p2
    try clear c3
    try clear c8
    try clear c9
    try clear c9b0
    try clear c9b1
    try clear c9b2
    try clear c10
    try clear c10b0
    try clear c10b1
    try clear c12
    try clear c15
    obtain ⟨kq, x35_4, rfl, HA, HJ4, BK127, HB⟩ := hcut
    cases kq with
    | zero => exact absurd HA.out (by simp [impl_TalkStart.j0])
    | succ kj4 =>
      have H := HA.out
      clear HA
      simp only [impl_TalkStart.j0] at H
      by_cases c17 : x35_4 = true
      · subst c17
        have H1 : (some (0, 0, ([] : List ByteArray), ([] : List ByteArray), 0, ([] : List Int), ([] : List (S34)), ([] : List (S34)), ([] : List ByteArray), ([] : List Bool), 0, 0, 0, false)) = some (r1, r2, r3, r4, r5, r6, r7, r8, r9, r10, r11, r12, r13, r14) := by rw [if_pos rfl] at H; exact H
        clear H
        have H := H1
        clear H1
        simp only [Option.some.injEq, Prod.mk.injEq] at H
        obtain ⟨rfl, rfl, rfl, rfl, rfl, rfl, rfl, rfl, rfl, rfl, rfl, rfl, rfl, rfl⟩ := H
        have hcz18_0 : wc.cell? ⟨gb127, 0, none⟩ = some (.int .u32 0) := (blk_cell BK127.out 0).trans rfl
        have hcz18_1 : wc.cell? ⟨gb127, 1, none⟩ = some (.int .i64 0) := (blk_cell BK127.out 1).trans rfl
        have hcz18_2 : wc.cell? ⟨gb127, 2, none⟩ = some (.slice none 0 0) := (blk_cell BK127.out 2).trans rfl
        have hcz18_3 : wc.cell? ⟨gb127, 3, none⟩ = some (.slice none 0 0) := (blk_cell BK127.out 3).trans rfl
        have hcz18_4 : wc.cell? ⟨gb127, 4, none⟩ = some (.int .i64 0) := (blk_cell BK127.out 4).trans rfl
        have hcz18_5 : wc.cell? ⟨gb127, 5, none⟩ = some (.slice none 0 0) := (blk_cell BK127.out 5).trans rfl
        have hcz18_6 : wc.cell? ⟨gb127, 6, none⟩ = some (.slice none 0 0) := (blk_cell BK127.out 6).trans rfl
        have hcz18_7 : wc.cell? ⟨gb127, 7, none⟩ = some (.slice none 0 0) := (blk_cell BK127.out 7).trans rfl
        have hcz18_8 : wc.cell? ⟨gb127, 8, none⟩ = some (.slice none 0 0) := (blk_cell BK127.out 8).trans rfl
        have hcz18_9 : wc.cell? ⟨gb127, 9, none⟩ = some (.slice none 0 0) := (blk_cell BK127.out 9).trans rfl
        have hcz18_10 : wc.cell? ⟨gb127, 10, none⟩ = some (.int .i64 0) := (blk_cell BK127.out 10).trans rfl
        have hcz18_11 : wc.cell? ⟨gb127, 11, none⟩ = some (.int .i64 0) := (blk_cell BK127.out 11).trans rfl
        have hcz18_12 : wc.cell? ⟨gb127, 12, none⟩ = some (.int .i64 0) := (blk_cell BK127.out 12).trans rfl
        have hfz18_0 := blk_frozen BK127.out 0
        have hfz18_1 := blk_frozen BK127.out 1
        have hfz18_2 := blk_frozen BK127.out 2
        have hfz18_3 := blk_frozen BK127.out 3
        have hfz18_4 := blk_frozen BK127.out 4
        have hfz18_5 := blk_frozen BK127.out 5
        have hfz18_6 := blk_frozen BK127.out 6
        have hfz18_7 := blk_frozen BK127.out 7
        have hfz18_8 := blk_frozen BK127.out 8
        have hfz18_9 := blk_frozen BK127.out 9
        have hfz18_10 := blk_frozen BK127.out 10
        have hfz18_11 := blk_frozen BK127.out 11
        have hfz18_12 := blk_frozen BK127.out 12
        go_wp2
        refine bodyPost_ret (results_ct rfl _ _ gb127 44 #[.int .u32 0, .int .i64 0, .slice none 0 0, .slice none 0 0, .int .i64 0, .slice none 0 0, .slice none 0 0, .slice none 0 0, .slice none 0 0, .slice none 0 0, .int .i64 0, .int .i64 0, .int .i64 0] (0, 0) _ rfl (by (with_reducible repeat (first | refine blk_drewN ?_ _ | refine blk_drew ?_ | refine blk_alloc ?_ _)); refine blk_put (cs := #[.int .u32 0, .int .i64 0, .slice none 0 0, .slice none 0 0, .int .i64 0, .slice none 0 0, .slice none 0 0, .slice none 0 0, .slice none 0 0, .slice none 0 0, .int .i64 0, .int .i64 0, .int .i64 0]) ?_ 12 _ rfl; (with_reducible repeat (first | refine blk_drewN ?_ _ | refine blk_drew ?_ | refine blk_alloc ?_ _)); refine blk_put (cs := #[.int .u32 0, .int .i64 0, .slice none 0 0, .slice none 0 0, .int .i64 0, .slice none 0 0, .slice none 0 0, .slice none 0 0, .slice none 0 0, .slice none 0 0, .int .i64 0, .int .i64 0, .int .i64 0]) ?_ 11 _ rfl; (with_reducible repeat (first | refine blk_drewN ?_ _ | refine blk_drew ?_ | refine blk_alloc ?_ _)); refine blk_put (cs := #[.int .u32 0, .int .i64 0, .slice none 0 0, .slice none 0 0, .int .i64 0, .slice none 0 0, .slice none 0 0, .slice none 0 0, .slice none 0 0, .slice none 0 0, .int .i64 0, .int .i64 0, .int .i64 0]) ?_ 10 _ rfl; (with_reducible repeat (first | refine blk_drewN ?_ _ | refine blk_drew ?_ | refine blk_alloc ?_ _)); refine blk_put (cs := #[.int .u32 0, .int .i64 0, .slice none 0 0, .slice none 0 0, .int .i64 0, .slice none 0 0, .slice none 0 0, .slice none 0 0, .slice none 0 0, .slice none 0 0, .int .i64 0, .int .i64 0, .int .i64 0]) ?_ 9 _ rfl; (with_reducible repeat (first | refine blk_drewN ?_ _ | refine blk_drew ?_ | refine blk_alloc ?_ _)); refine blk_put (cs := #[.int .u32 0, .int .i64 0, .slice none 0 0, .slice none 0 0, .int .i64 0, .slice none 0 0, .slice none 0 0, .slice none 0 0, .slice none 0 0, .slice none 0 0, .int .i64 0, .int .i64 0, .int .i64 0]) ?_ 8 _ rfl; (with_reducible repeat (first | refine blk_drewN ?_ _ | refine blk_drew ?_ | refine blk_alloc ?_ _)); refine blk_put (cs := #[.int .u32 0, .int .i64 0, .slice none 0 0, .slice none 0 0, .int .i64 0, .slice none 0 0, .slice none 0 0, .slice none 0 0, .slice none 0 0, .slice none 0 0, .int .i64 0, .int .i64 0, .int .i64 0]) ?_ 7 _ rfl; (with_reducible repeat (first | refine blk_drewN ?_ _ | refine blk_drew ?_ | refine blk_alloc ?_ _)); refine blk_put (cs := #[.int .u32 0, .int .i64 0, .slice none 0 0, .slice none 0 0, .int .i64 0, .slice none 0 0, .slice none 0 0, .slice none 0 0, .slice none 0 0, .slice none 0 0, .int .i64 0, .int .i64 0, .int .i64 0]) ?_ 6 _ rfl; (with_reducible repeat (first | refine blk_drewN ?_ _ | refine blk_drew ?_ | refine blk_alloc ?_ _)); refine blk_put (cs := #[.int .u32 0, .int .i64 0, .slice none 0 0, .slice none 0 0, .int .i64 0, .slice none 0 0, .slice none 0 0, .slice none 0 0, .slice none 0 0, .slice none 0 0, .int .i64 0, .int .i64 0, .int .i64 0]) ?_ 5 _ rfl; (with_reducible repeat (first | refine blk_drewN ?_ _ | refine blk_drew ?_ | refine blk_alloc ?_ _)); refine blk_put (cs := #[.int .u32 0, .int .i64 0, .slice none 0 0, .slice none 0 0, .int .i64 0, .slice none 0 0, .slice none 0 0, .slice none 0 0, .slice none 0 0, .slice none 0 0, .int .i64 0, .int .i64 0, .int .i64 0]) ?_ 4 _ rfl; (with_reducible repeat (first | refine blk_drewN ?_ _ | refine blk_drew ?_ | refine blk_alloc ?_ _)); refine blk_put (cs := #[.int .u32 0, .int .i64 0, .slice none 0 0, .slice none 0 0, .int .i64 0, .slice none 0 0, .slice none 0 0, .slice none 0 0, .slice none 0 0, .slice none 0 0, .int .i64 0, .int .i64 0, .int .i64 0]) ?_ 3 _ rfl; (with_reducible repeat (first | refine blk_drewN ?_ _ | refine blk_drew ?_ | refine blk_alloc ?_ _)); refine blk_put (cs := #[.int .u32 0, .int .i64 0, .slice none 0 0, .slice none 0 0, .int .i64 0, .slice none 0 0, .slice none 0 0, .slice none 0 0, .slice none 0 0, .slice none 0 0, .int .i64 0, .int .i64 0, .int .i64 0]) ?_ 2 _ rfl; (with_reducible repeat (first | refine blk_drewN ?_ _ | refine blk_drew ?_ | refine blk_alloc ?_ _)); refine blk_put (cs := #[.int .u32 0, .int .i64 0, .slice none 0 0, .slice none 0 0, .int .i64 0, .slice none 0 0, .slice none 0 0, .slice none 0 0, .slice none 0 0, .slice none 0 0, .int .i64 0, .int .i64 0, .int .i64 0]) ?_ 1 _ rfl; (with_reducible repeat (first | refine blk_drewN ?_ _ | refine blk_drew ?_ | refine blk_alloc ?_ _)); refine blk_put (cs := #[.int .u32 0, .int .i64 0, .slice none 0 0, .slice none 0 0, .int .i64 0, .slice none 0 0, .slice none 0 0, .slice none 0 0, .slice none 0 0, .slice none 0 0, .int .i64 0, .int .i64 0, .int .i64 0]) ?_ 0 _ rfl; (with_reducible repeat (first | refine blk_drewN ?_ _ | refine blk_drew ?_ | refine blk_alloc ?_ _)); exact BK127.out) Try.underlying44 rfl (by kernel_rfl)) rfl ?_
        exact ⟨_, _, _, _, _, _, _, by first | rfl | (simp [errW_none, errW_some] <;> rfl) | (simp [*, errW_none, errW_some] <;> rfl), q4_4, q4_4, q4_4, q4_3, q4_3, q4_4, q4_4, q4_2⟩
      · replace c17 := Bool.eq_false_iff.mpr c17
        subst c17
        have H1 : ((slices_Clone_string_string.f l2).bind fun t131 => ((slices_Clone_string_string.f l3).bind fun t134 => (if 0 ≤ (l2.length : Int) then (if ((l2.length : Int) : Int).toNat ≤ 17592186044416 then (if ((l2.length : Int) : Int).toNat ≤ 281474976710656 then (some (a0, a1, t131, t134, 0, ([] : List Int), ([] : List (S34)), ([] : List (S34)), (List.replicate ((l2.length : Int) : Int).toNat (⟨#[]⟩ : ByteArray)), (List.replicate ((l2.length : Int) : Int).toNat false), 0, 0, 0, true)) else (none)) else (none)) else (none)))) = some (r1, r2, r3, r4, r5, r6, r7, r8, r9, r10, r11, r12, r13, r14) := by rw [if_neg (show ¬ (false = true) by decide)] at H; exact H
        clear H
        have H := H1
        clear H1
        replace H := Option.bind_eq_some_iff.mp H
        obtain ⟨t131, A190, H⟩ := H
        try dsimp only at H
        have A19 := Aside0.mk A190
        clear A190
        replace H := Option.bind_eq_some_iff.mp H
        obtain ⟨t134, A200, H⟩ := H
        try dsimp only at H
        have A20 := Aside0.mk A200
        clear A200
        by_cases c21 : 0 ≤ (l2.length : Int)
        · rw [if_pos c21] at H
          have c21b0 := eq_true c21
          have c21b1 : decide (0 ≤ (l2.length : Int)) = true := decide_eq_true c21
          clear c21
          by_cases c22 : ((l2.length : Int) : Int).toNat ≤ 17592186044416
          · rw [if_pos c22] at H
            have c22b0 := eq_true c22
            have c22b1 : decide (((l2.length : Int) : Int).toNat ≤ 17592186044416) = true := decide_eq_true c22
            clear c22
            obtain ⟨y137, hy137⟩ : ∃ y_ : List ByteArray, y_ = (List.replicate ((l2.length : Int) : Int).toNat (⟨#[]⟩ : ByteArray)) := ⟨_, rfl⟩
            replace H : (if ((l2.length : Int) : Int).toNat ≤ 281474976710656 then (some (a0, a1, t131, t134, 0, ([] : List Int), ([] : List (S34)), ([] : List (S34)), y137, (List.replicate ((l2.length : Int) : Int).toNat false), 0, 0, 0, true)) else (none)) = some (r1, r2, r3, r4, r5, r6, r7, r8, r9, r10, r11, r12, r13, r14) := by first | (rw [hy137]; with_reducible exact H) | (have H2_ := (Option.bind_some _ _).symm.trans H; rw [hy137]; with_reducible exact H2_) | (have H2_ := (Option.bind_some _ _).symm.trans H; with_reducible exact H2_) | with_reducible exact H | (rw [hy137]; exact H) | exact H
            have Ny137 := Aside0.mk hy137
            clear hy137
            by_cases c23 : ((l2.length : Int) : Int).toNat ≤ 281474976710656
            · rw [if_pos c23] at H
              have c23b0 := eq_true c23
              have c23b1 : decide (((l2.length : Int) : Int).toNat ≤ 281474976710656) = true := decide_eq_true c23
              clear c23
              obtain ⟨y140, hy140⟩ : ∃ y_ : List Bool, y_ = (List.replicate ((l2.length : Int) : Int).toNat false) := ⟨_, rfl⟩
              replace H : (some (a0, a1, t131, t134, 0, ([] : List Int), ([] : List (S34)), ([] : List (S34)), y137, y140, 0, 0, 0, true)) = some (r1, r2, r3, r4, r5, r6, r7, r8, r9, r10, r11, r12, r13, r14) := by first | (rw [hy140]; with_reducible exact H) | (have H2_ := (Option.bind_some _ _).symm.trans H; rw [hy140]; with_reducible exact H2_) | (have H2_ := (Option.bind_some _ _).symm.trans H; with_reducible exact H2_) | with_reducible exact H | (rw [hy140]; exact H) | exact H
              have Ny140 := Aside0.mk hy140
              clear hy140
              simp only [Option.some.injEq, Prod.mk.injEq] at H
              obtain ⟨rfl, rfl, rfl, rfl, rfl, rfl, rfl, rfl, rfl, rfl, rfl, rfl, rfl, rfl⟩ := H
              try go_wp2
              have n0_ := Aside0.mk (blk_drew BK127.out)
              have n1_ := Aside0.mk (below_drew1 HB.out)
              clear BK127
              clear HB
              have BK127 := n0_
              have HB := n1_
              clear n0_ n1_
              refine start_ (n := 13) (S := fun w' => True) (ds := []) #[false, false, false, false, false, false, false, false, false, false, false, false, false] (by kernel_rfl) rfl rfl trivial (fun hHeld => ?_); refine with_tabW impl_TalkStart.tab4 impl_TalkStart.bits4 (fun HT_ HW_ => ?_)
              generalize wc.drew = w24 at BK127 HB hHeld ⊢
              refine pure_ (i := 0) (N := some 37) (v := ?_) (a' := ?_) #[true, false, false, false, false, false, false, false, false, false, false, false, false] rfl rfl (any_of HT_.out (by kernel_rfl)) (fun _ _ _ h => h) (Or.inl ⟨by rfl, ?_⟩) ?_ ?_
              rotate_left
              · intro w'
                go_simp
                with_reducible rfl
              rotate_left
              · simp only [Act.put, List.setIfInBounds_toArray, List.set_cons_zero, List.set_cons_succ, i64_w, i32_w, u32_w, u64_w]
                rfl
              refine pure_ (i := 1) (N := some 38) (v := ?_) (a' := ?_) #[true, true, false, false, false, false, false, false, false, false, false, false, false] rfl rfl (any_of HT_.out (by kernel_rfl)) (fun _ _ _ h => h) (Or.inl ⟨by rfl, ?_⟩) ?_ ?_
              rotate_left
              · intro w'
                go_simp
                with_reducible rfl
              rotate_left
              · simp only [Act.put, List.setIfInBounds_toArray, List.set_cons_zero, List.set_cons_succ, i64_w, i32_w, u32_w, u64_w]
                rfl
              refine pure_ (i := 2) (N := some 39) (v := ?_) (a' := ?_) #[true, true, true, false, false, false, false, false, false, false, false, false, false] rfl rfl (any_of HT_.out (by kernel_rfl)) (fun _ _ _ h => h) (Or.inl ⟨by rfl, ?_⟩) ?_ ?_
              rotate_left
              · intro w'
                go_simp
                with_reducible rfl
              rotate_left
              · simp only [Act.put, List.setIfInBounds_toArray, List.set_cons_zero, List.set_cons_succ, i64_w, i32_w, u32_w, u64_w]
                rfl
              refine pure_ (i := 4) (N := some 41) (v := ?_) (a' := ?_) #[true, true, true, false, true, false, false, false, false, false, false, false, false] rfl rfl (any_of HT_.out (by kernel_rfl)) (fun _ _ _ h => h) (Or.inl ⟨by rfl, ?_⟩) ?_ ?_
              rotate_left
              · intro w'
                go_simp
                with_reducible rfl
              rotate_left
              · simp only [Act.put, List.setIfInBounds_toArray, List.set_cons_zero, List.set_cons_succ, i64_w, i32_w, u32_w, u64_w]
                rfl
              refine pure_ (i := 6) (N := some 43) (v := ?_) (a' := ?_) #[true, true, true, false, true, false, true, false, false, false, false, false, false] rfl rfl (any_of HT_.out (by kernel_rfl)) (fun _ _ _ h => h) (Or.inl ⟨by rfl, ?_⟩) ?_ ?_
              rotate_left
              · intro w'
                go_simp
                with_reducible rfl
              rotate_left
              · simp only [Act.put, List.setIfInBounds_toArray, List.set_cons_zero, List.set_cons_succ, i64_w, i32_w, u32_w, u64_w]
                rfl
              refine pure_ (i := 8) (N := some 45) (v := ?_) (a' := ?_) #[true, true, true, false, true, false, true, false, true, false, false, false, false] rfl rfl (any_of HT_.out (by kernel_rfl)) (fun _ _ _ h => h) (Or.inl ⟨by rfl, ?_⟩) ?_ ?_
              rotate_left
              · intro w'
                go_simp
                with_reducible rfl
              rotate_left
              · simp only [Act.put, List.setIfInBounds_toArray, List.set_cons_zero, List.set_cons_succ, i64_w, i32_w, u32_w, u64_w]
                rfl
              refine join_ (σ := Value × Value × Value × Value) 3 #[true, true, true, true, true, true, true, true, true, true, false, false, false] (fun s_ => [(40, s_.1), (42, s_.2.1), (44, s_.2.2.1), (46, s_.2.2.2)]) (fun s_ w' => (Kd.R Kd.string 9 w' w.heap.size (fun k_ => some k_ ≠ (s_.2.1 : Value).ownBlock ∧ some k_ ≠ (s_.2.2.1 : Value).ownBlock) s_.1 t131) ∧ (Kd.R Kd.string 9 w' w.heap.size (fun k_ => some k_ ≠ (s_.1 : Value).ownBlock ∧ some k_ ≠ (s_.2.2.1 : Value).ownBlock) s_.2.1 t134) ∧ (Kd.R Kd.string 9 w' w.heap.size (fun k_ => some k_ ≠ (s_.1 : Value).ownBlock ∧ some k_ ≠ (s_.2.1 : Value).ownBlock) s_.2.2.1 y137) ∧ (Kd.R Kd.bool 4 w' w.heap.size (fun _ => True) s_.2.2.2 y140) ∧ (w'.heap[gb127]? = some (.cells #[.int .u32 0, .int .i64 0, .slice none 0 0, .slice none 0 0, .int .i64 0, .slice none 0 0, .slice none 0 0, .slice none 0 0, .slice none 0 0, .slice none 0 0, .int .i64 0, .int .i64 0, .int .i64 0] 44 (0, 0))) ∧ (Below w.heap.size w w')) ?_ ?_
              rotate_left
              · intro hJ3_5_7_9
                refine join_ (σ := Value × Value × Value) 4 #[true, true, true, true, true, true, true, true, true, false, false, false, false] (fun s_ => [(40, s_.1), (42, s_.2.1), (44, s_.2.2)]) (fun s_ w' => (Kd.R Kd.string 9 w' w.heap.size (fun k_ => some k_ ≠ (s_.2.1 : Value).ownBlock ∧ some k_ ≠ (s_.2.2 : Value).ownBlock) s_.1 t131) ∧ (Kd.R Kd.string 9 w' w.heap.size (fun k_ => some k_ ≠ (s_.1 : Value).ownBlock ∧ some k_ ≠ (s_.2.2 : Value).ownBlock) s_.2.1 t134) ∧ (Kd.R Kd.string 9 w' w.heap.size (fun k_ => some k_ ≠ (s_.1 : Value).ownBlock ∧ some k_ ≠ (s_.2.1 : Value).ownBlock) s_.2.2 y137) ∧ (w'.heap[gb127]? = some (.cells #[.int .u32 0, .int .i64 0, .slice none 0 0, .slice none 0 0, .int .i64 0, .slice none 0 0, .slice none 0 0, .slice none 0 0, .slice none 0 0, .slice none 0 0, .int .i64 0, .int .i64 0, .int .i64 0] 44 (0, 0))) ∧ (Below w.heap.size w w')) ?_ ?_
                rotate_left
                · intro hJ3_5_7
                  refine join_ (σ := Value × Value × Value) 4 #[true, true, true, true, true, true, true, false, true, true, false, false, false] (fun s_ => [(40, s_.1), (42, s_.2.1), (46, s_.2.2)]) (fun s_ w' => (Kd.R Kd.string 9 w' w.heap.size (fun k_ => some k_ ≠ (s_.2.1 : Value).ownBlock) s_.1 t131) ∧ (Kd.R Kd.string 9 w' w.heap.size (fun k_ => some k_ ≠ (s_.1 : Value).ownBlock) s_.2.1 t134) ∧ (Kd.R Kd.bool 4 w' w.heap.size (fun _ => True) s_.2.2 y140) ∧ (w'.heap[gb127]? = some (.cells #[.int .u32 0, .int .i64 0, .slice none 0 0, .slice none 0 0, .int .i64 0, .slice none 0 0, .slice none 0 0, .slice none 0 0, .slice none 0 0, .slice none 0 0, .int .i64 0, .int .i64 0, .int .i64 0] 44 (0, 0))) ∧ (Below w.heap.size w w')) ?_ ?_
                  rotate_left
                  · intro hJ3_5_9
                    refine join_ (σ := Value × Value × Value) 4 #[true, true, true, true, true, false, true, true, true, true, false, false, false] (fun s_ => [(40, s_.1), (44, s_.2.1), (46, s_.2.2)]) (fun s_ w' => (Kd.R Kd.string 9 w' w.heap.size (fun k_ => some k_ ≠ (s_.2.1 : Value).ownBlock) s_.1 t131) ∧ (Kd.R Kd.string 9 w' w.heap.size (fun k_ => some k_ ≠ (s_.1 : Value).ownBlock) s_.2.1 y137) ∧ (Kd.R Kd.bool 4 w' w.heap.size (fun _ => True) s_.2.2 y140) ∧ (w'.heap[gb127]? = some (.cells #[.int .u32 0, .int .i64 0, .slice none 0 0, .slice none 0 0, .int .i64 0, .slice none 0 0, .slice none 0 0, .slice none 0 0, .slice none 0 0, .slice none 0 0, .int .i64 0, .int .i64 0, .int .i64 0] 44 (0, 0))) ∧ (Below w.heap.size w w')) ?_ ?_
                    rotate_left
                    · intro hJ3_7_9
                      refine join_ (σ := Value × Value) 5 #[true, true, true, true, true, true, true, false, true, false, false, false, false] (fun s_ => [(40, s_.1), (42, s_.2)]) (fun s_ w' => (Kd.R Kd.string 9 w' w.heap.size (fun k_ => some k_ ≠ (s_.2 : Value).ownBlock) s_.1 t131) ∧ (Kd.R Kd.string 9 w' w.heap.size (fun k_ => some k_ ≠ (s_.1 : Value).ownBlock) s_.2 t134) ∧ (w'.heap[gb127]? = some (.cells #[.int .u32 0, .int .i64 0, .slice none 0 0, .slice none 0 0, .int .i64 0, .slice none 0 0, .slice none 0 0, .slice none 0 0, .slice none 0 0, .slice none 0 0, .int .i64 0, .int .i64 0, .int .i64 0] 44 (0, 0))) ∧ (Below w.heap.size w w')) ?_ ?_
                      rotate_left
                      · intro hJ3_5
                        refine join_ (σ := Value × Value) 5 #[true, true, true, true, true, false, true, true, true, false, false, false, false] (fun s_ => [(40, s_.1), (44, s_.2)]) (fun s_ w' => (Kd.R Kd.string 9 w' w.heap.size (fun k_ => some k_ ≠ (s_.2 : Value).ownBlock) s_.1 t131) ∧ (Kd.R Kd.string 9 w' w.heap.size (fun k_ => some k_ ≠ (s_.1 : Value).ownBlock) s_.2 y137) ∧ (w'.heap[gb127]? = some (.cells #[.int .u32 0, .int .i64 0, .slice none 0 0, .slice none 0 0, .int .i64 0, .slice none 0 0, .slice none 0 0, .slice none 0 0, .slice none 0 0, .slice none 0 0, .int .i64 0, .int .i64 0, .int .i64 0] 44 (0, 0))) ∧ (Below w.heap.size w w')) ?_ ?_
                        rotate_left
                        · intro hJ3_7
                          refine join_ (σ := Value × Value) 5 #[true, true, true, true, true, false, true, false, true, true, false, false, false] (fun s_ => [(40, s_.1), (46, s_.2)]) (fun s_ w' => (Kd.R Kd.string 9 w' w.heap.size (fun _ => True) s_.1 t131) ∧ (Kd.R Kd.bool 4 w' w.heap.size (fun _ => True) s_.2 y140) ∧ (w'.heap[gb127]? = some (.cells #[.int .u32 0, .int .i64 0, .slice none 0 0, .slice none 0 0, .int .i64 0, .slice none 0 0, .slice none 0 0, .slice none 0 0, .slice none 0 0, .slice none 0 0, .int .i64 0, .int .i64 0, .int .i64 0] 44 (0, 0))) ∧ (Below w.heap.size w w')) ?_ ?_
                          rotate_left
                          · intro hJ3_9
                            refine join_ (σ := Value × Value) 5 #[true, true, true, false, true, false, true, true, true, true, false, false, false] (fun s_ => [(44, s_.1), (46, s_.2)]) (fun s_ w' => (Kd.R Kd.string 9 w' w.heap.size (fun _ => True) s_.1 y137) ∧ (Kd.R Kd.bool 4 w' w.heap.size (fun _ => True) s_.2 y140) ∧ (w'.heap[gb127]? = some (.cells #[.int .u32 0, .int .i64 0, .slice none 0 0, .slice none 0 0, .int .i64 0, .slice none 0 0, .slice none 0 0, .slice none 0 0, .slice none 0 0, .slice none 0 0, .int .i64 0, .int .i64 0, .int .i64 0] 44 (0, 0))) ∧ (Below w.heap.size w w')) ?_ ?_
                            rotate_left
                            · intro hJ7_9
                              refine join_ (σ := Value) 6 #[true, true, true, true, true, false, true, false, true, false, false, false, false] (fun s_ => [(40, s_)]) (fun s_ w' => (Kd.R Kd.string 9 w' w.heap.size (fun _ => True) s_ t131) ∧ (w'.heap[gb127]? = some (.cells #[.int .u32 0, .int .i64 0, .slice none 0 0, .slice none 0 0, .int .i64 0, .slice none 0 0, .slice none 0 0, .slice none 0 0, .slice none 0 0, .slice none 0 0, .int .i64 0, .int .i64 0, .int .i64 0] 44 (0, 0))) ∧ (Below w.heap.size w w')) ?_ ?_
                              rotate_left
                              · intro hJ3
                                refine join_ (σ := Value) 6 #[true, true, true, false, true, false, true, true, true, false, false, false, false] (fun s_ => [(44, s_)]) (fun s_ w' => (Kd.R Kd.string 9 w' w.heap.size (fun _ => True) s_ y137) ∧ (w'.heap[gb127]? = some (.cells #[.int .u32 0, .int .i64 0, .slice none 0 0, .slice none 0 0, .int .i64 0, .slice none 0 0, .slice none 0 0, .slice none 0 0, .slice none 0 0, .slice none 0 0, .int .i64 0, .int .i64 0, .int .i64 0] 44 (0, 0))) ∧ (Below w.heap.size w w')) ?_ ?_
                                rotate_left
                                · intro hJ7
                                  refine join_ (σ := Value) 6 #[true, true, true, false, true, false, true, false, true, true, false, false, false] (fun s_ => [(46, s_)]) (fun s_ w' => (Kd.R Kd.bool 4 w' w.heap.size (fun _ => True) s_ y140) ∧ (w'.heap[gb127]? = some (.cells #[.int .u32 0, .int .i64 0, .slice none 0 0, .slice none 0 0, .int .i64 0, .slice none 0 0, .slice none 0 0, .slice none 0 0, .slice none 0 0, .slice none 0 0, .int .i64 0, .int .i64 0, .int .i64 0] 44 (0, 0))) ∧ (Below w.heap.size w w')) ?_ ?_
                                  rotate_left
                                  · intro hJ9
                                    refine three_ (i := 3) (j := 7) (k := 9) (Ni := some 40) (Nj := some 44) (Nk := some 46) #[true, true, true, true, true, false, true, false, true, false, false, false, false] #[true, true, true, false, true, false, true, true, true, false, false, false, false] #[true, true, true, false, true, false, true, false, true, true, false, false, false] rfl rfl rfl rfl rfl rfl (three_of HT_.out (by kernel_rfl)) (by decide) (by decide) (by decide) (fun K hK => ?_) (fun K hK => ?_) (fun K hK => ?_)
                                    · skip
                                      refine goes_ Try.func46 (by kernel_rfl) rfl #[.slice A2 l2.length c2] (by rfl) rfl rfl (q4_5) ?_
                                      with_reducible refine (slices_Clone_string_string.calls _ _ l2 t131 _ ?side1 ?side2 A19.out).mono ?_
                                      (case side1 => repeat (first | exact (Kd.C_below HR2.out HB.out) | (with_reducible refine Kd.C_alloc ?_ _) | (with_reducible refine Kd.C_drewN ?_ _) | (with_reducible refine Kd.C_drew ?_)))
                                      (case side2 => exact HC2.out)
                                      rintro e w25 ⟨v132, rfl, ho0, hb⟩
                                      refine ⟨_, rfl, ?_⟩
                                      have n0_ := Aside0.mk (Kd.R_lower ho0 (below_size (q4_2)))
                                      have n1_ := Aside0.mk (blk_below (g := gb127) (o := .cells #[.int .u32 0, .int .i64 0, .slice none 0 0, .slice none 0 0, .int .i64 0, .slice none 0 0, .slice none 0 0, .slice none 0 0, .slice none 0 0, .slice none 0 0, .int .i64 0, .int .i64 0, .int .i64 0] 44 (0, 0)) (q4_9) hb)
                                      have n2_ := Aside0.mk (below_step (q4_2) hb)
                                      clear BK127
                                      clear HB
                                      have HO133 := n0_
                                      have BK127 := n1_
                                      have HB := n2_
                                      clear n0_ n1_ n2_
                                      (try clear hb)
                                      (try clear hb2)
                                      (try clear hk)
                                      (try clear hi)
                                      (try clear ho0)
                                      refine hK.out _ _ trivial (fun hHeld => ?_)
                                      clear hK K
                                      refine norm_ (a' := ?_) ?_ ?_
                                      rotate_left
                                      · show Act.put _ (some 40) _ = _
                                        simp only [Act.put, List.setIfInBounds_toArray, List.set_cons_zero, List.set_cons_succ, i64_w, i32_w, u32_w, u64_w]
                                        rfl
                                      exact norm_ (q4_1) (hJ3 (v132) _ ⟨(q4_13), (q4_9), (q4_2)⟩)
                                    · skip
                                      refine Kd.R_make_step Kd.string _ 9 (by rfl) (N := 44) rfl 23 _ _ rfl (l2.length : Int) rfl rfl Try.underlying23 (.string ⟨#[]⟩) 16 info9 rfl (by decide) (by omega) (⟨#[]⟩ : ByteArray) (ok := fun _ => True) (okp := fun _ => True) rfl (fun _ hk => hk) trivial (of_decide_eq_true (q4_14)) (Nat.le_trans (Nat.mul_le_mul_right _ (of_decide_eq_true (q4_14) : (l2.length : Int).toNat ≤ 17592186044416)) (by omega)) (Below.refl _ _) (Nat.le_refl _) ?_
                                      intro v138 w25 ho26 hb hg_ hnew_
                                      clear hg_ hnew_
                                      (first | rw [← Ny137.out] at ho26 | (simp only [Int.reduceToNat] at ho26; rw [← Ny137.out] at ho26))
                                      have n0_ := Aside0.mk (Kd.R_lower ho26 (below_size (q4_2)))
                                      have n1_ := Aside0.mk (blk_below (g := gb127) (o := .cells #[.int .u32 0, .int .i64 0, .slice none 0 0, .slice none 0 0, .int .i64 0, .slice none 0 0, .slice none 0 0, .slice none 0 0, .slice none 0 0, .slice none 0 0, .int .i64 0, .int .i64 0, .int .i64 0] 44 (0, 0)) (q4_9) hb)
                                      have n2_ := Aside0.mk (below_step (q4_2) hb)
                                      clear BK127
                                      clear HB
                                      have HO139 := n0_
                                      have BK127 := n1_
                                      have HB := n2_
                                      clear n0_ n1_ n2_
                                      clear hb ho26
                                      refine hK.out _ _ trivial (fun hHeld => ?_)
                                      clear hK K
                                      refine norm_ (a' := ?_) ?_ ?_
                                      rotate_left
                                      · show Act.put _ (some 44) _ = _
                                        simp only [Act.put, List.setIfInBounds_toArray, List.set_cons_zero, List.set_cons_succ, i64_w, i32_w, u32_w, u64_w]
                                        rfl
                                      exact norm_ (q4_1) (hJ7 (v138) _ ⟨(q4_11), (q4_9), (q4_2)⟩)
                                    · skip
                                      refine Kd.R_make_step Kd.bool _ 4 (by rfl) (N := 46) rfl 42 _ _ rfl (l2.length : Int) rfl rfl Try.underlying42 (.bool false) 1 info4 rfl (by decide) (by omega) false (ok := fun _ => True) (okp := fun _ => True) rfl (fun _ hk => hk) trivial (of_decide_eq_true (q4_14)) (Nat.le_trans (Nat.mul_le_mul_right _ (of_decide_eq_true (q4_14) : (l2.length : Int).toNat ≤ 281474976710656)) (by omega)) (Below.refl _ _) (Nat.le_refl _) ?_
                                      intro v141 w25 ho26 hb hg_ hnew_
                                      clear hg_ hnew_
                                      (first | rw [← Ny140.out] at ho26 | (simp only [Int.reduceToNat] at ho26; rw [← Ny140.out] at ho26))
                                      have n0_ := Aside0.mk (Kd.R_lower ho26 (below_size (q4_2)))
                                      have n1_ := Aside0.mk (blk_below (g := gb127) (o := .cells #[.int .u32 0, .int .i64 0, .slice none 0 0, .slice none 0 0, .int .i64 0, .slice none 0 0, .slice none 0 0, .slice none 0 0, .slice none 0 0, .slice none 0 0, .int .i64 0, .int .i64 0, .int .i64 0] 44 (0, 0)) (q4_9) hb)
                                      have n2_ := Aside0.mk (below_step (q4_2) hb)
                                      clear BK127
                                      clear HB
                                      have HO142 := n0_
                                      have BK127 := n1_
                                      have HB := n2_
                                      clear n0_ n1_ n2_
                                      clear hb ho26
                                      refine hK.out _ _ trivial (fun hHeld => ?_)
                                      clear hK K
                                      refine norm_ (a' := ?_) ?_ ?_
                                      rotate_left
                                      · show Act.put _ (some 46) _ = _
                                        simp only [Act.put, List.setIfInBounds_toArray, List.set_cons_zero, List.set_cons_succ, i64_w, i32_w, u32_w, u64_w]
                                        rfl
                                      exact norm_ (q4_1) (hJ9 (v141) _ ⟨(q4_10), (q4_9), (q4_2)⟩)
                                  · skip
                                    rintro v141 w27 ⟨h0_, h1_, h2_⟩
                                    have n0_ : Aside0 (Kd.R Kd.bool 4 w27 w.heap.size (fun _ => True) v141 y140) := ⟨h0_⟩
                                    have n1_ : Aside0 (w27.heap[gb127]? = some (.cells #[.int .u32 0, .int .i64 0, .slice none 0 0, .slice none 0 0, .int .i64 0, .slice none 0 0, .slice none 0 0, .slice none 0 0, .slice none 0 0, .slice none 0 0, .int .i64 0, .int .i64 0, .int .i64 0] 44 (0, 0))) := ⟨h1_⟩
                                    have n2_ : Aside0 (Below w.heap.size w w27) := ⟨h2_⟩
                                    clear BK127
                                    clear HB
                                    clear h0_ h1_ h2_
                                    have HO142 := n0_
                                    have BK127 := n1_
                                    have HB := n2_
                                    clear n0_ n1_ n2_
                                    have hHeld := trivial
                                    refine norm_ (a' := ?_) ?_ ?_
                                    rotate_left
                                    · simp only [putAll, Act.put, List.setIfInBounds_toArray, List.set_cons_zero, List.set_cons_succ]
                                      rfl
                                    refine two_ (i := 3) (j := 7) (Ni := some 40) (Nj := some 44) #[true, true, true, true, true, false, true, false, true, true, false, false, false] #[true, true, true, false, true, false, true, true, true, true, false, false, false] rfl rfl rfl rfl (two_of HT_.out (by kernel_rfl)) (by decide) (by decide) (fun K hK => ?_) (fun K hK => ?_)
                                    · skip
                                      refine goes_ Try.func46 (by kernel_rfl) rfl #[.slice A2 l2.length c2] (by rfl) rfl rfl (q4_5) ?_
                                      with_reducible refine (slices_Clone_string_string.calls _ _ l2 t131 _ ?side1 ?side2 A19.out).mono ?_
                                      (case side1 => repeat (first | exact (Kd.C_below HR2.out HB.out) | (with_reducible refine Kd.C_alloc ?_ _) | (with_reducible refine Kd.C_drewN ?_ _) | (with_reducible refine Kd.C_drew ?_)))
                                      (case side2 => exact HC2.out)
                                      rintro e w28 ⟨v132, rfl, ho0, hb⟩
                                      refine ⟨_, rfl, ?_⟩
                                      have n0_ := Aside0.mk (Kd.R_below (q4_10) hb)
                                      have n1_ := Aside0.mk (Kd.R_lower ho0 (below_size (q4_2)))
                                      have n2_ := Aside0.mk (blk_below (g := gb127) (o := .cells #[.int .u32 0, .int .i64 0, .slice none 0 0, .slice none 0 0, .int .i64 0, .slice none 0 0, .slice none 0 0, .slice none 0 0, .slice none 0 0, .slice none 0 0, .int .i64 0, .int .i64 0, .int .i64 0] 44 (0, 0)) (q4_9) hb)
                                      have n3_ := Aside0.mk (below_step (q4_2) hb)
                                      clear HO142
                                      clear BK127
                                      clear HB
                                      have HO142 := n0_
                                      have HO133 := n1_
                                      have BK127 := n2_
                                      have HB := n3_
                                      clear n0_ n1_ n2_ n3_
                                      (try clear hb)
                                      (try clear hb2)
                                      (try clear hk)
                                      (try clear hi)
                                      (try clear ho0)
                                      refine hK.out _ _ trivial (fun hHeld => ?_)
                                      clear hK K
                                      refine norm_ (a' := ?_) ?_ ?_
                                      rotate_left
                                      · show Act.put _ (some 40) _ = _
                                        simp only [Act.put, List.setIfInBounds_toArray, List.set_cons_zero, List.set_cons_succ, i64_w, i32_w, u32_w, u64_w]
                                        rfl
                                      exact norm_ (q4_1) (hJ3_9 (v132, v141) _ ⟨(q4_13), (q4_10), (q4_9), (q4_2)⟩)
                                    · skip
                                      refine Kd.R_make_step Kd.string _ 9 (by rfl) (N := 44) rfl 23 _ _ rfl (l2.length : Int) rfl rfl Try.underlying23 (.string ⟨#[]⟩) 16 info9 rfl (by decide) (by omega) (⟨#[]⟩ : ByteArray) (ok := fun _ => True) (okp := fun _ => True) rfl (fun _ hk => hk) trivial (of_decide_eq_true (q4_14)) (Nat.le_trans (Nat.mul_le_mul_right _ (of_decide_eq_true (q4_14) : (l2.length : Int).toNat ≤ 17592186044416)) (by omega)) (Below.refl _ _) (Nat.le_refl _) ?_
                                      intro v138 w28 ho29 hb hg_ hnew_
                                      clear hg_ hnew_
                                      (first | rw [← Ny137.out] at ho29 | (simp only [Int.reduceToNat] at ho29; rw [← Ny137.out] at ho29))
                                      have n0_ := Aside0.mk (Kd.R_below (q4_10) hb)
                                      have n1_ := Aside0.mk (Kd.R_lower ho29 (below_size (q4_2)))
                                      have n2_ := Aside0.mk (blk_below (g := gb127) (o := .cells #[.int .u32 0, .int .i64 0, .slice none 0 0, .slice none 0 0, .int .i64 0, .slice none 0 0, .slice none 0 0, .slice none 0 0, .slice none 0 0, .slice none 0 0, .int .i64 0, .int .i64 0, .int .i64 0] 44 (0, 0)) (q4_9) hb)
                                      have n3_ := Aside0.mk (below_step (q4_2) hb)
                                      clear HO142
                                      clear BK127
                                      clear HB
                                      have HO142 := n0_
                                      have HO139 := n1_
                                      have BK127 := n2_
                                      have HB := n3_
                                      clear n0_ n1_ n2_ n3_
                                      clear hb ho29
                                      refine hK.out _ _ trivial (fun hHeld => ?_)
                                      clear hK K
                                      refine norm_ (a' := ?_) ?_ ?_
                                      rotate_left
                                      · show Act.put _ (some 44) _ = _
                                        simp only [Act.put, List.setIfInBounds_toArray, List.set_cons_zero, List.set_cons_succ, i64_w, i32_w, u32_w, u64_w]
                                        rfl
                                      exact norm_ (q4_1) (hJ7_9 (v138, v141) _ ⟨(q4_11), (q4_10), (q4_9), (q4_2)⟩)
                                · skip
                                  rintro v138 w27 ⟨h0_, h1_, h2_⟩
                                  have n0_ : Aside0 (Kd.R Kd.string 9 w27 w.heap.size (fun _ => True) v138 y137) := ⟨h0_⟩
                                  have n1_ : Aside0 (w27.heap[gb127]? = some (.cells #[.int .u32 0, .int .i64 0, .slice none 0 0, .slice none 0 0, .int .i64 0, .slice none 0 0, .slice none 0 0, .slice none 0 0, .slice none 0 0, .slice none 0 0, .int .i64 0, .int .i64 0, .int .i64 0] 44 (0, 0))) := ⟨h1_⟩
                                  have n2_ : Aside0 (Below w.heap.size w w27) := ⟨h2_⟩
                                  clear BK127
                                  clear HB
                                  clear h0_ h1_ h2_
                                  have HO139 := n0_
                                  have BK127 := n1_
                                  have HB := n2_
                                  clear n0_ n1_ n2_
                                  have hHeld := trivial
                                  refine norm_ (a' := ?_) ?_ ?_
                                  rotate_left
                                  · simp only [putAll, Act.put, List.setIfInBounds_toArray, List.set_cons_zero, List.set_cons_succ]
                                    rfl
                                  refine two_ (i := 3) (j := 9) (Ni := some 40) (Nj := some 46) #[true, true, true, true, true, false, true, true, true, false, false, false, false] #[true, true, true, false, true, false, true, true, true, true, false, false, false] rfl rfl rfl rfl (two_of HT_.out (by kernel_rfl)) (by decide) (by decide) (fun K hK => ?_) (fun K hK => ?_)
                                  · skip
                                    refine goes_ Try.func46 (by kernel_rfl) rfl #[.slice A2 l2.length c2] (by rfl) rfl rfl (q4_5) ?_
                                    with_reducible refine (slices_Clone_string_string.calls _ _ l2 t131 _ ?side1 ?side2 A19.out).mono ?_
                                    (case side1 => repeat (first | exact (Kd.C_below HR2.out HB.out) | (with_reducible refine Kd.C_alloc ?_ _) | (with_reducible refine Kd.C_drewN ?_ _) | (with_reducible refine Kd.C_drew ?_)))
                                    (case side2 => exact HC2.out)
                                    rintro e w28 ⟨v132, rfl, ho0, hb⟩
                                    refine ⟨_, rfl, ?_⟩
                                    have n0_ := Aside0.mk (Kd.R_elder' (q4_11) (Kd.R_base ho0) hb)
                                    have n1_ := Aside0.mk (Kd.R_lower (Kd.R_new' ho0 (Kd.R_lt (q4_11))) (below_size (q4_2)))
                                    have n2_ := Aside0.mk (blk_below (g := gb127) (o := .cells #[.int .u32 0, .int .i64 0, .slice none 0 0, .slice none 0 0, .int .i64 0, .slice none 0 0, .slice none 0 0, .slice none 0 0, .slice none 0 0, .slice none 0 0, .int .i64 0, .int .i64 0, .int .i64 0] 44 (0, 0)) (q4_9) hb)
                                    have n3_ := Aside0.mk (below_step (q4_2) hb)
                                    clear HO139
                                    clear BK127
                                    clear HB
                                    have HO139 := n0_
                                    have HO133 := n1_
                                    have BK127 := n2_
                                    have HB := n3_
                                    clear n0_ n1_ n2_ n3_
                                    (try clear hb)
                                    (try clear hb2)
                                    (try clear hk)
                                    (try clear hi)
                                    (try clear ho0)
                                    refine hK.out _ _ trivial (fun hHeld => ?_)
                                    clear hK K
                                    refine norm_ (a' := ?_) ?_ ?_
                                    rotate_left
                                    · show Act.put _ (some 40) _ = _
                                      simp only [Act.put, List.setIfInBounds_toArray, List.set_cons_zero, List.set_cons_succ, i64_w, i32_w, u32_w, u64_w]
                                      rfl
                                    exact norm_ (q4_1) (hJ3_7 (v132, v138) _ ⟨(q4_7), (q4_6), (q4_9), (q4_2)⟩)
                                  · skip
                                    refine Kd.R_make_step Kd.bool _ 4 (by rfl) (N := 46) rfl 42 _ _ rfl (l2.length : Int) rfl rfl Try.underlying42 (.bool false) 1 info4 rfl (by decide) (by omega) false (ok := fun _ => True) (okp := fun _ => True) rfl (fun _ hk => hk) trivial (of_decide_eq_true (q4_14)) (Nat.le_trans (Nat.mul_le_mul_right _ (of_decide_eq_true (q4_14) : (l2.length : Int).toNat ≤ 281474976710656)) (by omega)) (Below.refl _ _) (Nat.le_refl _) ?_
                                    intro v141 w28 ho29 hb hg_ hnew_
                                    clear hg_ hnew_
                                    (first | rw [← Ny140.out] at ho29 | (simp only [Int.reduceToNat] at ho29; rw [← Ny140.out] at ho29))
                                    have n0_ := Aside0.mk (Kd.R_below (q4_11) hb)
                                    have n1_ := Aside0.mk (Kd.R_lower ho29 (below_size (q4_2)))
                                    have n2_ := Aside0.mk (blk_below (g := gb127) (o := .cells #[.int .u32 0, .int .i64 0, .slice none 0 0, .slice none 0 0, .int .i64 0, .slice none 0 0, .slice none 0 0, .slice none 0 0, .slice none 0 0, .slice none 0 0, .int .i64 0, .int .i64 0, .int .i64 0] 44 (0, 0)) (q4_9) hb)
                                    have n3_ := Aside0.mk (below_step (q4_2) hb)
                                    clear HO139
                                    clear BK127
                                    clear HB
                                    have HO139 := n0_
                                    have HO142 := n1_
                                    have BK127 := n2_
                                    have HB := n3_
                                    clear n0_ n1_ n2_ n3_
                                    clear hb ho29
                                    refine hK.out _ _ trivial (fun hHeld => ?_)
                                    clear hK K
                                    refine norm_ (a' := ?_) ?_ ?_
                                    rotate_left
                                    · show Act.put _ (some 46) _ = _
                                      simp only [Act.put, List.setIfInBounds_toArray, List.set_cons_zero, List.set_cons_succ, i64_w, i32_w, u32_w, u64_w]
                                      rfl
                                    exact norm_ (q4_1) (hJ7_9 (v138, v141) _ ⟨(q4_11), (q4_10), (q4_9), (q4_2)⟩)
                              · skip
                                rintro v132 w26 ⟨h0_, h1_, h2_⟩
                                have n0_ : Aside0 (Kd.R Kd.string 9 w26 w.heap.size (fun _ => True) v132 t131) := ⟨h0_⟩
                                have n1_ : Aside0 (w26.heap[gb127]? = some (.cells #[.int .u32 0, .int .i64 0, .slice none 0 0, .slice none 0 0, .int .i64 0, .slice none 0 0, .slice none 0 0, .slice none 0 0, .slice none 0 0, .slice none 0 0, .int .i64 0, .int .i64 0, .int .i64 0] 44 (0, 0))) := ⟨h1_⟩
                                have n2_ : Aside0 (Below w.heap.size w w26) := ⟨h2_⟩
                                clear BK127
                                clear HB
                                clear h0_ h1_ h2_
                                have HO133 := n0_
                                have BK127 := n1_
                                have HB := n2_
                                clear n0_ n1_ n2_
                                have hHeld := trivial
                                refine norm_ (a' := ?_) ?_ ?_
                                rotate_left
                                · simp only [putAll, Act.put, List.setIfInBounds_toArray, List.set_cons_zero, List.set_cons_succ]
                                  rfl
                                refine three_ (i := 5) (j := 7) (k := 9) (Ni := some 42) (Nj := some 44) (Nk := some 46) #[true, true, true, true, true, true, true, false, true, false, false, false, false] #[true, true, true, true, true, false, true, true, true, false, false, false, false] #[true, true, true, true, true, false, true, false, true, true, false, false, false] rfl rfl rfl rfl rfl rfl (three_of HT_.out (by kernel_rfl)) (by decide) (by decide) (by decide) (fun K hK => ?_) (fun K hK => ?_) (fun K hK => ?_)
                                · skip
                                  refine goes_ Try.func46 (by kernel_rfl) rfl #[.slice A3 l3.length c3] (by rfl) rfl rfl (q4_5) ?_
                                  with_reducible refine (slices_Clone_string_string.calls _ _ l3 t134 _ ?side1 ?side2 A20.out).mono ?_
                                  (case side1 => repeat (first | exact (Kd.C_below HR3.out HB.out) | (with_reducible refine Kd.C_alloc ?_ _) | (with_reducible refine Kd.C_drewN ?_ _) | (with_reducible refine Kd.C_drew ?_)))
                                  (case side2 => exact HC3.out)
                                  rintro e w27 ⟨v135, rfl, ho0, hb⟩
                                  refine ⟨_, rfl, ?_⟩
                                  have n0_ := Aside0.mk (Kd.R_elder' (q4_13) (Kd.R_base ho0) hb)
                                  have n1_ := Aside0.mk (Kd.R_lower (Kd.R_new' ho0 (Kd.R_lt (q4_13))) (below_size (q4_2)))
                                  have n2_ := Aside0.mk (blk_below (g := gb127) (o := .cells #[.int .u32 0, .int .i64 0, .slice none 0 0, .slice none 0 0, .int .i64 0, .slice none 0 0, .slice none 0 0, .slice none 0 0, .slice none 0 0, .slice none 0 0, .int .i64 0, .int .i64 0, .int .i64 0] 44 (0, 0)) (q4_9) hb)
                                  have n3_ := Aside0.mk (below_step (q4_2) hb)
                                  clear HO133
                                  clear BK127
                                  clear HB
                                  have HO133 := n0_
                                  have HO136 := n1_
                                  have BK127 := n2_
                                  have HB := n3_
                                  clear n0_ n1_ n2_ n3_
                                  (try clear hb)
                                  (try clear hb2)
                                  (try clear hk)
                                  (try clear hi)
                                  (try clear ho0)
                                  refine hK.out _ _ trivial (fun hHeld => ?_)
                                  clear hK K
                                  refine norm_ (a' := ?_) ?_ ?_
                                  rotate_left
                                  · show Act.put _ (some 42) _ = _
                                    simp only [Act.put, List.setIfInBounds_toArray, List.set_cons_zero, List.set_cons_succ, i64_w, i32_w, u32_w, u64_w]
                                    rfl
                                  exact norm_ (q4_1) (hJ3_5 (v132, v135) _ ⟨(q4_7), (by (with_reducible repeat (first | apply Kd.R_alloc | apply Kd.R_drewN | apply Kd.R_drew)); exact Kd.R_mono HO136.out (fun _ hk => hk.2)), (q4_9), (q4_2)⟩)
                                · skip
                                  refine Kd.R_make_step Kd.string _ 9 (by rfl) (N := 44) rfl 23 _ _ rfl (l2.length : Int) rfl rfl Try.underlying23 (.string ⟨#[]⟩) 16 info9 rfl (by decide) (by omega) (⟨#[]⟩ : ByteArray) (ok := fun _ => True) (okp := fun _ => True) rfl (fun _ hk => hk) trivial (of_decide_eq_true (q4_14)) (Nat.le_trans (Nat.mul_le_mul_right _ (of_decide_eq_true (q4_14) : (l2.length : Int).toNat ≤ 17592186044416)) (by omega)) (Below.refl _ _) (Nat.le_refl _) ?_
                                  intro v138 w27 ho28 hb hg_ hnew_
                                  clear hg_ hnew_
                                  (first | rw [← Ny137.out] at ho28 | (simp only [Int.reduceToNat] at ho28; rw [← Ny137.out] at ho28))
                                  have n0_ := Aside0.mk (Kd.R_elder' (q4_13) (Kd.R_base ho28) hb)
                                  have n1_ := Aside0.mk (Kd.R_lower (Kd.R_new' ho28 (Kd.R_lt (q4_13))) (below_size (q4_2)))
                                  have n2_ := Aside0.mk (blk_below (g := gb127) (o := .cells #[.int .u32 0, .int .i64 0, .slice none 0 0, .slice none 0 0, .int .i64 0, .slice none 0 0, .slice none 0 0, .slice none 0 0, .slice none 0 0, .slice none 0 0, .int .i64 0, .int .i64 0, .int .i64 0] 44 (0, 0)) (q4_9) hb)
                                  have n3_ := Aside0.mk (below_step (q4_2) hb)
                                  clear HO133
                                  clear BK127
                                  clear HB
                                  have HO133 := n0_
                                  have HO139 := n1_
                                  have BK127 := n2_
                                  have HB := n3_
                                  clear n0_ n1_ n2_ n3_
                                  clear hb ho28
                                  refine hK.out _ _ trivial (fun hHeld => ?_)
                                  clear hK K
                                  refine norm_ (a' := ?_) ?_ ?_
                                  rotate_left
                                  · show Act.put _ (some 44) _ = _
                                    simp only [Act.put, List.setIfInBounds_toArray, List.set_cons_zero, List.set_cons_succ, i64_w, i32_w, u32_w, u64_w]
                                    rfl
                                  exact norm_ (q4_1) (hJ3_7 (v132, v138) _ ⟨(q4_7), (q4_6), (q4_9), (q4_2)⟩)
                                · skip
                                  refine Kd.R_make_step Kd.bool _ 4 (by rfl) (N := 46) rfl 42 _ _ rfl (l2.length : Int) rfl rfl Try.underlying42 (.bool false) 1 info4 rfl (by decide) (by omega) false (ok := fun _ => True) (okp := fun _ => True) rfl (fun _ hk => hk) trivial (of_decide_eq_true (q4_14)) (Nat.le_trans (Nat.mul_le_mul_right _ (of_decide_eq_true (q4_14) : (l2.length : Int).toNat ≤ 281474976710656)) (by omega)) (Below.refl _ _) (Nat.le_refl _) ?_
                                  intro v141 w27 ho28 hb hg_ hnew_
                                  clear hg_ hnew_
                                  (first | rw [← Ny140.out] at ho28 | (simp only [Int.reduceToNat] at ho28; rw [← Ny140.out] at ho28))
                                  have n0_ := Aside0.mk (Kd.R_below (q4_13) hb)
                                  have n1_ := Aside0.mk (Kd.R_lower ho28 (below_size (q4_2)))
                                  have n2_ := Aside0.mk (blk_below (g := gb127) (o := .cells #[.int .u32 0, .int .i64 0, .slice none 0 0, .slice none 0 0, .int .i64 0, .slice none 0 0, .slice none 0 0, .slice none 0 0, .slice none 0 0, .slice none 0 0, .int .i64 0, .int .i64 0, .int .i64 0] 44 (0, 0)) (q4_9) hb)
                                  have n3_ := Aside0.mk (below_step (q4_2) hb)
                                  clear HO133
                                  clear BK127
                                  clear HB
                                  have HO133 := n0_
                                  have HO142 := n1_
                                  have BK127 := n2_
                                  have HB := n3_
                                  clear n0_ n1_ n2_ n3_
                                  clear hb ho28
                                  refine hK.out _ _ trivial (fun hHeld => ?_)
                                  clear hK K
                                  refine norm_ (a' := ?_) ?_ ?_
                                  rotate_left
                                  · show Act.put _ (some 46) _ = _
                                    simp only [Act.put, List.setIfInBounds_toArray, List.set_cons_zero, List.set_cons_succ, i64_w, i32_w, u32_w, u64_w]
                                    rfl
                                  exact norm_ (q4_1) (hJ3_9 (v132, v141) _ ⟨(q4_13), (q4_10), (q4_9), (q4_2)⟩)
                            · skip
                              rintro ⟨v138, v141⟩ w29 ⟨h0_, h1_, h2_, h3_⟩
                              have n0_ : Aside0 (Kd.R Kd.string 9 w29 w.heap.size (fun _ => True) v138 y137) := ⟨h0_⟩
                              have n1_ : Aside0 (Kd.R Kd.bool 4 w29 w.heap.size (fun _ => True) v141 y140) := ⟨h1_⟩
                              have n2_ : Aside0 (w29.heap[gb127]? = some (.cells #[.int .u32 0, .int .i64 0, .slice none 0 0, .slice none 0 0, .int .i64 0, .slice none 0 0, .slice none 0 0, .slice none 0 0, .slice none 0 0, .slice none 0 0, .int .i64 0, .int .i64 0, .int .i64 0] 44 (0, 0))) := ⟨h2_⟩
                              have n3_ : Aside0 (Below w.heap.size w w29) := ⟨h3_⟩
                              clear BK127
                              clear HB
                              clear h0_ h1_ h2_ h3_
                              have HO139 := n0_
                              have HO142 := n1_
                              have BK127 := n2_
                              have HB := n3_
                              clear n0_ n1_ n2_ n3_
                              have hHeld := trivial
                              refine norm_ (a' := ?_) ?_ ?_
                              rotate_left
                              · simp only [putAll, Act.put, List.setIfInBounds_toArray, List.set_cons_zero, List.set_cons_succ]
                                rfl
                              refine one_ (i := 3) (N := some 40) #[true, true, true, true, true, false, true, true, true, true, false, false, false] rfl rfl (one_of HT_.out (by kernel_rfl)) (by decide) (fun K hK => ?_)
                              refine goes_ Try.func46 (by kernel_rfl) rfl #[.slice A2 l2.length c2] (by rfl) rfl rfl (q4_5) ?_
                              with_reducible refine (slices_Clone_string_string.calls _ _ l2 t131 _ ?side1 ?side2 A19.out).mono ?_
                              (case side1 => repeat (first | exact (Kd.C_below HR2.out HB.out) | (with_reducible refine Kd.C_alloc ?_ _) | (with_reducible refine Kd.C_drewN ?_ _) | (with_reducible refine Kd.C_drew ?_)))
                              (case side2 => exact HC2.out)
                              rintro e w30 ⟨v132, rfl, ho0, hb⟩
                              refine ⟨_, rfl, ?_⟩
                              have n0_ := Aside0.mk (Kd.R_elder' (q4_11) (Kd.R_base ho0) hb)
                              have n1_ := Aside0.mk (Kd.R_below (q4_10) hb)
                              have n2_ := Aside0.mk (Kd.R_lower (Kd.R_new' ho0 (Kd.R_lt (q4_11))) (below_size (q4_2)))
                              have n3_ := Aside0.mk (blk_below (g := gb127) (o := .cells #[.int .u32 0, .int .i64 0, .slice none 0 0, .slice none 0 0, .int .i64 0, .slice none 0 0, .slice none 0 0, .slice none 0 0, .slice none 0 0, .slice none 0 0, .int .i64 0, .int .i64 0, .int .i64 0] 44 (0, 0)) (q4_9) hb)
                              have n4_ := Aside0.mk (below_step (q4_2) hb)
                              clear HO139
                              clear HO142
                              clear BK127
                              clear HB
                              have HO139 := n0_
                              have HO142 := n1_
                              have HO133 := n2_
                              have BK127 := n3_
                              have HB := n4_
                              clear n0_ n1_ n2_ n3_ n4_
                              (try clear hb)
                              (try clear hb2)
                              (try clear hk)
                              (try clear hi)
                              (try clear ho0)
                              refine hK.out _ _ trivial (fun hHeld => ?_)
                              clear hK K
                              refine norm_ (a' := ?_) ?_ ?_
                              rotate_left
                              · show Act.put _ (some 40) _ = _
                                simp only [Act.put, List.setIfInBounds_toArray, List.set_cons_zero, List.set_cons_succ, i64_w, i32_w, u32_w, u64_w]
                                rfl
                              exact norm_ (q4_1) (hJ3_7_9 (v132, v138, v141) _ ⟨(q4_7), (q4_6), (q4_10), (q4_9), (q4_2)⟩)
                          · skip
                            rintro ⟨v132, v141⟩ w28 ⟨h0_, h1_, h2_, h3_⟩
                            have n0_ : Aside0 (Kd.R Kd.string 9 w28 w.heap.size (fun _ => True) v132 t131) := ⟨h0_⟩
                            have n1_ : Aside0 (Kd.R Kd.bool 4 w28 w.heap.size (fun _ => True) v141 y140) := ⟨h1_⟩
                            have n2_ : Aside0 (w28.heap[gb127]? = some (.cells #[.int .u32 0, .int .i64 0, .slice none 0 0, .slice none 0 0, .int .i64 0, .slice none 0 0, .slice none 0 0, .slice none 0 0, .slice none 0 0, .slice none 0 0, .int .i64 0, .int .i64 0, .int .i64 0] 44 (0, 0))) := ⟨h2_⟩
                            have n3_ : Aside0 (Below w.heap.size w w28) := ⟨h3_⟩
                            clear BK127
                            clear HB
                            clear h0_ h1_ h2_ h3_
                            have HO133 := n0_
                            have HO142 := n1_
                            have BK127 := n2_
                            have HB := n3_
                            clear n0_ n1_ n2_ n3_
                            have hHeld := trivial
                            refine norm_ (a' := ?_) ?_ ?_
                            rotate_left
                            · simp only [putAll, Act.put, List.setIfInBounds_toArray, List.set_cons_zero, List.set_cons_succ]
                              rfl
                            refine two_ (i := 5) (j := 7) (Ni := some 42) (Nj := some 44) #[true, true, true, true, true, true, true, false, true, true, false, false, false] #[true, true, true, true, true, false, true, true, true, true, false, false, false] rfl rfl rfl rfl (two_of HT_.out (by kernel_rfl)) (by decide) (by decide) (fun K hK => ?_) (fun K hK => ?_)
                            · skip
                              refine goes_ Try.func46 (by kernel_rfl) rfl #[.slice A3 l3.length c3] (by rfl) rfl rfl (q4_5) ?_
                              with_reducible refine (slices_Clone_string_string.calls _ _ l3 t134 _ ?side1 ?side2 A20.out).mono ?_
                              (case side1 => repeat (first | exact (Kd.C_below HR3.out HB.out) | (with_reducible refine Kd.C_alloc ?_ _) | (with_reducible refine Kd.C_drewN ?_ _) | (with_reducible refine Kd.C_drew ?_)))
                              (case side2 => exact HC3.out)
                              rintro e w29 ⟨v135, rfl, ho0, hb⟩
                              refine ⟨_, rfl, ?_⟩
                              have n0_ := Aside0.mk (Kd.R_elder' (q4_13) (Kd.R_base ho0) hb)
                              have n1_ := Aside0.mk (Kd.R_below (q4_10) hb)
                              have n2_ := Aside0.mk (Kd.R_lower (Kd.R_new' ho0 (Kd.R_lt (q4_13))) (below_size (q4_2)))
                              have n3_ := Aside0.mk (blk_below (g := gb127) (o := .cells #[.int .u32 0, .int .i64 0, .slice none 0 0, .slice none 0 0, .int .i64 0, .slice none 0 0, .slice none 0 0, .slice none 0 0, .slice none 0 0, .slice none 0 0, .int .i64 0, .int .i64 0, .int .i64 0] 44 (0, 0)) (q4_9) hb)
                              have n4_ := Aside0.mk (below_step (q4_2) hb)
                              clear HO133
                              clear HO142
                              clear BK127
                              clear HB
                              have HO133 := n0_
                              have HO142 := n1_
                              have HO136 := n2_
                              have BK127 := n3_
                              have HB := n4_
                              clear n0_ n1_ n2_ n3_ n4_
                              (try clear hb)
                              (try clear hb2)
                              (try clear hk)
                              (try clear hi)
                              (try clear ho0)
                              refine hK.out _ _ trivial (fun hHeld => ?_)
                              clear hK K
                              refine norm_ (a' := ?_) ?_ ?_
                              rotate_left
                              · show Act.put _ (some 42) _ = _
                                simp only [Act.put, List.setIfInBounds_toArray, List.set_cons_zero, List.set_cons_succ, i64_w, i32_w, u32_w, u64_w]
                                rfl
                              exact norm_ (q4_1) (hJ3_5_9 (v132, v135, v141) _ ⟨(q4_7), (by (with_reducible repeat (first | apply Kd.R_alloc | apply Kd.R_drewN | apply Kd.R_drew)); exact Kd.R_mono HO136.out (fun _ hk => hk.2)), (q4_10), (q4_9), (q4_2)⟩)
                            · skip
                              refine Kd.R_make_step Kd.string _ 9 (by rfl) (N := 44) rfl 23 _ _ rfl (l2.length : Int) rfl rfl Try.underlying23 (.string ⟨#[]⟩) 16 info9 rfl (by decide) (by omega) (⟨#[]⟩ : ByteArray) (ok := fun _ => True) (okp := fun _ => True) rfl (fun _ hk => hk) trivial (of_decide_eq_true (q4_14)) (Nat.le_trans (Nat.mul_le_mul_right _ (of_decide_eq_true (q4_14) : (l2.length : Int).toNat ≤ 17592186044416)) (by omega)) (Below.refl _ _) (Nat.le_refl _) ?_
                              intro v138 w29 ho30 hb hg_ hnew_
                              clear hg_ hnew_
                              (first | rw [← Ny137.out] at ho30 | (simp only [Int.reduceToNat] at ho30; rw [← Ny137.out] at ho30))
                              have n0_ := Aside0.mk (Kd.R_elder' (q4_13) (Kd.R_base ho30) hb)
                              have n1_ := Aside0.mk (Kd.R_below (q4_10) hb)
                              have n2_ := Aside0.mk (Kd.R_lower (Kd.R_new' ho30 (Kd.R_lt (q4_13))) (below_size (q4_2)))
                              have n3_ := Aside0.mk (blk_below (g := gb127) (o := .cells #[.int .u32 0, .int .i64 0, .slice none 0 0, .slice none 0 0, .int .i64 0, .slice none 0 0, .slice none 0 0, .slice none 0 0, .slice none 0 0, .slice none 0 0, .int .i64 0, .int .i64 0, .int .i64 0] 44 (0, 0)) (q4_9) hb)
                              have n4_ := Aside0.mk (below_step (q4_2) hb)
                              clear HO133
                              clear HO142
                              clear BK127
                              clear HB
                              have HO133 := n0_
                              have HO142 := n1_
                              have HO139 := n2_
                              have BK127 := n3_
                              have HB := n4_
                              clear n0_ n1_ n2_ n3_ n4_
                              clear hb ho30
                              refine hK.out _ _ trivial (fun hHeld => ?_)
                              clear hK K
                              refine norm_ (a' := ?_) ?_ ?_
                              rotate_left
                              · show Act.put _ (some 44) _ = _
                                simp only [Act.put, List.setIfInBounds_toArray, List.set_cons_zero, List.set_cons_succ, i64_w, i32_w, u32_w, u64_w]
                                rfl
                              exact norm_ (q4_1) (hJ3_7_9 (v132, v138, v141) _ ⟨(q4_7), (q4_6), (q4_10), (q4_9), (q4_2)⟩)
                        · skip
                          rintro ⟨v132, v138⟩ w28 ⟨h0_, h1_, h2_, h3_⟩
                          have n0_ : Aside0 (Kd.R Kd.string 9 w28 w.heap.size (fun k_ => some k_ ≠ (v138 : Value).ownBlock) v132 t131) := ⟨h0_⟩
                          have n1_ : Aside0 (Kd.R Kd.string 9 w28 w.heap.size (fun k_ => some k_ ≠ (v132 : Value).ownBlock) v138 y137) := ⟨h1_⟩
                          have n2_ : Aside0 (w28.heap[gb127]? = some (.cells #[.int .u32 0, .int .i64 0, .slice none 0 0, .slice none 0 0, .int .i64 0, .slice none 0 0, .slice none 0 0, .slice none 0 0, .slice none 0 0, .slice none 0 0, .int .i64 0, .int .i64 0, .int .i64 0] 44 (0, 0))) := ⟨h2_⟩
                          have n3_ : Aside0 (Below w.heap.size w w28) := ⟨h3_⟩
                          clear BK127
                          clear HB
                          clear h0_ h1_ h2_ h3_
                          have HO133 := n0_
                          have HO139 := n1_
                          have BK127 := n2_
                          have HB := n3_
                          clear n0_ n1_ n2_ n3_
                          have hHeld := trivial
                          refine norm_ (a' := ?_) ?_ ?_
                          rotate_left
                          · simp only [putAll, Act.put, List.setIfInBounds_toArray, List.set_cons_zero, List.set_cons_succ]
                            rfl
                          refine two_ (i := 5) (j := 9) (Ni := some 42) (Nj := some 46) #[true, true, true, true, true, true, true, true, true, false, false, false, false] #[true, true, true, true, true, false, true, true, true, true, false, false, false] rfl rfl rfl rfl (two_of HT_.out (by kernel_rfl)) (by decide) (by decide) (fun K hK => ?_) (fun K hK => ?_)
                          · skip
                            refine goes_ Try.func46 (by kernel_rfl) rfl #[.slice A3 l3.length c3] (by rfl) rfl rfl (q4_5) ?_
                            with_reducible refine (slices_Clone_string_string.calls _ _ l3 t134 _ ?side1 ?side2 A20.out).mono ?_
                            (case side1 => repeat (first | exact (Kd.C_below HR3.out HB.out) | (with_reducible refine Kd.C_alloc ?_ _) | (with_reducible refine Kd.C_drewN ?_ _) | (with_reducible refine Kd.C_drew ?_)))
                            (case side2 => exact HC3.out)
                            rintro e w29 ⟨v135, rfl, ho0, hb⟩
                            refine ⟨_, rfl, ?_⟩
                            have n0_ := Aside0.mk (Kd.R_elder' (q4_13) (Kd.R_base ho0) hb)
                            have n1_ := Aside0.mk (Kd.R_elder' (q4_11) (Kd.R_base ho0) hb)
                            have n2_ := Aside0.mk (Kd.R_lower (Kd.R_new' (Kd.R_new' ho0 (Kd.R_lt (q4_13))) (Kd.R_lt (q4_11))) (below_size (q4_2)))
                            have n3_ := Aside0.mk (blk_below (g := gb127) (o := .cells #[.int .u32 0, .int .i64 0, .slice none 0 0, .slice none 0 0, .int .i64 0, .slice none 0 0, .slice none 0 0, .slice none 0 0, .slice none 0 0, .slice none 0 0, .int .i64 0, .int .i64 0, .int .i64 0] 44 (0, 0)) (q4_9) hb)
                            have n4_ := Aside0.mk (below_step (q4_2) hb)
                            clear HO133
                            clear HO139
                            clear BK127
                            clear HB
                            have HO133 := n0_
                            have HO139 := n1_
                            have HO136 := n2_
                            have BK127 := n3_
                            have HB := n4_
                            clear n0_ n1_ n2_ n3_ n4_
                            (try clear hb)
                            (try clear hb2)
                            (try clear hk)
                            (try clear hi)
                            (try clear ho0)
                            refine hK.out _ _ trivial (fun hHeld => ?_)
                            clear hK K
                            refine norm_ (a' := ?_) ?_ ?_
                            rotate_left
                            · show Act.put _ (some 42) _ = _
                              simp only [Act.put, List.setIfInBounds_toArray, List.set_cons_zero, List.set_cons_succ, i64_w, i32_w, u32_w, u64_w]
                              rfl
                            exact norm_ (q4_1) (hJ3_5_7 (v132, v135, v138) _ ⟨(by (with_reducible repeat (first | apply Kd.R_alloc | apply Kd.R_drewN | apply Kd.R_drew)); exact Kd.R_mono HO133.out (fun _ hk => ⟨hk.2, hk.1⟩)), (by (with_reducible repeat (first | apply Kd.R_alloc | apply Kd.R_drewN | apply Kd.R_drew)); exact Kd.R_mono HO136.out (fun _ hk => ⟨hk.1.2, hk.2⟩)), (q4_11), (q4_9), (q4_2)⟩)
                          · skip
                            refine Kd.R_make_step Kd.bool _ 4 (by rfl) (N := 46) rfl 42 _ _ rfl (l2.length : Int) rfl rfl Try.underlying42 (.bool false) 1 info4 rfl (by decide) (by omega) false (ok := fun _ => True) (okp := fun _ => True) rfl (fun _ hk => hk) trivial (of_decide_eq_true (q4_14)) (Nat.le_trans (Nat.mul_le_mul_right _ (of_decide_eq_true (q4_14) : (l2.length : Int).toNat ≤ 281474976710656)) (by omega)) (Below.refl _ _) (Nat.le_refl _) ?_
                            intro v141 w29 ho30 hb hg_ hnew_
                            clear hg_ hnew_
                            (first | rw [← Ny140.out] at ho30 | (simp only [Int.reduceToNat] at ho30; rw [← Ny140.out] at ho30))
                            have n0_ := Aside0.mk (Kd.R_below (q4_13) hb)
                            have n1_ := Aside0.mk (Kd.R_below (q4_11) hb)
                            have n2_ := Aside0.mk (Kd.R_lower ho30 (below_size (q4_2)))
                            have n3_ := Aside0.mk (blk_below (g := gb127) (o := .cells #[.int .u32 0, .int .i64 0, .slice none 0 0, .slice none 0 0, .int .i64 0, .slice none 0 0, .slice none 0 0, .slice none 0 0, .slice none 0 0, .slice none 0 0, .int .i64 0, .int .i64 0, .int .i64 0] 44 (0, 0)) (q4_9) hb)
                            have n4_ := Aside0.mk (below_step (q4_2) hb)
                            clear HO133
                            clear HO139
                            clear BK127
                            clear HB
                            have HO133 := n0_
                            have HO139 := n1_
                            have HO142 := n2_
                            have BK127 := n3_
                            have HB := n4_
                            clear n0_ n1_ n2_ n3_ n4_
                            clear hb ho30
                            refine hK.out _ _ trivial (fun hHeld => ?_)
                            clear hK K
                            refine norm_ (a' := ?_) ?_ ?_
                            rotate_left
                            · show Act.put _ (some 46) _ = _
                              simp only [Act.put, List.setIfInBounds_toArray, List.set_cons_zero, List.set_cons_succ, i64_w, i32_w, u32_w, u64_w]
                              rfl
                            exact norm_ (q4_1) (hJ3_7_9 (v132, v138, v141) _ ⟨(q4_13), (q4_11), (q4_10), (q4_9), (q4_2)⟩)
                      · skip
                        rintro ⟨v132, v135⟩ w27 ⟨h0_, h1_, h2_, h3_⟩
                        have n0_ : Aside0 (Kd.R Kd.string 9 w27 w.heap.size (fun k_ => some k_ ≠ (v135 : Value).ownBlock) v132 t131) := ⟨h0_⟩
                        have n1_ : Aside0 (Kd.R Kd.string 9 w27 w.heap.size (fun k_ => some k_ ≠ (v132 : Value).ownBlock) v135 t134) := ⟨h1_⟩
                        have n2_ : Aside0 (w27.heap[gb127]? = some (.cells #[.int .u32 0, .int .i64 0, .slice none 0 0, .slice none 0 0, .int .i64 0, .slice none 0 0, .slice none 0 0, .slice none 0 0, .slice none 0 0, .slice none 0 0, .int .i64 0, .int .i64 0, .int .i64 0] 44 (0, 0))) := ⟨h2_⟩
                        have n3_ : Aside0 (Below w.heap.size w w27) := ⟨h3_⟩
                        clear BK127
                        clear HB
                        clear h0_ h1_ h2_ h3_
                        have HO133 := n0_
                        have HO136 := n1_
                        have BK127 := n2_
                        have HB := n3_
                        clear n0_ n1_ n2_ n3_
                        have hHeld := trivial
                        refine norm_ (a' := ?_) ?_ ?_
                        rotate_left
                        · simp only [putAll, Act.put, List.setIfInBounds_toArray, List.set_cons_zero, List.set_cons_succ]
                          rfl
                        refine two_ (i := 7) (j := 9) (Ni := some 44) (Nj := some 46) #[true, true, true, true, true, true, true, true, true, false, false, false, false] #[true, true, true, true, true, true, true, false, true, true, false, false, false] rfl rfl rfl rfl (two_of HT_.out (by kernel_rfl)) (by decide) (by decide) (fun K hK => ?_) (fun K hK => ?_)
                        · skip
                          refine Kd.R_make_step Kd.string _ 9 (by rfl) (N := 44) rfl 23 _ _ rfl (l2.length : Int) rfl rfl Try.underlying23 (.string ⟨#[]⟩) 16 info9 rfl (by decide) (by omega) (⟨#[]⟩ : ByteArray) (ok := fun _ => True) (okp := fun _ => True) rfl (fun _ hk => hk) trivial (of_decide_eq_true (q4_14)) (Nat.le_trans (Nat.mul_le_mul_right _ (of_decide_eq_true (q4_14) : (l2.length : Int).toNat ≤ 17592186044416)) (by omega)) (Below.refl _ _) (Nat.le_refl _) ?_
                          intro v138 w28 ho29 hb hg_ hnew_
                          clear hg_ hnew_
                          (first | rw [← Ny137.out] at ho29 | (simp only [Int.reduceToNat] at ho29; rw [← Ny137.out] at ho29))
                          have n0_ := Aside0.mk (Kd.R_elder' (q4_13) (Kd.R_base ho29) hb)
                          have n1_ := Aside0.mk (Kd.R_elder' (q4_12) (Kd.R_base ho29) hb)
                          have n2_ := Aside0.mk (Kd.R_lower (Kd.R_new' (Kd.R_new' ho29 (Kd.R_lt (q4_13))) (Kd.R_lt (q4_12))) (below_size (q4_2)))
                          have n3_ := Aside0.mk (blk_below (g := gb127) (o := .cells #[.int .u32 0, .int .i64 0, .slice none 0 0, .slice none 0 0, .int .i64 0, .slice none 0 0, .slice none 0 0, .slice none 0 0, .slice none 0 0, .slice none 0 0, .int .i64 0, .int .i64 0, .int .i64 0] 44 (0, 0)) (q4_9) hb)
                          have n4_ := Aside0.mk (below_step (q4_2) hb)
                          clear HO133
                          clear HO136
                          clear BK127
                          clear HB
                          have HO133 := n0_
                          have HO136 := n1_
                          have HO139 := n2_
                          have BK127 := n3_
                          have HB := n4_
                          clear n0_ n1_ n2_ n3_ n4_
                          clear hb ho29
                          refine hK.out _ _ trivial (fun hHeld => ?_)
                          clear hK K
                          refine norm_ (a' := ?_) ?_ ?_
                          rotate_left
                          · show Act.put _ (some 44) _ = _
                            simp only [Act.put, List.setIfInBounds_toArray, List.set_cons_zero, List.set_cons_succ, i64_w, i32_w, u32_w, u64_w]
                            rfl
                          exact norm_ (q4_1) (hJ3_5_7 (v132, v135, v138) _ ⟨(q4_13), (q4_12), (by (with_reducible repeat (first | apply Kd.R_alloc | apply Kd.R_drewN | apply Kd.R_drew)); exact Kd.R_mono HO139.out (fun _ hk => ⟨hk.1.2, hk.2⟩)), (q4_9), (q4_2)⟩)
                        · skip
                          refine Kd.R_make_step Kd.bool _ 4 (by rfl) (N := 46) rfl 42 _ _ rfl (l2.length : Int) rfl rfl Try.underlying42 (.bool false) 1 info4 rfl (by decide) (by omega) false (ok := fun _ => True) (okp := fun _ => True) rfl (fun _ hk => hk) trivial (of_decide_eq_true (q4_14)) (Nat.le_trans (Nat.mul_le_mul_right _ (of_decide_eq_true (q4_14) : (l2.length : Int).toNat ≤ 281474976710656)) (by omega)) (Below.refl _ _) (Nat.le_refl _) ?_
                          intro v141 w28 ho29 hb hg_ hnew_
                          clear hg_ hnew_
                          (first | rw [← Ny140.out] at ho29 | (simp only [Int.reduceToNat] at ho29; rw [← Ny140.out] at ho29))
                          have n0_ := Aside0.mk (Kd.R_below (q4_13) hb)
                          have n1_ := Aside0.mk (Kd.R_below (q4_12) hb)
                          have n2_ := Aside0.mk (Kd.R_lower ho29 (below_size (q4_2)))
                          have n3_ := Aside0.mk (blk_below (g := gb127) (o := .cells #[.int .u32 0, .int .i64 0, .slice none 0 0, .slice none 0 0, .int .i64 0, .slice none 0 0, .slice none 0 0, .slice none 0 0, .slice none 0 0, .slice none 0 0, .int .i64 0, .int .i64 0, .int .i64 0] 44 (0, 0)) (q4_9) hb)
                          have n4_ := Aside0.mk (below_step (q4_2) hb)
                          clear HO133
                          clear HO136
                          clear BK127
                          clear HB
                          have HO133 := n0_
                          have HO136 := n1_
                          have HO142 := n2_
                          have BK127 := n3_
                          have HB := n4_
                          clear n0_ n1_ n2_ n3_ n4_
                          clear hb ho29
                          refine hK.out _ _ trivial (fun hHeld => ?_)
                          clear hK K
                          refine norm_ (a' := ?_) ?_ ?_
                          rotate_left
                          · show Act.put _ (some 46) _ = _
                            simp only [Act.put, List.setIfInBounds_toArray, List.set_cons_zero, List.set_cons_succ, i64_w, i32_w, u32_w, u64_w]
                            rfl
                          exact norm_ (q4_1) (hJ3_5_9 (v132, v135, v141) _ ⟨(q4_13), (q4_12), (q4_10), (q4_9), (q4_2)⟩)
                    · skip
                      rintro ⟨v132, v138, v141⟩ w30 ⟨h0_, h1_, h2_, h3_, h4_⟩
                      have n0_ : Aside0 (Kd.R Kd.string 9 w30 w.heap.size (fun k_ => some k_ ≠ (v138 : Value).ownBlock) v132 t131) := ⟨h0_⟩
                      have n1_ : Aside0 (Kd.R Kd.string 9 w30 w.heap.size (fun k_ => some k_ ≠ (v132 : Value).ownBlock) v138 y137) := ⟨h1_⟩
                      have n2_ : Aside0 (Kd.R Kd.bool 4 w30 w.heap.size (fun _ => True) v141 y140) := ⟨h2_⟩
                      have n3_ : Aside0 (w30.heap[gb127]? = some (.cells #[.int .u32 0, .int .i64 0, .slice none 0 0, .slice none 0 0, .int .i64 0, .slice none 0 0, .slice none 0 0, .slice none 0 0, .slice none 0 0, .slice none 0 0, .int .i64 0, .int .i64 0, .int .i64 0] 44 (0, 0))) := ⟨h3_⟩
                      have n4_ : Aside0 (Below w.heap.size w w30) := ⟨h4_⟩
                      clear BK127
                      clear HB
                      clear h0_ h1_ h2_ h3_ h4_
                      have HO133 := n0_
                      have HO139 := n1_
                      have HO142 := n2_
                      have BK127 := n3_
                      have HB := n4_
                      clear n0_ n1_ n2_ n3_ n4_
                      have hHeld := trivial
                      refine norm_ (a' := ?_) ?_ ?_
                      rotate_left
                      · simp only [putAll, Act.put, List.setIfInBounds_toArray, List.set_cons_zero, List.set_cons_succ]
                        rfl
                      refine one_ (i := 5) (N := some 42) #[true, true, true, true, true, true, true, true, true, true, false, false, false] rfl rfl (one_of HT_.out (by kernel_rfl)) (by decide) (fun K hK => ?_)
                      refine goes_ Try.func46 (by kernel_rfl) rfl #[.slice A3 l3.length c3] (by rfl) rfl rfl (q4_5) ?_
                      with_reducible refine (slices_Clone_string_string.calls _ _ l3 t134 _ ?side1 ?side2 A20.out).mono ?_
                      (case side1 => repeat (first | exact (Kd.C_below HR3.out HB.out) | (with_reducible refine Kd.C_alloc ?_ _) | (with_reducible refine Kd.C_drewN ?_ _) | (with_reducible refine Kd.C_drew ?_)))
                      (case side2 => exact HC3.out)
                      rintro e w31 ⟨v135, rfl, ho0, hb⟩
                      refine ⟨_, rfl, ?_⟩
                      have n0_ := Aside0.mk (Kd.R_elder' (q4_13) (Kd.R_base ho0) hb)
                      have n1_ := Aside0.mk (Kd.R_elder' (q4_11) (Kd.R_base ho0) hb)
                      have n2_ := Aside0.mk (Kd.R_below (q4_10) hb)
                      have n3_ := Aside0.mk (Kd.R_lower (Kd.R_new' (Kd.R_new' ho0 (Kd.R_lt (q4_13))) (Kd.R_lt (q4_11))) (below_size (q4_2)))
                      have n4_ := Aside0.mk (blk_below (g := gb127) (o := .cells #[.int .u32 0, .int .i64 0, .slice none 0 0, .slice none 0 0, .int .i64 0, .slice none 0 0, .slice none 0 0, .slice none 0 0, .slice none 0 0, .slice none 0 0, .int .i64 0, .int .i64 0, .int .i64 0] 44 (0, 0)) (q4_9) hb)
                      have n5_ := Aside0.mk (below_step (q4_2) hb)
                      clear HO133
                      clear HO139
                      clear HO142
                      clear BK127
                      clear HB
                      have HO133 := n0_
                      have HO139 := n1_
                      have HO142 := n2_
                      have HO136 := n3_
                      have BK127 := n4_
                      have HB := n5_
                      clear n0_ n1_ n2_ n3_ n4_ n5_
                      (try clear hb)
                      (try clear hb2)
                      (try clear hk)
                      (try clear hi)
                      (try clear ho0)
                      obtain ⟨Ao32, co32, eo32⟩ := Kd.R_slice HO142.out
                      (first | subst eo32 | (injection eo32 with f1_ f2_ f3_; have f4_ := f1_.symm; have f5_ := f3_.symm; clear f1_ f2_ f3_; subst f4_; subst f5_))
                      obtain ⟨Ao33, co33, eo33⟩ := Kd.R_slice HO139.out
                      (first | subst eo33 | (injection eo33 with f1_ f2_ f3_; have f4_ := f1_.symm; have f5_ := f3_.symm; clear f1_ f2_ f3_; subst f4_; subst f5_))
                      obtain ⟨Ao34, co34, eo34⟩ := Kd.R_slice HO136.out
                      (first | subst eo34 | (injection eo34 with f1_ f2_ f3_; have f4_ := f1_.symm; have f5_ := f3_.symm; clear f1_ f2_ f3_; subst f4_; subst f5_))
                      obtain ⟨Ao35, co35, eo35⟩ := Kd.R_slice HO133.out
                      (first | subst eo35 | (injection eo35 with f1_ f2_ f3_; have f4_ := f1_.symm; have f5_ := f3_.symm; clear f1_ f2_ f3_; subst f4_; subst f5_))
                      refine hK.out _ _ trivial (fun hHeld => ?_)
                      clear hK K
                      refine norm_ (a' := ?_) ?_ ?_
                      rotate_left
                      · show Act.put _ (some 42) _ = _
                        simp only [Act.put, List.setIfInBounds_toArray, List.set_cons_zero, List.set_cons_succ, i64_w, i32_w, u32_w, u64_w]
                        rfl
                      exact norm_ (q4_1) (hJ3_5_7_9 (.slice Ao35 t131.length co35, .slice Ao34 t134.length co34, .slice Ao33 y137.length co33, .slice Ao32 y140.length co32) _ ⟨(by (with_reducible repeat (first | apply Kd.R_alloc | apply Kd.R_drewN | apply Kd.R_drew)); exact Kd.R_mono HO133.out (fun _ hk => ⟨hk.2, hk.1⟩)), (by (with_reducible repeat (first | apply Kd.R_alloc | apply Kd.R_drewN | apply Kd.R_drew)); exact Kd.R_mono HO136.out (fun _ hk => ⟨hk.1.2, hk.2⟩)), (q4_11), (q4_10), (q4_9), (q4_2)⟩)
                  · skip
                    rintro ⟨v132, v135, v141⟩ w29 ⟨h0_, h1_, h2_, h3_, h4_⟩
                    have n0_ : Aside0 (Kd.R Kd.string 9 w29 w.heap.size (fun k_ => some k_ ≠ (v135 : Value).ownBlock) v132 t131) := ⟨h0_⟩
                    have n1_ : Aside0 (Kd.R Kd.string 9 w29 w.heap.size (fun k_ => some k_ ≠ (v132 : Value).ownBlock) v135 t134) := ⟨h1_⟩
                    have n2_ : Aside0 (Kd.R Kd.bool 4 w29 w.heap.size (fun _ => True) v141 y140) := ⟨h2_⟩
                    have n3_ : Aside0 (w29.heap[gb127]? = some (.cells #[.int .u32 0, .int .i64 0, .slice none 0 0, .slice none 0 0, .int .i64 0, .slice none 0 0, .slice none 0 0, .slice none 0 0, .slice none 0 0, .slice none 0 0, .int .i64 0, .int .i64 0, .int .i64 0] 44 (0, 0))) := ⟨h3_⟩
                    have n4_ : Aside0 (Below w.heap.size w w29) := ⟨h4_⟩
                    clear BK127
                    clear HB
                    clear h0_ h1_ h2_ h3_ h4_
                    have HO133 := n0_
                    have HO136 := n1_
                    have HO142 := n2_
                    have BK127 := n3_
                    have HB := n4_
                    clear n0_ n1_ n2_ n3_ n4_
                    have hHeld := trivial
                    refine norm_ (a' := ?_) ?_ ?_
                    rotate_left
                    · simp only [putAll, Act.put, List.setIfInBounds_toArray, List.set_cons_zero, List.set_cons_succ]
                      rfl
                    refine one_ (i := 7) (N := some 44) #[true, true, true, true, true, true, true, true, true, true, false, false, false] rfl rfl (one_of HT_.out (by kernel_rfl)) (by decide) (fun K hK => ?_)
                    refine Kd.R_make_step Kd.string _ 9 (by rfl) (N := 44) rfl 23 _ _ rfl (l2.length : Int) rfl rfl Try.underlying23 (.string ⟨#[]⟩) 16 info9 rfl (by decide) (by omega) (⟨#[]⟩ : ByteArray) (ok := fun _ => True) (okp := fun _ => True) rfl (fun _ hk => hk) trivial (of_decide_eq_true (q4_14)) (Nat.le_trans (Nat.mul_le_mul_right _ (of_decide_eq_true (q4_14) : (l2.length : Int).toNat ≤ 17592186044416)) (by omega)) (Below.refl _ _) (Nat.le_refl _) ?_
                    intro v138 w30 ho31 hb hg_ hnew_
                    clear hg_ hnew_
                    (first | rw [← Ny137.out] at ho31 | (simp only [Int.reduceToNat] at ho31; rw [← Ny137.out] at ho31))
                    have n0_ := Aside0.mk (Kd.R_elder' (q4_13) (Kd.R_base ho31) hb)
                    have n1_ := Aside0.mk (Kd.R_elder' (q4_12) (Kd.R_base ho31) hb)
                    have n2_ := Aside0.mk (Kd.R_below (q4_10) hb)
                    have n3_ := Aside0.mk (Kd.R_lower (Kd.R_new' (Kd.R_new' ho31 (Kd.R_lt (q4_13))) (Kd.R_lt (q4_12))) (below_size (q4_2)))
                    have n4_ := Aside0.mk (blk_below (g := gb127) (o := .cells #[.int .u32 0, .int .i64 0, .slice none 0 0, .slice none 0 0, .int .i64 0, .slice none 0 0, .slice none 0 0, .slice none 0 0, .slice none 0 0, .slice none 0 0, .int .i64 0, .int .i64 0, .int .i64 0] 44 (0, 0)) (q4_9) hb)
                    have n5_ := Aside0.mk (below_step (q4_2) hb)
                    clear HO133
                    clear HO136
                    clear HO142
                    clear BK127
                    clear HB
                    have HO133 := n0_
                    have HO136 := n1_
                    have HO142 := n2_
                    have HO139 := n3_
                    have BK127 := n4_
                    have HB := n5_
                    clear n0_ n1_ n2_ n3_ n4_ n5_
                    clear hb ho31
                    obtain ⟨Ao32, co32, eo32⟩ := Kd.R_slice HO142.out
                    (first | subst eo32 | (injection eo32 with f1_ f2_ f3_; have f4_ := f1_.symm; have f5_ := f3_.symm; clear f1_ f2_ f3_; subst f4_; subst f5_))
                    obtain ⟨Ao33, co33, eo33⟩ := Kd.R_slice HO139.out
                    (first | subst eo33 | (injection eo33 with f1_ f2_ f3_; have f4_ := f1_.symm; have f5_ := f3_.symm; clear f1_ f2_ f3_; subst f4_; subst f5_))
                    obtain ⟨Ao34, co34, eo34⟩ := Kd.R_slice HO136.out
                    (first | subst eo34 | (injection eo34 with f1_ f2_ f3_; have f4_ := f1_.symm; have f5_ := f3_.symm; clear f1_ f2_ f3_; subst f4_; subst f5_))
                    obtain ⟨Ao35, co35, eo35⟩ := Kd.R_slice HO133.out
                    (first | subst eo35 | (injection eo35 with f1_ f2_ f3_; have f4_ := f1_.symm; have f5_ := f3_.symm; clear f1_ f2_ f3_; subst f4_; subst f5_))
                    refine hK.out _ _ trivial (fun hHeld => ?_)
                    clear hK K
                    refine norm_ (a' := ?_) ?_ ?_
                    rotate_left
                    · show Act.put _ (some 44) _ = _
                      simp only [Act.put, List.setIfInBounds_toArray, List.set_cons_zero, List.set_cons_succ, i64_w, i32_w, u32_w, u64_w]
                      rfl
                    exact norm_ (q4_1) (hJ3_5_7_9 (.slice Ao35 t131.length co35, .slice Ao34 t134.length co34, .slice Ao33 y137.length co33, .slice Ao32 y140.length co32) _ ⟨(q4_13), (q4_12), (by (with_reducible repeat (first | apply Kd.R_alloc | apply Kd.R_drewN | apply Kd.R_drew)); exact Kd.R_mono HO139.out (fun _ hk => ⟨hk.1.2, hk.2⟩)), (q4_10), (q4_9), (q4_2)⟩)
                · skip
                  rintro ⟨v132, v135, v138⟩ w29 ⟨h0_, h1_, h2_, h3_, h4_⟩
                  have n0_ : Aside0 (Kd.R Kd.string 9 w29 w.heap.size (fun k_ => some k_ ≠ (v135 : Value).ownBlock ∧ some k_ ≠ (v138 : Value).ownBlock) v132 t131) := ⟨h0_⟩
                  have n1_ : Aside0 (Kd.R Kd.string 9 w29 w.heap.size (fun k_ => some k_ ≠ (v132 : Value).ownBlock ∧ some k_ ≠ (v138 : Value).ownBlock) v135 t134) := ⟨h1_⟩
                  have n2_ : Aside0 (Kd.R Kd.string 9 w29 w.heap.size (fun k_ => some k_ ≠ (v132 : Value).ownBlock ∧ some k_ ≠ (v135 : Value).ownBlock) v138 y137) := ⟨h2_⟩
                  have n3_ : Aside0 (w29.heap[gb127]? = some (.cells #[.int .u32 0, .int .i64 0, .slice none 0 0, .slice none 0 0, .int .i64 0, .slice none 0 0, .slice none 0 0, .slice none 0 0, .slice none 0 0, .slice none 0 0, .int .i64 0, .int .i64 0, .int .i64 0] 44 (0, 0))) := ⟨h3_⟩
                  have n4_ : Aside0 (Below w.heap.size w w29) := ⟨h4_⟩
                  clear BK127
                  clear HB
                  clear h0_ h1_ h2_ h3_ h4_
                  have HO133 := n0_
                  have HO136 := n1_
                  have HO139 := n2_
                  have BK127 := n3_
                  have HB := n4_
                  clear n0_ n1_ n2_ n3_ n4_
                  have hHeld := trivial
                  refine norm_ (a' := ?_) ?_ ?_
                  rotate_left
                  · simp only [putAll, Act.put, List.setIfInBounds_toArray, List.set_cons_zero, List.set_cons_succ]
                    rfl
                  refine one_ (i := 9) (N := some 46) #[true, true, true, true, true, true, true, true, true, true, false, false, false] rfl rfl (one_of HT_.out (by kernel_rfl)) (by decide) (fun K hK => ?_)
                  refine Kd.R_make_step Kd.bool _ 4 (by rfl) (N := 46) rfl 42 _ _ rfl (l2.length : Int) rfl rfl Try.underlying42 (.bool false) 1 info4 rfl (by decide) (by omega) false (ok := fun _ => True) (okp := fun _ => True) rfl (fun _ hk => hk) trivial (of_decide_eq_true (q4_14)) (Nat.le_trans (Nat.mul_le_mul_right _ (of_decide_eq_true (q4_14) : (l2.length : Int).toNat ≤ 281474976710656)) (by omega)) (Below.refl _ _) (Nat.le_refl _) ?_
                  intro v141 w30 ho31 hb hg_ hnew_
                  clear hg_ hnew_
                  (first | rw [← Ny140.out] at ho31 | (simp only [Int.reduceToNat] at ho31; rw [← Ny140.out] at ho31))
                  have n0_ := Aside0.mk (Kd.R_below (q4_13) hb)
                  have n1_ := Aside0.mk (Kd.R_below (q4_12) hb)
                  have n2_ := Aside0.mk (Kd.R_below (q4_11) hb)
                  have n3_ := Aside0.mk (Kd.R_lower ho31 (below_size (q4_2)))
                  have n4_ := Aside0.mk (blk_below (g := gb127) (o := .cells #[.int .u32 0, .int .i64 0, .slice none 0 0, .slice none 0 0, .int .i64 0, .slice none 0 0, .slice none 0 0, .slice none 0 0, .slice none 0 0, .slice none 0 0, .int .i64 0, .int .i64 0, .int .i64 0] 44 (0, 0)) (q4_9) hb)
                  have n5_ := Aside0.mk (below_step (q4_2) hb)
                  clear HO133
                  clear HO136
                  clear HO139
                  clear BK127
                  clear HB
                  have HO133 := n0_
                  have HO136 := n1_
                  have HO139 := n2_
                  have HO142 := n3_
                  have BK127 := n4_
                  have HB := n5_
                  clear n0_ n1_ n2_ n3_ n4_ n5_
                  clear hb ho31
                  obtain ⟨Ao32, co32, eo32⟩ := Kd.R_slice HO142.out
                  (first | subst eo32 | (injection eo32 with f1_ f2_ f3_; have f4_ := f1_.symm; have f5_ := f3_.symm; clear f1_ f2_ f3_; subst f4_; subst f5_))
                  obtain ⟨Ao33, co33, eo33⟩ := Kd.R_slice HO139.out
                  (first | subst eo33 | (injection eo33 with f1_ f2_ f3_; have f4_ := f1_.symm; have f5_ := f3_.symm; clear f1_ f2_ f3_; subst f4_; subst f5_))
                  obtain ⟨Ao34, co34, eo34⟩ := Kd.R_slice HO136.out
                  (first | subst eo34 | (injection eo34 with f1_ f2_ f3_; have f4_ := f1_.symm; have f5_ := f3_.symm; clear f1_ f2_ f3_; subst f4_; subst f5_))
                  obtain ⟨Ao35, co35, eo35⟩ := Kd.R_slice HO133.out
                  (first | subst eo35 | (injection eo35 with f1_ f2_ f3_; have f4_ := f1_.symm; have f5_ := f3_.symm; clear f1_ f2_ f3_; subst f4_; subst f5_))
                  refine hK.out _ _ trivial (fun hHeld => ?_)
                  clear hK K
                  refine norm_ (a' := ?_) ?_ ?_
                  rotate_left
                  · show Act.put _ (some 46) _ = _
                    simp only [Act.put, List.setIfInBounds_toArray, List.set_cons_zero, List.set_cons_succ, i64_w, i32_w, u32_w, u64_w]
                    rfl
                  exact norm_ (q4_1) (hJ3_5_7_9 (.slice Ao35 t131.length co35, .slice Ao34 t134.length co34, .slice Ao33 y137.length co33, .slice Ao32 y140.length co32) _ ⟨(q4_13), (q4_12), (q4_11), (q4_10), (q4_9), (q4_2)⟩)
              rintro ⟨v132, v135, v138, v141⟩ w35 ⟨h0_, h1_, h2_, h3_, h4_, h5_⟩
              have n0_ : Aside0 (Kd.R Kd.string 9 w35 w.heap.size (fun k_ => some k_ ≠ (v135 : Value).ownBlock ∧ some k_ ≠ (v138 : Value).ownBlock) v132 t131) := ⟨h0_⟩
              have n1_ : Aside0 (Kd.R Kd.string 9 w35 w.heap.size (fun k_ => some k_ ≠ (v132 : Value).ownBlock ∧ some k_ ≠ (v138 : Value).ownBlock) v135 t134) := ⟨h1_⟩
              have n2_ : Aside0 (Kd.R Kd.string 9 w35 w.heap.size (fun k_ => some k_ ≠ (v132 : Value).ownBlock ∧ some k_ ≠ (v135 : Value).ownBlock) v138 y137) := ⟨h2_⟩
              have n3_ : Aside0 (Kd.R Kd.bool 4 w35 w.heap.size (fun _ => True) v141 y140) := ⟨h3_⟩
              have n4_ : Aside0 (w35.heap[gb127]? = some (.cells #[.int .u32 0, .int .i64 0, .slice none 0 0, .slice none 0 0, .int .i64 0, .slice none 0 0, .slice none 0 0, .slice none 0 0, .slice none 0 0, .slice none 0 0, .int .i64 0, .int .i64 0, .int .i64 0] 44 (0, 0))) := ⟨h4_⟩
              have n5_ : Aside0 (Below w.heap.size w w35) := ⟨h5_⟩
              clear BK127
              clear HB
              clear h0_ h1_ h2_ h3_ h4_ h5_
              have HO133 := n0_
              have HO136 := n1_
              have HO139 := n2_
              have HO142 := n3_
              have BK127 := n4_
              have HB := n5_
              clear n0_ n1_ n2_ n3_ n4_ n5_
              have hHeld := trivial
              obtain ⟨Ao36, co36, eo36⟩ := Kd.R_slice HO142.out
              (first | subst eo36 | (injection eo36 with f1_ f2_ f3_; have f4_ := f1_.symm; have f5_ := f3_.symm; clear f1_ f2_ f3_; subst f4_; subst f5_))
              obtain ⟨Ao37, co37, eo37⟩ := Kd.R_slice HO139.out
              (first | subst eo37 | (injection eo37 with f1_ f2_ f3_; have f4_ := f1_.symm; have f5_ := f3_.symm; clear f1_ f2_ f3_; subst f4_; subst f5_))
              obtain ⟨Ao38, co38, eo38⟩ := Kd.R_slice HO136.out
              (first | subst eo38 | (injection eo38 with f1_ f2_ f3_; have f4_ := f1_.symm; have f5_ := f3_.symm; clear f1_ f2_ f3_; subst f4_; subst f5_))
              obtain ⟨Ao39, co39, eo39⟩ := Kd.R_slice HO133.out
              (first | subst eo39 | (injection eo39 with f1_ f2_ f3_; have f4_ := f1_.symm; have f5_ := f3_.symm; clear f1_ f2_ f3_; subst f4_; subst f5_))
              refine norm_ (a' := ?_) ?_ ?_
              rotate_left
              · simp only [putAll, Act.put, List.setIfInBounds_toArray, List.set_cons_zero, List.set_cons_succ]
                rfl
              refine pure_ (i := 10) (N := some 47) (v := ?_) (a' := ?_) #[true, true, true, true, true, true, true, true, true, true, true, false, false] rfl rfl (any_of HT_.out (by kernel_rfl)) (fun _ _ _ h => h) (Or.inl ⟨by rfl, ?_⟩) ?_ ?_
              rotate_left
              · intro w'
                go_simp
                with_reducible rfl
              rotate_left
              · simp only [Act.put, List.setIfInBounds_toArray, List.set_cons_zero, List.set_cons_succ, i64_w, i32_w, u32_w, u64_w]
                rfl
              refine one_ (i := 11) (N := none) #[true, true, true, true, true, true, true, true, true, true, true, true, false] rfl rfl (one_of HT_.out (by kernel_rfl)) (by decide) (fun K hK => ?_)
              have hs40 : w35.cell? ⟨gb127, 0, none⟩ = some (.int .u32 0) := (blk_cell BK127.out 0).trans rfl
              have hfs40 := blk_frozen BK127.out 0
              have hs41 : w35.cell? ⟨gb127, 1, none⟩ = some (.int .i64 0) := (blk_cell BK127.out 1).trans rfl
              have hfs41 := blk_frozen BK127.out 1
              have hs42 : w35.cell? ⟨gb127, 2, none⟩ = some (.slice none 0 0) := (blk_cell BK127.out 2).trans rfl
              have hfs42 := blk_frozen BK127.out 2
              have hs43 : w35.cell? ⟨gb127, 3, none⟩ = some (.slice none 0 0) := (blk_cell BK127.out 3).trans rfl
              have hfs43 := blk_frozen BK127.out 3
              have hs44 : w35.cell? ⟨gb127, 4, none⟩ = some (.int .i64 0) := (blk_cell BK127.out 4).trans rfl
              have hfs44 := blk_frozen BK127.out 4
              have hs45 : w35.cell? ⟨gb127, 5, none⟩ = some (.slice none 0 0) := (blk_cell BK127.out 5).trans rfl
              have hfs45 := blk_frozen BK127.out 5
              have hs46 : w35.cell? ⟨gb127, 6, none⟩ = some (.slice none 0 0) := (blk_cell BK127.out 6).trans rfl
              have hfs46 := blk_frozen BK127.out 6
              have hs47 : w35.cell? ⟨gb127, 7, none⟩ = some (.slice none 0 0) := (blk_cell BK127.out 7).trans rfl
              have hfs47 := blk_frozen BK127.out 7
              have hs48 : w35.cell? ⟨gb127, 8, none⟩ = some (.slice none 0 0) := (blk_cell BK127.out 8).trans rfl
              have hfs48 := blk_frozen BK127.out 8
              have hs49 : w35.cell? ⟨gb127, 9, none⟩ = some (.slice none 0 0) := (blk_cell BK127.out 9).trans rfl
              have hfs49 := blk_frozen BK127.out 9
              have hs50 : w35.cell? ⟨gb127, 10, none⟩ = some (.int .i64 0) := (blk_cell BK127.out 10).trans rfl
              have hfs50 := blk_frozen BK127.out 10
              have hs51 : w35.cell? ⟨gb127, 11, none⟩ = some (.int .i64 0) := (blk_cell BK127.out 11).trans rfl
              have hfs51 := blk_frozen BK127.out 11
              have hs52 : w35.cell? ⟨gb127, 12, none⟩ = some (.int .i64 0) := (blk_cell BK127.out 12).trans rfl
              have hfs52 := blk_frozen BK127.out 12
              refine skip_ (w1 := ?_) (by rfl) rfl ?_ ?_
              rotate_left
              · go_simp
                rfl
              refine hK.out _ _ trivial (fun hHeld => ?_)
              clear hK K
              refine pure_ (i := 12) (N := some 9) (v := ?_) (a' := ?_) #[true, true, true, true, true, true, true, true, true, true, true, true, true] rfl rfl (any_of HT_.out (by kernel_rfl)) (fun _ _ _ h => h) (Or.inl ⟨by rfl, ?_⟩) ?_ ?_
              rotate_left
              · intro w'
                go_simp
                with_reducible rfl
              rotate_left
              · simp only [Act.put, List.setIfInBounds_toArray, List.set_cons_zero, List.set_cons_succ, i64_w, i32_w, u32_w, u64_w]
                rfl
              refine done_ (done_of HT_.out (by kernel_rfl)) ?_
              try go_wp2
              refine bodyPost_ret (results_ct rfl _ _ gb127 44 #[.int .u32 a0, .int .i64 a1, .slice Ao39 t131.length co39, .slice Ao38 t134.length co38, .int .i64 0, .slice none 0 0, .slice none 0 0, .slice none 0 0, .slice Ao37 y137.length co37, .slice Ao36 y140.length co36, .int .i64 0, .int .i64 0, .int .i64 0] (0, 0) _ rfl (by (with_reducible repeat (first | refine blk_drewN ?_ _ | refine blk_drew ?_ | refine blk_alloc ?_ _)); refine blk_put (cs := #[.int .u32 a0, .int .i64 a1, .slice Ao39 t131.length co39, .slice Ao38 t134.length co38, .int .i64 0, .slice none 0 0, .slice none 0 0, .slice none 0 0, .slice Ao37 y137.length co37, .slice Ao36 y140.length co36, .int .i64 0, .int .i64 0, .int .i64 0]) ?_ 12 _ rfl; (with_reducible repeat (first | refine blk_drewN ?_ _ | refine blk_drew ?_ | refine blk_alloc ?_ _)); refine blk_put (cs := #[.int .u32 a0, .int .i64 a1, .slice Ao39 t131.length co39, .slice Ao38 t134.length co38, .int .i64 0, .slice none 0 0, .slice none 0 0, .slice none 0 0, .slice Ao37 y137.length co37, .slice Ao36 y140.length co36, .int .i64 0, .int .i64 0, .int .i64 0]) ?_ 11 _ rfl; (with_reducible repeat (first | refine blk_drewN ?_ _ | refine blk_drew ?_ | refine blk_alloc ?_ _)); refine blk_put (cs := #[.int .u32 a0, .int .i64 a1, .slice Ao39 t131.length co39, .slice Ao38 t134.length co38, .int .i64 0, .slice none 0 0, .slice none 0 0, .slice none 0 0, .slice Ao37 y137.length co37, .slice Ao36 y140.length co36, .int .i64 0, .int .i64 0, .int .i64 0]) ?_ 10 _ rfl; (with_reducible repeat (first | refine blk_drewN ?_ _ | refine blk_drew ?_ | refine blk_alloc ?_ _)); refine blk_put (cs := #[.int .u32 a0, .int .i64 a1, .slice Ao39 t131.length co39, .slice Ao38 t134.length co38, .int .i64 0, .slice none 0 0, .slice none 0 0, .slice none 0 0, .slice Ao37 y137.length co37, .slice none 0 0, .int .i64 0, .int .i64 0, .int .i64 0]) ?_ 9 _ rfl; (with_reducible repeat (first | refine blk_drewN ?_ _ | refine blk_drew ?_ | refine blk_alloc ?_ _)); refine blk_put (cs := #[.int .u32 a0, .int .i64 a1, .slice Ao39 t131.length co39, .slice Ao38 t134.length co38, .int .i64 0, .slice none 0 0, .slice none 0 0, .slice none 0 0, .slice none 0 0, .slice none 0 0, .int .i64 0, .int .i64 0, .int .i64 0]) ?_ 8 _ rfl; (with_reducible repeat (first | refine blk_drewN ?_ _ | refine blk_drew ?_ | refine blk_alloc ?_ _)); refine blk_put (cs := #[.int .u32 a0, .int .i64 a1, .slice Ao39 t131.length co39, .slice Ao38 t134.length co38, .int .i64 0, .slice none 0 0, .slice none 0 0, .slice none 0 0, .slice none 0 0, .slice none 0 0, .int .i64 0, .int .i64 0, .int .i64 0]) ?_ 7 _ rfl; (with_reducible repeat (first | refine blk_drewN ?_ _ | refine blk_drew ?_ | refine blk_alloc ?_ _)); refine blk_put (cs := #[.int .u32 a0, .int .i64 a1, .slice Ao39 t131.length co39, .slice Ao38 t134.length co38, .int .i64 0, .slice none 0 0, .slice none 0 0, .slice none 0 0, .slice none 0 0, .slice none 0 0, .int .i64 0, .int .i64 0, .int .i64 0]) ?_ 6 _ rfl; (with_reducible repeat (first | refine blk_drewN ?_ _ | refine blk_drew ?_ | refine blk_alloc ?_ _)); refine blk_put (cs := #[.int .u32 a0, .int .i64 a1, .slice Ao39 t131.length co39, .slice Ao38 t134.length co38, .int .i64 0, .slice none 0 0, .slice none 0 0, .slice none 0 0, .slice none 0 0, .slice none 0 0, .int .i64 0, .int .i64 0, .int .i64 0]) ?_ 5 _ rfl; (with_reducible repeat (first | refine blk_drewN ?_ _ | refine blk_drew ?_ | refine blk_alloc ?_ _)); refine blk_put (cs := #[.int .u32 a0, .int .i64 a1, .slice Ao39 t131.length co39, .slice Ao38 t134.length co38, .int .i64 0, .slice none 0 0, .slice none 0 0, .slice none 0 0, .slice none 0 0, .slice none 0 0, .int .i64 0, .int .i64 0, .int .i64 0]) ?_ 4 _ rfl; (with_reducible repeat (first | refine blk_drewN ?_ _ | refine blk_drew ?_ | refine blk_alloc ?_ _)); refine blk_put (cs := #[.int .u32 a0, .int .i64 a1, .slice Ao39 t131.length co39, .slice none 0 0, .int .i64 0, .slice none 0 0, .slice none 0 0, .slice none 0 0, .slice none 0 0, .slice none 0 0, .int .i64 0, .int .i64 0, .int .i64 0]) ?_ 3 _ rfl; (with_reducible repeat (first | refine blk_drewN ?_ _ | refine blk_drew ?_ | refine blk_alloc ?_ _)); refine blk_put (cs := #[.int .u32 a0, .int .i64 a1, .slice none 0 0, .slice none 0 0, .int .i64 0, .slice none 0 0, .slice none 0 0, .slice none 0 0, .slice none 0 0, .slice none 0 0, .int .i64 0, .int .i64 0, .int .i64 0]) ?_ 2 _ rfl; (with_reducible repeat (first | refine blk_drewN ?_ _ | refine blk_drew ?_ | refine blk_alloc ?_ _)); refine blk_put (cs := #[.int .u32 a0, .int .i64 0, .slice none 0 0, .slice none 0 0, .int .i64 0, .slice none 0 0, .slice none 0 0, .slice none 0 0, .slice none 0 0, .slice none 0 0, .int .i64 0, .int .i64 0, .int .i64 0]) ?_ 1 _ rfl; (with_reducible repeat (first | refine blk_drewN ?_ _ | refine blk_drew ?_ | refine blk_alloc ?_ _)); refine blk_put (cs := #[.int .u32 0, .int .i64 0, .slice none 0 0, .slice none 0 0, .int .i64 0, .slice none 0 0, .slice none 0 0, .slice none 0 0, .slice none 0 0, .slice none 0 0, .int .i64 0, .int .i64 0, .int .i64 0]) ?_ 0 _ rfl; (with_reducible repeat (first | refine blk_drewN ?_ _ | refine blk_drew ?_ | refine blk_alloc ?_ _)); exact BK127.out) Try.underlying44 rfl (by kernel_rfl)) rfl ?_
              exact ⟨_, _, _, _, _, _, _, by first | rfl | (simp [errW_none, errW_some] <;> rfl) | (simp [*, errW_none, errW_some] <;> rfl), by (with_reducible repeat (first | apply Kd.R_alloc | apply Kd.R_drewN | apply Kd.R_drew)); exact Kd.R_mono (Kd.R_far (p := ⟨gb127, 12, none⟩) (Kd.R_far (p := ⟨gb127, 11, none⟩) (Kd.R_far (p := ⟨gb127, 10, none⟩) (Kd.R_far (p := ⟨gb127, 9, none⟩) (Kd.R_far (p := ⟨gb127, 8, none⟩) (Kd.R_far (p := ⟨gb127, 7, none⟩) (Kd.R_far (p := ⟨gb127, 6, none⟩) (Kd.R_far (p := ⟨gb127, 5, none⟩) (Kd.R_far (p := ⟨gb127, 4, none⟩) (Kd.R_far (p := ⟨gb127, 3, none⟩) (Kd.R_far (p := ⟨gb127, 2, none⟩) (Kd.R_far (p := ⟨gb127, 1, none⟩) (Kd.R_far (p := ⟨gb127, 0, none⟩) (Kd.R_types HO133.out BK127.out (by decide)) (fun _ hk => hk.2) (.int .u32 a0)) (fun _ hk => hk.2) (.int .i64 a1)) (fun _ hk => hk.2) (.slice Ao39 t131.length co39)) (fun _ hk => hk.2) (.slice Ao38 t134.length co38)) (fun _ hk => hk.2) (.int .i64 0)) (fun _ hk => hk.2) (.slice none 0 0)) (fun _ hk => hk.2) (.slice none 0 0)) (fun _ hk => hk.2) (.slice none 0 0)) (fun _ hk => hk.2) (.slice Ao37 y137.length co37)) (fun _ hk => hk.2) (.slice Ao36 y140.length co36)) (fun _ hk => hk.2) (.int .i64 0)) (fun _ hk => hk.2) (.int .i64 0)) (fun _ hk => hk.2) (.int .i64 0)) (fun _ hk => ⟨hk.1.1, hk.1.2⟩), by (with_reducible repeat (first | apply Kd.R_alloc | apply Kd.R_drewN | apply Kd.R_drew)); exact Kd.R_mono (Kd.R_far (p := ⟨gb127, 12, none⟩) (Kd.R_far (p := ⟨gb127, 11, none⟩) (Kd.R_far (p := ⟨gb127, 10, none⟩) (Kd.R_far (p := ⟨gb127, 9, none⟩) (Kd.R_far (p := ⟨gb127, 8, none⟩) (Kd.R_far (p := ⟨gb127, 7, none⟩) (Kd.R_far (p := ⟨gb127, 6, none⟩) (Kd.R_far (p := ⟨gb127, 5, none⟩) (Kd.R_far (p := ⟨gb127, 4, none⟩) (Kd.R_far (p := ⟨gb127, 3, none⟩) (Kd.R_far (p := ⟨gb127, 2, none⟩) (Kd.R_far (p := ⟨gb127, 1, none⟩) (Kd.R_far (p := ⟨gb127, 0, none⟩) (Kd.R_types HO136.out BK127.out (by decide)) (fun _ hk => hk.2) (.int .u32 a0)) (fun _ hk => hk.2) (.int .i64 a1)) (fun _ hk => hk.2) (.slice Ao39 t131.length co39)) (fun _ hk => hk.2) (.slice Ao38 t134.length co38)) (fun _ hk => hk.2) (.int .i64 0)) (fun _ hk => hk.2) (.slice none 0 0)) (fun _ hk => hk.2) (.slice none 0 0)) (fun _ hk => hk.2) (.slice none 0 0)) (fun _ hk => hk.2) (.slice Ao37 y137.length co37)) (fun _ hk => hk.2) (.slice Ao36 y140.length co36)) (fun _ hk => hk.2) (.int .i64 0)) (fun _ hk => hk.2) (.int .i64 0)) (fun _ hk => hk.2) (.int .i64 0)) (fun _ hk => ⟨hk.1.1, hk.1.2⟩), q4_4, q4_3, q4_3, by (with_reducible repeat (first | apply Kd.R_alloc | apply Kd.R_drewN | apply Kd.R_drew)); exact Kd.R_mono (Kd.R_far (p := ⟨gb127, 12, none⟩) (Kd.R_far (p := ⟨gb127, 11, none⟩) (Kd.R_far (p := ⟨gb127, 10, none⟩) (Kd.R_far (p := ⟨gb127, 9, none⟩) (Kd.R_far (p := ⟨gb127, 8, none⟩) (Kd.R_far (p := ⟨gb127, 7, none⟩) (Kd.R_far (p := ⟨gb127, 6, none⟩) (Kd.R_far (p := ⟨gb127, 5, none⟩) (Kd.R_far (p := ⟨gb127, 4, none⟩) (Kd.R_far (p := ⟨gb127, 3, none⟩) (Kd.R_far (p := ⟨gb127, 2, none⟩) (Kd.R_far (p := ⟨gb127, 1, none⟩) (Kd.R_far (p := ⟨gb127, 0, none⟩) (Kd.R_types HO139.out BK127.out (by decide)) (fun _ hk => hk.2) (.int .u32 a0)) (fun _ hk => hk.2) (.int .i64 a1)) (fun _ hk => hk.2) (.slice Ao39 t131.length co39)) (fun _ hk => hk.2) (.slice Ao38 t134.length co38)) (fun _ hk => hk.2) (.int .i64 0)) (fun _ hk => hk.2) (.slice none 0 0)) (fun _ hk => hk.2) (.slice none 0 0)) (fun _ hk => hk.2) (.slice none 0 0)) (fun _ hk => hk.2) (.slice Ao37 y137.length co37)) (fun _ hk => hk.2) (.slice Ao36 y140.length co36)) (fun _ hk => hk.2) (.int .i64 0)) (fun _ hk => hk.2) (.int .i64 0)) (fun _ hk => hk.2) (.int .i64 0)) (fun _ hk => ⟨hk.1.1, hk.1.2⟩), by (with_reducible repeat (first | apply Kd.R_alloc | apply Kd.R_drewN | apply Kd.R_drew)); exact Kd.R_mono (Kd.R_far (p := ⟨gb127, 12, none⟩) (Kd.R_far (p := ⟨gb127, 11, none⟩) (Kd.R_far (p := ⟨gb127, 10, none⟩) (Kd.R_far (p := ⟨gb127, 9, none⟩) (Kd.R_far (p := ⟨gb127, 8, none⟩) (Kd.R_far (p := ⟨gb127, 7, none⟩) (Kd.R_far (p := ⟨gb127, 6, none⟩) (Kd.R_far (p := ⟨gb127, 5, none⟩) (Kd.R_far (p := ⟨gb127, 4, none⟩) (Kd.R_far (p := ⟨gb127, 3, none⟩) (Kd.R_far (p := ⟨gb127, 2, none⟩) (Kd.R_far (p := ⟨gb127, 1, none⟩) (Kd.R_far (p := ⟨gb127, 0, none⟩) (Kd.R_types HO142.out BK127.out (by decide)) (fun _ hk => hk.2) (.int .u32 a0)) (fun _ hk => hk.2) (.int .i64 a1)) (fun _ hk => hk.2) (.slice Ao39 t131.length co39)) (fun _ hk => hk.2) (.slice Ao38 t134.length co38)) (fun _ hk => hk.2) (.int .i64 0)) (fun _ hk => hk.2) (.slice none 0 0)) (fun _ hk => hk.2) (.slice none 0 0)) (fun _ hk => hk.2) (.slice none 0 0)) (fun _ hk => hk.2) (.slice Ao37 y137.length co37)) (fun _ hk => hk.2) (.slice Ao36 y140.length co36)) (fun _ hk => hk.2) (.int .i64 0)) (fun _ hk => hk.2) (.int .i64 0)) (fun _ hk => hk.2) (.int .i64 0)) (fun _ hk => trivial), q4_2⟩
            · rw [if_neg c23] at H
              exact absurd H (by simp)
          · rw [if_neg c22] at H
            exact absurd H (by simp)
        · rw [if_neg c21] at H
          exact absurd H (by simp)

end Go.Proofs.Ytphlmaaplaaopaa.PFnExactTalkStart
