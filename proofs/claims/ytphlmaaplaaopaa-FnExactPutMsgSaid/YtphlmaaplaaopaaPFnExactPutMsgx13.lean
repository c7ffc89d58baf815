-- PRINTED by print.py (a twelfth state) out of the translation. Not trusted: Lean checks it.
import Derived.Test.YtphlmaaplaaopaaPFnExactPutMsgx0
import Derived.Test.YtphlmaaplaaopaaPFnExactPutMsgx1
import Derived.Test.YtphlmaaplaaopaaPFnExactPutMsgx2
import Derived.Test.YtphlmaaplaaopaaPFnExactPutMsgx3
import Derived.Test.YtphlmaaplaaopaaPFnExactPutMsgx7
import Derived.Test.YtphlmaaplaaopaaPFnExactPutMsgx11
import Derived.Test.YtphlmaaplaaopaaPFnExactPutMsgx12
namespace Go.Proofs.Ytphlmaaplaaopaa.PFnExactPutMsg
open Go.RowKit Go.Proofs.YtphlmaaplaaopaaW.PrintWords Go.Proofs.YtphlmaaplaaopaaW.PrintLast Go.Proofs.YtphlmaaplaaopaaW.PrintMore
attribute [local go_sem] max2_int min2_int max_two min_two max_three min_three max_four min_four   -- for this text's walks alone
set_option linter.unusedVariables false
set_option linter.unusedSimpArgs false
open Go.Proofs.YtphlmaaplaaopaaW
theorem Cw.R_okb {e : Nat} {w : World} {base : Nat} {ok : Nat → Prop} {v : Value} {xs : List Int} (h : Cw.R e w base ok v xs) : ∀ k, v.ownBlock = some k → ok k := fun k hk => (Cw.R_block h k hk).1
theorem Cw.R_typed {e : Nat} {w : World} {base : Nat} {ok : Nat → Prop} {v : Value} {xs : List Int} (h : Cw.R e w base ok v xs) : ∀ k, v.ownBlock = some k → ∃ cells m, w.heap[k]? = some (.cells cells e m) := fun k hk => (Cw.R_block h k hk).2.2.2
theorem Kd.R_apartC {α : Type} {d : Kd α} {e e' : Nat} {W : World} {base : Nat} {ok : Nat → Prop} {u v : Value} {xs : List α} (h : d.R e W base ok u xs) (hty : ∀ k, v.ownBlock = some k → ∃ cells m, W.heap[k]? = some (.cells cells e' m)) (ht : ∀ q, q ∈ e :: d.E → q ≠ e') : d.R e W base (fun k => ok k ∧ some k ≠ v.ownBlock) u xs := by
  refine Kd.R_mono (Kd.R_bound h) (fun k hk => ⟨hk.1, fun he => ?_⟩)
  obtain ⟨_, _, _, q, hq, cells, hc⟩ := hk
  obtain ⟨cells', m', hc'⟩ := hty k he.symm
  rw [hc] at hc'
  injection hc' with hc'
  injection hc' with _ hc'
  exact ht q hq hc'
theorem q13_1 {p : Prop} (h : p := by (with_reducible repeat (first | apply Kd.R_alloc | apply Kd.R_drewN | apply Kd.R_drew | apply Cw.R_alloc | apply Cw.R_drewN | apply Cw.R_drew)); exact (Kd.R_mono (Kd.R_far (p := ⟨gb408, 7, none⟩) (Kd.R_far (p := ⟨gb408, 6, none⟩) (Kd.R_far (p := ⟨gb408, 5, none⟩) (Kd.R_far (p := ⟨gb408, 4, none⟩) (Kd.R_far (p := ⟨gb408, 3, none⟩) (Kd.R_far (p := ⟨gb408, 2, none⟩) (Kd.R_far (p := ⟨gb408, 1, none⟩) (Kd.R_far (p := ⟨gb408, 0, none⟩) (Kd.R_types HO406.out BK408.out (by decide)) (fun _ hk => hk.2) (.int .i64 t394)) (fun _ hk => hk.2) (.int .i64 t395)) (fun _ hk => hk.2) (.int .i64 t396)) (fun _ hk => hk.2) (.int .i64 t397)) (fun _ hk => hk.2) (.slice Ao32 t398.length co32)) (fun _ hk => hk.2) (.slice Ao33 t401.length co33)) (fun _ hk => hk.2) (.slice Ao34 t404.length co34)) (fun _ hk => hk.2) (.string t407)) (fun _ h_ => h_.1))) : p := h
theorem q13_2 {p : Prop} (h : p := by (with_reducible repeat (first | apply Kd.R_alloc | apply Kd.R_drewN | apply Kd.R_drew | apply Cw.R_alloc | apply Cw.R_drewN | apply Cw.R_drew)); exact (Kd.R_mono (Kd.R_far (p := ⟨gb408, 7, none⟩) (Kd.R_far (p := ⟨gb408, 6, none⟩) (Kd.R_far (p := ⟨gb408, 5, none⟩) (Kd.R_far (p := ⟨gb408, 4, none⟩) (Kd.R_far (p := ⟨gb408, 3, none⟩) (Kd.R_far (p := ⟨gb408, 2, none⟩) (Kd.R_far (p := ⟨gb408, 1, none⟩) (Kd.R_far (p := ⟨gb408, 0, none⟩) (Kd.R_types HO403.out BK408.out (by decide)) (fun _ hk => hk.2) (.int .i64 t394)) (fun _ hk => hk.2) (.int .i64 t395)) (fun _ hk => hk.2) (.int .i64 t396)) (fun _ hk => hk.2) (.int .i64 t397)) (fun _ hk => hk.2) (.slice Ao32 t398.length co32)) (fun _ hk => hk.2) (.slice Ao33 t401.length co33)) (fun _ hk => hk.2) (.slice Ao34 t404.length co34)) (fun _ hk => hk.2) (.string t407)) (fun _ h_ => h_.1))) : p := h
theorem q13_3 {p : Prop} (h : p := by (with_reducible repeat (first | apply Kd.R_alloc | apply Kd.R_drewN | apply Kd.R_drew | apply Cw.R_alloc | apply Cw.R_drewN | apply Cw.R_drew)); exact (Kd.R_mono (Kd.R_far (p := ⟨gb408, 7, none⟩) (Kd.R_far (p := ⟨gb408, 6, none⟩) (Kd.R_far (p := ⟨gb408, 5, none⟩) (Kd.R_far (p := ⟨gb408, 4, none⟩) (Kd.R_far (p := ⟨gb408, 3, none⟩) (Kd.R_far (p := ⟨gb408, 2, none⟩) (Kd.R_far (p := ⟨gb408, 1, none⟩) (Kd.R_far (p := ⟨gb408, 0, none⟩) (Kd.R_types HO400.out BK408.out (by decide)) (fun _ hk => hk.2) (.int .i64 t394)) (fun _ hk => hk.2) (.int .i64 t395)) (fun _ hk => hk.2) (.int .i64 t396)) (fun _ hk => hk.2) (.int .i64 t397)) (fun _ hk => hk.2) (.slice Ao32 t398.length co32)) (fun _ hk => hk.2) (.slice Ao33 t401.length co33)) (fun _ hk => hk.2) (.slice Ao34 t404.length co34)) (fun _ hk => hk.2) (.string t407)) (fun _ h_ => h_.1))) : p := h
theorem q13_4 {p : Prop} (h : p := by (with_reducible repeat (first | apply Kd.R_alloc | apply Kd.R_drewN | apply Kd.R_drew | apply Cw.R_alloc | apply Cw.R_drewN | apply Cw.R_drew)); exact (Kd.R_mono (Kd.R_far (p := ⟨gb408, 7, none⟩) (Kd.R_far (p := ⟨gb408, 6, none⟩) (Kd.R_far (p := ⟨gb408, 5, none⟩) (Kd.R_far (p := ⟨gb408, 4, none⟩) (Kd.R_far (p := ⟨gb408, 3, none⟩) (Kd.R_far (p := ⟨gb408, 2, none⟩) (Kd.R_far (p := ⟨gb408, 1, none⟩) (Kd.R_far (p := ⟨gb408, 0, none⟩) (Kd.R_types HO393.out BK408.out (by decide)) (fun _ hk => hk.2) (.int .i64 t394)) (fun _ hk => hk.2) (.int .i64 t395)) (fun _ hk => hk.2) (.int .i64 t396)) (fun _ hk => hk.2) (.int .i64 t397)) (fun _ hk => hk.2) (.slice Ao32 t398.length co32)) (fun _ hk => hk.2) (.slice Ao33 t401.length co33)) (fun _ hk => hk.2) (.slice Ao34 t404.length co34)) (fun _ hk => hk.2) (.string t407)) (fun _ h_ => h_.1))) : p := h
theorem q13_5 {p : Prop} (h : p := by repeat (first | (with_reducible first | exact HB.out | apply below_alloc | apply pw_below_drewN | apply below_drew1 | refine below_set ?_ GE375.out | refine below_set ?_ GE408.out) | exact HB.out)) : p := h
theorem q13_6 {p : Prop} (h : p := by rw [hg]; exact (below_size (by repeat (first | (with_reducible first | exact HB.out | apply below_alloc | apply pw_below_drewN | apply below_drew1) | exact HB.out)))) : p := h
theorem q13_7 {p : Prop} (h : p := by repeat (first | (with_reducible first | exact HB.out | apply below_alloc | apply pw_below_drewN | apply below_drew1 | refine below_set ?_ GE375.out) | exact HB.out)) : p := h
theorem q13_8 {p : Prop} (h : p := by (with_reducible repeat (first | apply Kd.R_alloc | apply Kd.R_drewN | apply Kd.R_drew | apply Cw.R_alloc | apply Cw.R_drewN | apply Cw.R_drew)); exact HO_409006.out) : p := h
theorem q13_9 {p : Prop} (h : p := by (with_reducible repeat (first | apply Kd.R_alloc | apply Kd.R_drewN | apply Kd.R_drew | apply Cw.R_alloc | apply Cw.R_drewN | apply Cw.R_drew)); exact HO_409005.out) : p := h
theorem q13_10 {p : Prop} (h : p := by (with_reducible repeat (first | apply Kd.R_alloc | apply Kd.R_drewN | apply Kd.R_drew | apply Cw.R_alloc | apply Cw.R_drewN | apply Cw.R_drew)); exact HO_409004.out) : p := h
theorem q13_11 {p : Prop} (h : p := by (with_reducible repeat (first | apply Kd.R_alloc | apply Kd.R_drewN | apply Kd.R_drew | apply Cw.R_alloc | apply Cw.R_drewN | apply Cw.R_drew)); exact HO411.out) : p := h
theorem q13_12 {p : Prop} (h : p := by (with_reducible repeat (first | apply Kd.R_alloc | apply Kd.R_drewN | apply Kd.R_drew | apply Cw.R_alloc | apply Cw.R_drewN | apply Cw.R_drew)); exact HO406.out) : p := h
theorem q13_13 {p : Prop} (h : p := by (with_reducible repeat (first | apply Kd.R_alloc | apply Kd.R_drewN | apply Kd.R_drew | apply Cw.R_alloc | apply Cw.R_drewN | apply Cw.R_drew)); exact HO403.out) : p := h
theorem q13_14 {p : Prop} (h : p := by (with_reducible repeat (first | apply Kd.R_alloc | apply Kd.R_drewN | apply Kd.R_drew | apply Cw.R_alloc | apply Cw.R_drewN | apply Cw.R_drew)); exact HO400.out) : p := h
theorem q13_15 {p : Prop} (h : p := by (with_reducible repeat (first | apply Kd.R_alloc | apply Kd.R_drewN | apply Kd.R_drew | apply Cw.R_alloc | apply Cw.R_drewN | apply Cw.R_drew)); exact HO393.out) : p := h
theorem q13_16 {p : Prop} (h : p := by (with_reducible repeat (first | apply Kd.R_alloc | apply Kd.R_drewN | apply Kd.R_drew | apply Cw.R_alloc | apply Cw.R_drewN | apply Cw.R_drew)); exact HO389.out) : p := h
theorem q13_17 {p : Prop} (h : p := by (with_reducible repeat (first | apply Kd.R_alloc | apply Kd.R_drewN | apply Kd.R_drew | apply Cw.R_alloc | apply Cw.R_drewN | apply Cw.R_drew)); exact HO386.out) : p := h
theorem q13_18 {p : Prop} (h : p := by (with_reducible repeat (first | apply Kd.R_alloc | apply Kd.R_drewN | apply Kd.R_drew | apply Cw.R_alloc | apply Cw.R_drewN | apply Cw.R_drew)); exact HO383.out) : p := h
theorem q13_19 {p : Prop} (h : p := by (with_reducible repeat (first | apply Kd.R_alloc | apply Kd.R_drewN | apply Kd.R_drew | apply Cw.R_alloc | apply Cw.R_drewN | apply Cw.R_drew)); exact HO_6.out) : p := h
theorem q13_20 {p : Prop} (h : p := by (with_reducible repeat (first | apply Kd.R_alloc | apply Kd.R_drewN | apply Kd.R_drew | apply Cw.R_alloc | apply Cw.R_drewN | apply Cw.R_drew)); exact HO_4.out) : p := h
theorem q13_21 {p : Prop} (h : p := by (try simp only [List.map_toArray, List.map_cons, List.map_nil]); first | done | rfl | (simp only [List.length_drop, List.length_take]; rfl)) : p := h
theorem q13_22 {p : Prop} (h : p := by repeat (first | (with_reducible first | exact HB.out | apply below_alloc | apply pw_below_drewN | apply below_drew1) | exact HB.out)) : p := h
theorem q13_23 {p : Prop} (h : p := by repeat (first | (with_reducible first | exact HK.out | apply Kept.alloc | apply Kept.drewN | apply Kept.drew) | exact HK.out)) : p := h
theorem q13_24 {p : Prop} (h : p := by (with_reducible repeat (first | refine blk_drewN ?_ _ | refine blk_drew ?_ | refine blk_alloc ?_ _)); exact BK408.out) : p := h
theorem q13_25 {p : Prop} (h : p := by (with_reducible repeat (first | refine blk_drewN ?_ _ | refine blk_drew ?_ | refine blk_alloc ?_ _)); exact BK375.out) : p := h

/-! ### laws_FnExactPutMsg: function 5 -/
def laws_FnExactPutMsg.j0 : Nat → List Int → List Int → Bool → Int → Int → Int → Int → List Int → List ByteArray → List (S101) → ByteArray → Option (Bool)
  | 0, _, _, _, _, _, _, _, _, _, _, _ => none
  | k + 1, x4, x6, x42, x376000, x376001, x376002, x376003, x376004, x376005, x376006, x376007 => if x42 = true then (some false) else ((laws_markByteS.f k x6 1).bind fun bt433 => ((laws_heldByteS.f k bt433.2 1).bind fun t435 => (if t435 < 0 then (some false) else (if t435 = bt433.1 then ((laws_toMsg.f k x376000 x376001 x376002 x376003 x376004 x376005 x376006 x376007).bind fun bt436 => ((impl_PutMsg.f k bt436.1 bt436.2.1 bt436.2.2.1 bt436.2.2.2.1 bt436.2.2.2.2.1 bt436.2.2.2.2.2.1 bt436.2.2.2.2.2.2.1 bt436.2.2.2.2.2.2.2).bind fun t450 => ((laws_eqByteS.f k t450 x4).bind fun t453 => (if t453 = true then ((laws_heldByteS.f k bt433.2 1).bind fun t454 => (if t454 < 0 then (some false) else (if t454 = bt433.1 then (some true) else (some false)))) else (some false))))) else (some false)))))
def laws_FnExactPutMsg.f (k : Nat) (a0_0 : Int) (a0_1 : Int) (a0_2 : Int) (a0_3 : Int) (l0_4 : List Int) (l0_5 : List ByteArray) (l0_6 : List (S101)) (a0_7 : ByteArray) : Option (Bool) := (laws_szMsg.f k a0_0 a0_1 a0_2 a0_3 l0_4 l0_5 l0_6 a0_7 1048576).bind fun t376 => (if t376 < 0 then (some true) else ((laws_toMsg.f k a0_0 a0_1 a0_2 a0_3 l0_4 l0_5 l0_6 a0_7).bind fun bt377 => ((spec_PutMsg.f k bt377.1 bt377.2.1 bt377.2.2.1 bt377.2.2.2.1 bt377.2.2.2.2.1 bt377.2.2.2.2.2.1 bt377.2.2.2.2.2.2.1 bt377.2.2.2.2.2.2.2).bind fun t391 => ((laws_toMsg.f k a0_0 a0_1 a0_2 a0_3 l0_4 l0_5 l0_6 a0_7).bind fun bt394 => ((impl_PutMsg.f k bt394.1 bt394.2.1 bt394.2.2.1 bt394.2.2.2.1 bt394.2.2.2.2.1 bt394.2.2.2.2.2.1 bt394.2.2.2.2.2.2.1 bt394.2.2.2.2.2.2.2).bind fun t409 => ((laws_eqByteS.f k t409 t391).bind fun t412 => (if t412 = true then ((laws_toMsg.f k a0_0 a0_1 a0_2 a0_3 l0_4 l0_5 l0_6 a0_7).bind fun bt413 => ((laws_eqMsg.f k bt394.1 bt394.2.1 bt394.2.2.1 bt394.2.2.2.1 bt394.2.2.2.2.1 bt394.2.2.2.2.2.1 bt394.2.2.2.2.2.2.1 bt394.2.2.2.2.2.2.2 bt413.1 bt413.2.1 bt413.2.2.1 bt413.2.2.2.1 bt413.2.2.2.2.1 bt413.2.2.2.2.2.1 bt413.2.2.2.2.2.2.1 bt413.2.2.2.2.2.2.2).bind fun t427 => (if t427 = true then ((laws_markMsg.f k bt394.1 bt394.2.1 bt394.2.2.1 bt394.2.2.2.1 bt394.2.2.2.2.1 bt394.2.2.2.2.2.1 bt394.2.2.2.2.2.2.1 bt394.2.2.2.2.2.2.2 1).bind fun bt428 => (if bt428.1 < 0 then (laws_FnExactPutMsg.j0 k t391 t409 true a0_0 a0_1 a0_2 a0_3 l0_4 l0_5 l0_6 a0_7) else ((laws_eqByteS.f k t409 t391).bind fun t432 => (laws_FnExactPutMsg.j0 k t391 t409 (!t432) a0_0 a0_1 a0_2 a0_3 l0_4 l0_5 l0_6 a0_7)))) else (some false)))) else (some false))))))))
set_option maxHeartbeats 8000000 in
set_option maxRecDepth 100000 in
theorem laws_markByteS.callsC (k : Nat) (P0_ : Nat → Prop) (u9000_ : Value) (l0 : List Int) (a1 : Int) (r1 : Int) (r2 : List Int) (w0 w : World) (hB : Below w0.heap.size w0 w) (ho0 : Cw.R 5 w w0.heap.size P0_ u9000_ l0) (h : laws_markByteS.f k l0 a1 = some (r1, r2)) :
    Calls Try.prog 25 #[u9000_, .int .i64 a1] w fun e w' => e = .returned (.int .i64 r1) ∧ Cw.R 5 w' w0.heap.size (fun k_ => (P0_ k_ ∨ w.heap.size ≤ k_)) u9000_ r2 ∧ Below w0.heap.size w0 w' ∧ Kept w w' (fun k_ => P0_ k_) := by
  have HO0 := Aside0.mk (show Cw.R 5 w w0.heap.size (fun k_ => (P0_ k_ ∨ w.heap.size ≤ k_)) u9000_ l0 from Cw.R_mono ho0 (fun k_ hk => (.inl hk)))
  have HK := Aside0.mk (Kept.refl w (fun k_ => P0_ k_))
  have HW0 := Aside0.mk hB.size
  have HB := Aside0.mk hB
  clear hB
  have H : (laws_markByteS.l0 k l0 a1 0) = some (r1, r2) := h
  clear h
  have H' := Aside0.mk H
  clear H
  go_enter Try.func25, Try.ntmps25
  go_wp2
  go_loopg [1, 5] k (fun kq v1 v5 w' => ∃ (x0_1 : List Int) (x1_1 : Int) (x5_1 : Int), v1 = .int .i64 x1_1 ∧ v5 = .int .i64 x5_1 ∧ Aside0 (laws_markByteS.l0 kq x0_1 x1_1 x5_1 = some (r1, r2)) ∧ Aside0 (kq ≤ k) ∧ Aside0 (Cw.R 5 w' w0.heap.size (fun k_ => (P0_ k_ ∨ w.heap.size ≤ k_)) u9000_ x0_1) ∧ Aside0 (Kept w w' (fun k_ => P0_ k_)) ∧ Aside0 (Below w0.heap.size w0 w'))
  case atStart => exact ⟨(l0), (a1), (0), (by first | rfl | (simp; done) | (simp [*]; done)), (by first | rfl | (simp; done) | (simp [*]; done)), H', ⟨Nat.le_refl _⟩, ⟨by (with_reducible repeat (first | apply Cw.R_alloc | apply Cw.R_drewN | apply Cw.R_drew)); exact HO0.out⟩, ⟨q13_23⟩, ⟨q13_22⟩⟩
  case round =>
    clear H'
    try clear c2
    try clear p2
    obtain ⟨x0_1, x1_1, x5_1, rfl, rfl, HA, HK1, HO_0, HK, HB⟩ := hrel
    cases gk with
    | zero => exact absurd HA.out (by simp [laws_markByteS.l0])
    | succ k1 =>
      have H := HA.out
      clear HA
      simp only [laws_markByteS.l0] at H
      by_cases c3 : x5_1 < (x0_1.length : Int)
      · rw [if_pos c3] at H
        have c3b0 : decide (x5_1 < (x0_1.length : Int)) = true := decide_eq_true c3
        clear c3
        by_cases c4 : 0 ≤ x5_1
        · rw [if_pos c4] at H
          have c4b0 : decide (0 ≤ x5_1) = true := decide_eq_true c4
          clear c4
          obtain ⟨y373, hy373⟩ : ∃ y_ : List Int, y_ = (x0_1.set (x5_1 : Int).toNat ((x1_1) % 256)) := ⟨_, rfl⟩
          replace H : (laws_markByteS.l0 k1 y373 (wrap64 (x1_1 + 1)) (wrap64 (x5_1 + 1))) = some (r1, r2) := by first | (rw [hy373]; with_reducible exact H) | (have H2_ := (Option.bind_some _ _).symm.trans H; rw [hy373]; with_reducible exact H2_) | (have H2_ := (Option.bind_some _ _).symm.trans H; with_reducible exact H2_) | with_reducible exact H | (rw [hy373]; exact H) | exact H
          have Ny373 := Aside0.mk hy373
          clear hy373
          have H' := Aside0.mk H
          clear H
          obtain ⟨Ao6, co6, eo6⟩ := Cw.R_slice HO_0.out
          subst eo6
          have p5 : 0 ≤ (x5_1 : Int) := of_decide_eq_true (by first | (with_reducible assumption) | assumption)
          have q5 : (x5_1 : Int) < ((x0_1.length : Int) : Int) := of_decide_eq_true (by first | (with_reducible assumption) | assumption)
          obtain ⟨go5, co5, eo5, gb5, gl5, cl5, HG5⟩ := Cw.R_form HO_0.out (by omega)
          (first | cases eo5 | (injection eo5 with ea_ en_ ec_; (first | subst ea_ | (injection ea_ with ea_; subst ea_)); subst ec_; clear en_))
          have GB5 := Aside0.mk gb5
          have GG5 := Aside0.mk HG5
          clear gb5 gl5 HG5
          have HMgo5 := Aside0.mk (show (P0_ go5 ∨ w.heap.size ≤ go5) from (Cw.R_okb HO_0.out _ rfl))
          obtain ⟨hx5_0, hf5_0⟩ := Cw.R_celln HO_0.out (x5_1 : Int) p5 q5
          replace p5 := eq_true p5
          replace q5 := eq_true q5
          have HP7 := Cw.R_putg HO_0.out (x5_1 : Int) ((x1_1) % 256)
          go_wp2_with (first | ((with_reducible refine gate_store (t := 5) (p := 16) rfl ?_); refine store_event (t := 5) (p := 16) (v := ?vo_w8) (w1 := (wr.setCell ⟨go5, (x5_1 : Int).toNat, none⟩ (.int .u8 ((x1_1) % 256)))) ?hg ?ho ?hn ?hr ?_; (case ho => rfl); (case hg => rfl); (case hn => rfl); (case hr => first | (go_simp; done) | (go_simp; rfl)); intro w8 hw; have hg : wr.grownBy w8 (some go5) := (by rw [hw]; exact HP7.2); have hp_ : Cw.R 5 w8 w0.heap.size (fun k_ => (P0_ k_ ∨ w.heap.size ≤ k_)) (.slice (some ⟨go5, 0, none⟩) x0_1.length co6) y373 := (by rw [hw, Ny373.out]; exact HP7.1); clear HP7; have n0_ := Aside0.mk (hp_); have n1_ := Aside0.mk ((by rw [hw]; exact below_set (HB.out) GB5.out : Below w0.heap.size w0 w8)); have n2_ := Aside0.mk (Kept.of_grown (S := (fun k_ => P0_ k_)) hg (q13_23) (fun k_ e_ => (Cw.R_okb HO_0.out k_ e_))); clear HO_0; clear HB; clear HK; have HO_0 := n0_; have HB := n1_; have HK := n2_; clear n0_ n1_ n2_; clear hg hw hp_))
          go_roundg k1
          case measure => have := HK1.out; omega
          case rel => exact ⟨(y373), (wrap64 (x1_1 + 1)), (wrap64 (x5_1 + 1)), (by first | rfl | (simp; done) | (simp [*]; done)), (by first | rfl | (simp; done) | (simp [*]; done)), H', ⟨by have := HK1.out; omega⟩, ⟨by (with_reducible repeat (first | apply Cw.R_alloc | apply Cw.R_drewN | apply Cw.R_drew)); exact HO_0.out⟩, ⟨q13_23⟩, ⟨q13_22⟩⟩
        · rw [if_neg c4] at H
          exact absurd H (by simp)
      · rw [if_neg c3] at H
        have c3b0 : decide (x5_1 < (x0_1.length : Int)) = false := decide_eq_false c3
        clear c3
        simp only [Option.some.injEq, Prod.mk.injEq] at H
        obtain ⟨rfl, rfl⟩ := H
        obtain ⟨Ao9, co9, eo9⟩ := Cw.R_slice HO_0.out
        subst eo9
        go_wp2
        go_ret
        exact ⟨by first | rfl | (simp [errW_none, errW_some] <;> rfl) | (simp [*, errW_none, errW_some] <;> rfl), by (with_reducible repeat (first | apply Cw.R_alloc | apply Cw.R_drewN | apply Cw.R_drew)); exact HO_0.out, q13_22, q13_23⟩
theorem laws_FnExactPutMsg.mono_l : ∀ k, (∀ y0 y1 y2 y3 y4 y5 y6 y7 y8 y9 y10, LeO (laws_FnExactPutMsg.j0 k y0 y1 y2 y3 y4 y5 y6 y7 y8 y9 y10) (laws_FnExactPutMsg.j0 (k + 1) y0 y1 y2 y3 y4 y5 y6 y7 y8 y9 y10))
  | 0 => fun _ _ _ _ _ _ _ _ _ _ _ r h => by simp [laws_FnExactPutMsg.j0] at h
  | k + 1 => by
    have ih0 := laws_FnExactPutMsg.mono_l k
    · intro y0 y1 y2 y3 y4 y5 y6 y7 y8 y9 y10
      unfold laws_FnExactPutMsg.j0
      repeat' first
      | (with_reducible exact ih0 _ _ _ _ _ _ _ _ _ _ _)
      | (with_reducible exact impl_PutMsg.mono _ _ _ _ _ _ _ _ _)
      | (with_reducible exact laws_eqByteS.mono _ _ _)
      | (with_reducible exact laws_eqMsg.mono _ _ _ _ _ _ _ _ _ _ _ _ _ _ _ _ _)
      | (with_reducible exact laws_heldByteS.mono _ _ _)
      | (with_reducible exact laws_markByteS.mono _ _ _)
      | (with_reducible exact laws_markMsg.mono _ _ _ _ _ _ _ _ _ _)
      | (with_reducible exact laws_szMsg.mono _ _ _ _ _ _ _ _ _ _)
      | (with_reducible exact laws_toMsg.mono _ _ _ _ _ _ _ _ _)
      | (with_reducible exact spec_PutMsg.mono _ _ _ _ _ _ _ _ _)
      | (with_reducible exact LeO.refl _)
      | (with_reducible exact LeO.none _)
      | (with_reducible refine LeO.ite ?_ ?_)
      | (with_reducible refine LeO.bind ?_ (fun _ => ?_))
      | exact ih0 _ _ _ _ _ _ _ _ _ _ _
      | exact impl_PutMsg.mono _ _ _ _ _ _ _ _ _
      | exact laws_eqByteS.mono _ _ _
      | exact laws_eqMsg.mono _ _ _ _ _ _ _ _ _ _ _ _ _ _ _ _ _
      | exact laws_heldByteS.mono _ _ _
      | exact laws_markByteS.mono _ _ _
      | exact laws_markMsg.mono _ _ _ _ _ _ _ _ _ _
      | exact laws_szMsg.mono _ _ _ _ _ _ _ _ _ _
      | exact laws_toMsg.mono _ _ _ _ _ _ _ _ _
      | exact spec_PutMsg.mono _ _ _ _ _ _ _ _ _
      | exact LeO.none _
      | refine LeO.ite ?_ ?_
      | refine LeO.bind ?_ (fun _ => ?_)
theorem laws_FnExactPutMsg.mono : ∀ a0 a1 a2 a3 a4 a5 a6 a7 k, LeO (laws_FnExactPutMsg.f k a0 a1 a2 a3 a4 a5 a6 a7) (laws_FnExactPutMsg.f (k + 1) a0 a1 a2 a3 a4 a5 a6 a7) := by
  intro a0 a1 a2 a3 a4 a5 a6 a7 k
  have ih0 := laws_FnExactPutMsg.mono_l k
  unfold laws_FnExactPutMsg.f
  repeat' first
      | (with_reducible exact ih0 _ _ _ _ _ _ _ _ _ _ _)
      | (with_reducible exact impl_PutMsg.mono _ _ _ _ _ _ _ _ _)
      | (with_reducible exact laws_eqByteS.mono _ _ _)
      | (with_reducible exact laws_eqMsg.mono _ _ _ _ _ _ _ _ _ _ _ _ _ _ _ _ _)
      | (with_reducible exact laws_heldByteS.mono _ _ _)
      | (with_reducible exact laws_markByteS.mono _ _ _)
      | (with_reducible exact laws_markMsg.mono _ _ _ _ _ _ _ _ _ _)
      | (with_reducible exact laws_szMsg.mono _ _ _ _ _ _ _ _ _ _)
      | (with_reducible exact laws_toMsg.mono _ _ _ _ _ _ _ _ _)
      | (with_reducible exact spec_PutMsg.mono _ _ _ _ _ _ _ _ _)
      | (with_reducible exact LeO.refl _)
      | (with_reducible exact LeO.none _)
      | (with_reducible refine LeO.ite ?_ ?_)
      | (with_reducible refine LeO.bind ?_ (fun _ => ?_))
      | exact ih0 _ _ _ _ _ _ _ _ _ _ _
      | exact impl_PutMsg.mono _ _ _ _ _ _ _ _ _
      | exact laws_eqByteS.mono _ _ _
      | exact laws_eqMsg.mono _ _ _ _ _ _ _ _ _ _ _ _ _ _ _ _ _
      | exact laws_heldByteS.mono _ _ _
      | exact laws_markByteS.mono _ _ _
      | exact laws_markMsg.mono _ _ _ _ _ _ _ _ _ _
      | exact laws_szMsg.mono _ _ _ _ _ _ _ _ _ _
      | exact laws_toMsg.mono _ _ _ _ _ _ _ _ _
      | exact spec_PutMsg.mono _ _ _ _ _ _ _ _ _
      | exact LeO.none _
      | refine LeO.ite ?_ ?_
      | refine LeO.bind ?_ (fun _ => ?_)
set_option maxHeartbeats 8000000 in
set_option maxRecDepth 100000 in
theorem laws_FnExactPutMsg.calls (k : Nat) (a0_0 : Int) (a0_1 : Int) (a0_2 : Int) (a0_3 : Int) (A0_4 : Option Addr) (c0_4 : Nat) (l0_4 : List Int) (A0_5 : Option Addr) (c0_5 : Nat) (l0_5 : List ByteArray) (A0_6 : Option Addr) (c0_6 : Nat) (l0_6 : List (S101)) (a0_7 : ByteArray) (r : Bool) (hrt : r = true) (w : World) (hr0_4 : Kd.C (Kd.int .u32) w A0_4 l0_4.length l0_4) (hc0_4 : l0_4.length ≤ c0_4) (hr0_5 : Kd.C Kd.string w A0_5 l0_5.length l0_5) (hc0_5 : l0_5.length ≤ c0_5) (hr0_6 : Kd.C k101 w A0_6 l0_6.length l0_6) (hc0_6 : l0_6.length ≤ c0_6) (h : laws_FnExactPutMsg.f k a0_0 a0_1 a0_2 a0_3 l0_4 l0_5 l0_6 a0_7 = some r) :
    Calls Try.prog 5 #[.agg #[.int .i64 a0_0, .int .i64 a0_1, .int .i64 a0_2, .int .i64 a0_3, .slice A0_4 l0_4.length c0_4, .slice A0_5 l0_5.length c0_5, .slice A0_6 l0_6.length c0_6, .string a0_7]] w fun e w' => e = .returned (.bool r) ∧ Below w.heap.size w w' := by
  have hu28 := Try.underlying28
  have hu34 := Try.underlying34
  have HR0_4 := Aside0.mk hr0_4
  have HC0_4 := Aside0.mk hc0_4
  clear hr0_4 hc0_4
  have HR0_5 := Aside0.mk hr0_5
  have HC0_5 := Aside0.mk hc0_5
  clear hr0_5 hc0_5
  have HR0_6 := Aside0.mk hr0_6
  have HC0_6 := Aside0.mk hc0_6
  clear hr0_6 hc0_6
  have HB := Aside0.mk (Below.refl w.heap.size w)
  have H : ((laws_szMsg.f k a0_0 a0_1 a0_2 a0_3 l0_4 l0_5 l0_6 a0_7 1048576).bind fun t376 => (if t376 < 0 then (some true) else ((laws_toMsg.f k a0_0 a0_1 a0_2 a0_3 l0_4 l0_5 l0_6 a0_7).bind fun bt377 => ((spec_PutMsg.f k bt377.1 bt377.2.1 bt377.2.2.1 bt377.2.2.2.1 bt377.2.2.2.2.1 bt377.2.2.2.2.2.1 bt377.2.2.2.2.2.2.1 bt377.2.2.2.2.2.2.2).bind fun t391 => ((laws_toMsg.f k a0_0 a0_1 a0_2 a0_3 l0_4 l0_5 l0_6 a0_7).bind fun bt394 => ((impl_PutMsg.f k bt394.1 bt394.2.1 bt394.2.2.1 bt394.2.2.2.1 bt394.2.2.2.2.1 bt394.2.2.2.2.2.1 bt394.2.2.2.2.2.2.1 bt394.2.2.2.2.2.2.2).bind fun t409 => ((laws_eqByteS.f k t409 t391).bind fun t412 => (if t412 = true then ((laws_toMsg.f k a0_0 a0_1 a0_2 a0_3 l0_4 l0_5 l0_6 a0_7).bind fun bt413 => ((laws_eqMsg.f k bt394.1 bt394.2.1 bt394.2.2.1 bt394.2.2.2.1 bt394.2.2.2.2.1 bt394.2.2.2.2.2.1 bt394.2.2.2.2.2.2.1 bt394.2.2.2.2.2.2.2 bt413.1 bt413.2.1 bt413.2.2.1 bt413.2.2.2.1 bt413.2.2.2.2.1 bt413.2.2.2.2.2.1 bt413.2.2.2.2.2.2.1 bt413.2.2.2.2.2.2.2).bind fun t427 => (if t427 = true then ((laws_markMsg.f k bt394.1 bt394.2.1 bt394.2.2.1 bt394.2.2.2.1 bt394.2.2.2.2.1 bt394.2.2.2.2.2.1 bt394.2.2.2.2.2.2.1 bt394.2.2.2.2.2.2.2 1).bind fun bt428 => (if bt428.1 < 0 then (laws_FnExactPutMsg.j0 k t391 t409 true a0_0 a0_1 a0_2 a0_3 l0_4 l0_5 l0_6 a0_7) else ((laws_eqByteS.f k t409 t391).bind fun t432 => (laws_FnExactPutMsg.j0 k t391 t409 (!t432) a0_0 a0_1 a0_2 a0_3 l0_4 l0_5 l0_6 a0_7)))) else (some false)))) else (some false))))))))) = some r := h
  clear h
  replace H := Option.bind_eq_some_iff.mp H
  obtain ⟨t376, A20, H⟩ := H
  try dsimp only at H
  have A2 := Aside0.mk A20
  clear A20
  by_cases c3 : t376 < 0
  · rw [if_pos c3] at H
    have c3b0 : decide (t376 < 0) = true := decide_eq_true c3
    clear c3
    obtain rfl := Option.some.inj H
    go_enter Try.func5, Try.ntmps5
    go_wp2_with (first | ((with_reducible refine gate_dst (N := 1) rfl ?_); refine box_event ?hg (N := 1) ?hd (cs := #[.int .i64 a0_0, .int .i64 a0_1, .int .i64 a0_2, .int .i64 a0_3, .slice A0_4 l0_4.length c0_4, .slice A0_5 l0_5.length c0_5, .slice A0_6 l0_6.length c0_6, .string a0_7]) (t := 28) ?hr ?_; (case hd => rfl); (case hg => rfl); (case hr => first | (go_simp; done) | (go_simp; rfl)); intro gb375 hg w4 hbox hb; have n0_ := Aside0.mk (below_step (q13_22) hb); have n1_ := Aside0.mk (hbox); have n2_ := Aside0.mk ((q13_6 : w.heap.size ≤ gb375)); have n3_ := Aside0.mk ((q13_6 : w.heap.size ≤ gb375)); clear HB; have HB := n0_; have BK375 := n1_; have GW375 := n2_; have GE375 := n3_; clear n0_ n1_ n2_ n3_; clear hb hbox hg; have hcz5_0 : w4.cell? ⟨gb375, 0, none⟩ = some (.int .i64 a0_0) := (blk_cell BK375.out 0).trans rfl; have hcz5_1 : w4.cell? ⟨gb375, 1, none⟩ = some (.int .i64 a0_1) := (blk_cell BK375.out 1).trans rfl; have hcz5_2 : w4.cell? ⟨gb375, 2, none⟩ = some (.int .i64 a0_2) := (blk_cell BK375.out 2).trans rfl; have hcz5_3 : w4.cell? ⟨gb375, 3, none⟩ = some (.int .i64 a0_3) := (blk_cell BK375.out 3).trans rfl; have hcz5_4 : w4.cell? ⟨gb375, 4, none⟩ = some (.slice A0_4 l0_4.length c0_4) := (blk_cell BK375.out 4).trans rfl; have hcz5_5 : w4.cell? ⟨gb375, 5, none⟩ = some (.slice A0_5 l0_5.length c0_5) := (blk_cell BK375.out 5).trans rfl; have hcz5_6 : w4.cell? ⟨gb375, 6, none⟩ = some (.slice A0_6 l0_6.length c0_6) := (blk_cell BK375.out 6).trans rfl; have hcz5_7 : w4.cell? ⟨gb375, 7, none⟩ = some (.string a0_7) := (blk_cell BK375.out 7).trans rfl; have hfz5_0 := blk_frozen BK375.out 0; have hfz5_1 := blk_frozen BK375.out 1; have hfz5_2 := blk_frozen BK375.out 2; have hfz5_3 := blk_frozen BK375.out 3; have hfz5_4 := blk_frozen BK375.out 4; have hfz5_5 := blk_frozen BK375.out 5; have hfz5_6 := blk_frozen BK375.out 6; have hfz5_7 := blk_frozen BK375.out 7) | ((with_reducible refine gate_callee (f := 7) rfl ?_); refine goesL_ (some 13) rfl rfl Try.func7 (by kernel_rfl) rfl #[.agg #[.int .i64 a0_0, .int .i64 a0_1, .int .i64 a0_2, .int .i64 a0_3, .slice A0_4 l0_4.length c0_4, .slice A0_5 l0_5.length c0_5, .slice A0_6 l0_6.length c0_6, .string a0_7], .int .i64 1048576] rfl (q13_21) ?_; (with_reducible refine (laws_szMsg.calls k a0_0 a0_1 a0_2 a0_3 _ _ l0_4 _ _ l0_5 _ _ l0_6 a0_7 1048576 t376 _ ?side1 ?side2 ?side3 ?side4 ?side5 ?side6 A2.out).mono ?_); (case side1 => repeat (first | exact (Kd.C_below HR0_4.out HB.out) | (with_reducible refine Kd.C_alloc ?_ _) | (with_reducible refine Kd.C_drewN ?_ _) | (with_reducible refine Kd.C_drew ?_))); (case side2 => exact HC0_4.out); (case side3 => repeat (first | exact (Kd.C_below HR0_5.out HB.out) | (with_reducible refine Kd.C_alloc ?_ _) | (with_reducible refine Kd.C_drewN ?_ _) | (with_reducible refine Kd.C_drew ?_))); (case side4 => exact HC0_5.out); (case side5 => repeat (first | exact (Kd.C_below HR0_6.out HB.out) | (with_reducible refine Kd.C_alloc ?_ _) | (with_reducible refine Kd.C_drewN ?_ _) | (with_reducible refine Kd.C_drew ?_))); (case side6 => exact HC0_6.out); rintro e w6 ⟨rfl, hb⟩; refine ⟨_, rfl, ?_⟩; have n0_ := Aside0.mk (blk_below (g := gb375) (o := .cells #[.int .i64 a0_0, .int .i64 a0_1, .int .i64 a0_2, .int .i64 a0_3, .slice A0_4 l0_4.length c0_4, .slice A0_5 l0_5.length c0_5, .slice A0_6 l0_6.length c0_6, .string a0_7] 28 (0, 0)) (q13_25) hb); have n1_ := Aside0.mk (below_step (q13_7) hb); clear BK375; clear HB; have BK375 := n0_; have HB := n1_; clear n0_ n1_; (try clear hb); (try clear hb2); (try clear hk); (try clear hi)))
    go_ret
    exact ⟨by first | rfl | (simp [errW_none, errW_some] <;> rfl) | (simp [*, errW_none, errW_some] <;> rfl), q13_7⟩
  · rw [if_neg c3] at H
    have c3b0 : decide (t376 < 0) = false := decide_eq_false c3
    clear c3
    replace H := Option.bind_eq_some_iff.mp H
    obtain ⟨⟨t377, t378, t379, t380, t381, t384, t387, t390⟩, A70, H⟩ := H
    try dsimp only at H
    have A7 := Aside0.mk A70
    clear A70
    replace H := Option.bind_eq_some_iff.mp H
    obtain ⟨t391, A80, H⟩ := H
    try dsimp only at H
    have A8 := Aside0.mk A80
    clear A80
    replace H := Option.bind_eq_some_iff.mp H
    obtain ⟨⟨t394, t395, t396, t397, t398, t401, t404, t407⟩, A90, H⟩ := H
    try dsimp only at H
    have A9 := Aside0.mk A90
    clear A90
    replace H := Option.bind_eq_some_iff.mp H
    obtain ⟨t409, A100, H⟩ := H
    try dsimp only at H
    have A10 := Aside0.mk A100
    clear A100
    replace H := Option.bind_eq_some_iff.mp H
    obtain ⟨t412, A110, H⟩ := H
    try dsimp only at H
    have A11 := Aside0.mk A110
    clear A110
    by_cases c12 : t412 = true
    · subst c12
      have H1 : ((laws_toMsg.f k a0_0 a0_1 a0_2 a0_3 l0_4 l0_5 l0_6 a0_7).bind fun bt413 => ((laws_eqMsg.f k t394 t395 t396 t397 t398 t401 t404 t407 bt413.1 bt413.2.1 bt413.2.2.1 bt413.2.2.2.1 bt413.2.2.2.2.1 bt413.2.2.2.2.2.1 bt413.2.2.2.2.2.2.1 bt413.2.2.2.2.2.2.2).bind fun t427 => (if t427 = true then ((laws_markMsg.f k t394 t395 t396 t397 t398 t401 t404 t407 1).bind fun bt428 => (if bt428.1 < 0 then (laws_FnExactPutMsg.j0 k t391 t409 true a0_0 a0_1 a0_2 a0_3 l0_4 l0_5 l0_6 a0_7) else ((laws_eqByteS.f k t409 t391).bind fun t432 => (laws_FnExactPutMsg.j0 k t391 t409 (!t432) a0_0 a0_1 a0_2 a0_3 l0_4 l0_5 l0_6 a0_7)))) else (some false)))) = some r := by rw [if_pos rfl] at H; exact H
      clear H
      have H := H1
      clear H1
      replace H := Option.bind_eq_some_iff.mp H
      obtain ⟨⟨t413, t414, t415, t416, t417, t420, t423, t426⟩, A130, H⟩ := H
      try dsimp only at H
      have A13 := Aside0.mk A130
      clear A130
      replace H := Option.bind_eq_some_iff.mp H
      obtain ⟨t427, A140, H⟩ := H
      try dsimp only at H
      have A14 := Aside0.mk A140
      clear A140
      by_cases c15 : t427 = true
      · subst c15
        have H1 : ((laws_markMsg.f k t394 t395 t396 t397 t398 t401 t404 t407 1).bind fun bt428 => (if bt428.1 < 0 then (laws_FnExactPutMsg.j0 k t391 t409 true a0_0 a0_1 a0_2 a0_3 l0_4 l0_5 l0_6 a0_7) else ((laws_eqByteS.f k t409 t391).bind fun t432 => (laws_FnExactPutMsg.j0 k t391 t409 (!t432) a0_0 a0_1 a0_2 a0_3 l0_4 l0_5 l0_6 a0_7)))) = some r := by rw [if_pos rfl] at H; exact H
        clear H
        have H := H1
        clear H1
        replace H := Option.bind_eq_some_iff.mp H
        obtain ⟨⟨t428, t429, t430, t431⟩, A160, H⟩ := H
        try dsimp only at H
        have A16 := Aside0.mk A160
        clear A160
        have HC17 := Aside0.mk H
        clear H
        go_enter Try.func5, Try.ntmps5
        try go_wp2_with (first | ((with_reducible refine gate_dst (N := 1) rfl ?_); refine box_event ?hg (N := 1) ?hd (cs := #[.int .i64 a0_0, .int .i64 a0_1, .int .i64 a0_2, .int .i64 a0_3, .slice A0_4 l0_4.length c0_4, .slice A0_5 l0_5.length c0_5, .slice A0_6 l0_6.length c0_6, .string a0_7]) (t := 28) ?hr ?_; (case hd => rfl); (case hg => rfl); (case hr => first | (go_simp; done) | (go_simp; rfl)); intro gb375 hg w18 hbox hb; have n0_ := Aside0.mk (below_step (q13_22) hb); have n1_ := Aside0.mk (hbox); have n2_ := Aside0.mk ((q13_6 : w.heap.size ≤ gb375)); have n3_ := Aside0.mk ((q13_6 : w.heap.size ≤ gb375)); clear HB; have HB := n0_; have BK375 := n1_; have GW375 := n2_; have GE375 := n3_; clear n0_ n1_ n2_ n3_; clear hb hbox hg; have hcz19_0 : w18.cell? ⟨gb375, 0, none⟩ = some (.int .i64 a0_0) := (blk_cell BK375.out 0).trans rfl; have hcz19_1 : w18.cell? ⟨gb375, 1, none⟩ = some (.int .i64 a0_1) := (blk_cell BK375.out 1).trans rfl; have hcz19_2 : w18.cell? ⟨gb375, 2, none⟩ = some (.int .i64 a0_2) := (blk_cell BK375.out 2).trans rfl; have hcz19_3 : w18.cell? ⟨gb375, 3, none⟩ = some (.int .i64 a0_3) := (blk_cell BK375.out 3).trans rfl; have hcz19_4 : w18.cell? ⟨gb375, 4, none⟩ = some (.slice A0_4 l0_4.length c0_4) := (blk_cell BK375.out 4).trans rfl; have hcz19_5 : w18.cell? ⟨gb375, 5, none⟩ = some (.slice A0_5 l0_5.length c0_5) := (blk_cell BK375.out 5).trans rfl; have hcz19_6 : w18.cell? ⟨gb375, 6, none⟩ = some (.slice A0_6 l0_6.length c0_6) := (blk_cell BK375.out 6).trans rfl; have hcz19_7 : w18.cell? ⟨gb375, 7, none⟩ = some (.string a0_7) := (blk_cell BK375.out 7).trans rfl; have hfz19_0 := blk_frozen BK375.out 0; have hfz19_1 := blk_frozen BK375.out 1; have hfz19_2 := blk_frozen BK375.out 2; have hfz19_3 := blk_frozen BK375.out 3; have hfz19_4 := blk_frozen BK375.out 4; have hfz19_5 := blk_frozen BK375.out 5; have hfz19_6 := blk_frozen BK375.out 6; have hfz19_7 := blk_frozen BK375.out 7) | ((with_reducible refine gate_callee (f := 7) rfl ?_); refine goesL_ (some 13) rfl rfl Try.func7 (by kernel_rfl) rfl #[.agg #[.int .i64 a0_0, .int .i64 a0_1, .int .i64 a0_2, .int .i64 a0_3, .slice A0_4 l0_4.length c0_4, .slice A0_5 l0_5.length c0_5, .slice A0_6 l0_6.length c0_6, .string a0_7], .int .i64 1048576] rfl (q13_21) ?_; (with_reducible refine (laws_szMsg.calls k a0_0 a0_1 a0_2 a0_3 _ _ l0_4 _ _ l0_5 _ _ l0_6 a0_7 1048576 t376 _ ?side1 ?side2 ?side3 ?side4 ?side5 ?side6 A2.out).mono ?_); (case side1 => repeat (first | exact (Kd.C_below HR0_4.out HB.out) | (with_reducible refine Kd.C_alloc ?_ _) | (with_reducible refine Kd.C_drewN ?_ _) | (with_reducible refine Kd.C_drew ?_))); (case side2 => exact HC0_4.out); (case side3 => repeat (first | exact (Kd.C_below HR0_5.out HB.out) | (with_reducible refine Kd.C_alloc ?_ _) | (with_reducible refine Kd.C_drewN ?_ _) | (with_reducible refine Kd.C_drew ?_))); (case side4 => exact HC0_5.out); (case side5 => repeat (first | exact (Kd.C_below HR0_6.out HB.out) | (with_reducible refine Kd.C_alloc ?_ _) | (with_reducible refine Kd.C_drewN ?_ _) | (with_reducible refine Kd.C_drew ?_))); (case side6 => exact HC0_6.out); rintro e w20 ⟨rfl, hb⟩; refine ⟨_, rfl, ?_⟩; have n0_ := Aside0.mk (blk_below (g := gb375) (o := .cells #[.int .i64 a0_0, .int .i64 a0_1, .int .i64 a0_2, .int .i64 a0_3, .slice A0_4 l0_4.length c0_4, .slice A0_5 l0_5.length c0_5, .slice A0_6 l0_6.length c0_6, .string a0_7] 28 (0, 0)) (q13_25) hb); have n1_ := Aside0.mk (below_step (q13_7) hb); clear BK375; clear HB; have BK375 := n0_; have HB := n1_; clear n0_ n1_; (try clear hb); (try clear hb2); (try clear hk); (try clear hi); have hcz21_0 : w20.cell? ⟨gb375, 0, none⟩ = some (.int .i64 a0_0) := (blk_cell BK375.out 0).trans rfl; have hcz21_1 : w20.cell? ⟨gb375, 1, none⟩ = some (.int .i64 a0_1) := (blk_cell BK375.out 1).trans rfl; have hcz21_2 : w20.cell? ⟨gb375, 2, none⟩ = some (.int .i64 a0_2) := (blk_cell BK375.out 2).trans rfl; have hcz21_3 : w20.cell? ⟨gb375, 3, none⟩ = some (.int .i64 a0_3) := (blk_cell BK375.out 3).trans rfl; have hcz21_4 : w20.cell? ⟨gb375, 4, none⟩ = some (.slice A0_4 l0_4.length c0_4) := (blk_cell BK375.out 4).trans rfl; have hcz21_5 : w20.cell? ⟨gb375, 5, none⟩ = some (.slice A0_5 l0_5.length c0_5) := (blk_cell BK375.out 5).trans rfl; have hcz21_6 : w20.cell? ⟨gb375, 6, none⟩ = some (.slice A0_6 l0_6.length c0_6) := (blk_cell BK375.out 6).trans rfl; have hcz21_7 : w20.cell? ⟨gb375, 7, none⟩ = some (.string a0_7) := (blk_cell BK375.out 7).trans rfl; have hfz21_0 := blk_frozen BK375.out 0; have hfz21_1 := blk_frozen BK375.out 1; have hfz21_2 := blk_frozen BK375.out 2; have hfz21_3 := blk_frozen BK375.out 3; have hfz21_4 := blk_frozen BK375.out 4; have hfz21_5 := blk_frozen BK375.out 5; have hfz21_6 := blk_frozen BK375.out 6; have hfz21_7 := blk_frozen BK375.out 7) | ((with_reducible refine gate_callee (f := 9) rfl ?_); refine goesL_ (some 17) rfl rfl Try.func9 (by kernel_rfl) rfl #[.agg #[.int .i64 a0_0, .int .i64 a0_1, .int .i64 a0_2, .int .i64 a0_3, .slice A0_4 l0_4.length c0_4, .slice A0_5 l0_5.length c0_5, .slice A0_6 l0_6.length c0_6, .string a0_7]] rfl (q13_21) ?_; (with_reducible refine (laws_toMsg.calls k a0_0 a0_1 a0_2 a0_3 _ _ l0_4 _ _ l0_5 _ _ l0_6 a0_7 t377 t378 t379 t380 t381 t384 t387 t390 _ ?side1 ?side2 ?side3 ?side4 ?side5 ?side6 A7.out).mono ?_); (case side1 => repeat (first | exact (Kd.C_below HR0_4.out HB.out) | (with_reducible refine Kd.C_alloc ?_ _) | (with_reducible refine Kd.C_drewN ?_ _) | (with_reducible refine Kd.C_drew ?_))); (case side2 => exact HC0_4.out); (case side3 => repeat (first | exact (Kd.C_below HR0_5.out HB.out) | (with_reducible refine Kd.C_alloc ?_ _) | (with_reducible refine Kd.C_drewN ?_ _) | (with_reducible refine Kd.C_drew ?_))); (case side4 => exact HC0_5.out); (case side5 => repeat (first | exact (Kd.C_below HR0_6.out HB.out) | (with_reducible refine Kd.C_alloc ?_ _) | (with_reducible refine Kd.C_drewN ?_ _) | (with_reducible refine Kd.C_drew ?_))); (case side6 => exact HC0_6.out); rintro e w22 ⟨v382, v385, v388, rfl, ho0, ho1, ho2, hb⟩; refine ⟨_, rfl, ?_⟩; have n0_ := Aside0.mk (Kd.R_lower ho0 (below_size (q13_7))); have n1_ := Aside0.mk (Kd.R_lower ho1 (below_size (q13_7))); have n2_ := Aside0.mk (Kd.R_lower ho2 (below_size (q13_7))); have n3_ := Aside0.mk (blk_below (g := gb375) (o := .cells #[.int .i64 a0_0, .int .i64 a0_1, .int .i64 a0_2, .int .i64 a0_3, .slice A0_4 l0_4.length c0_4, .slice A0_5 l0_5.length c0_5, .slice A0_6 l0_6.length c0_6, .string a0_7] 28 (0, 0)) (q13_25) hb); have n4_ := Aside0.mk (below_step (q13_7) hb); clear BK375; clear HB; have HO383 := n0_; have HO386 := n1_; have HO389 := n2_; have BK375 := n3_; have HB := n4_; clear n0_ n1_ n2_ n3_ n4_; (try clear hb); (try clear hb2); (try clear hk); (try clear hi); (try clear ho0); (try clear ho1); (try clear ho2); obtain ⟨Ao23, co23, eo23⟩ := Kd.R_slice HO383.out; subst eo23; obtain ⟨Ao24, co24, eo24⟩ := Kd.R_slice HO386.out; subst eo24; obtain ⟨Ao25, co25, eo25⟩ := Kd.R_slice HO389.out; subst eo25) | ((with_reducible refine gate_callee (f := 21) rfl ?_); refine goesL_ (some 18) rfl rfl Try.func21 (by kernel_rfl) rfl #[.agg #[.int .i64 t377, .int .i64 t378, .int .i64 t379, .int .i64 t380, .slice Ao23 t381.length co23, .slice Ao24 t384.length co24, .slice Ao25 t387.length co25, .string t390]] rfl (q13_21) ?_; (with_reducible refine (spec_PutMsg.calls k t377 t378 t379 t380 _ _ t381 _ _ t384 _ _ t387 t390 t391 _ ?side1 ?side2 ?side3 ?side4 ?side5 ?side6 A8.out).mono ?_); (case side1 => repeat (first | exact (Kd.R_reads' HO383.out).2.2 | (with_reducible refine Kd.C_alloc ?_ _) | (with_reducible refine Kd.C_drewN ?_ _) | (with_reducible refine Kd.C_drew ?_))); (case side2 => exact (Kd.R_reads' HO383.out).2.1); (case side3 => repeat (first | exact (Kd.R_reads' HO386.out).2.2 | (with_reducible refine Kd.C_alloc ?_ _) | (with_reducible refine Kd.C_drewN ?_ _) | (with_reducible refine Kd.C_drew ?_))); (case side4 => exact (Kd.R_reads' HO386.out).2.1); (case side5 => repeat (first | exact (Kd.R_reads' HO389.out).2.2 | (with_reducible refine Kd.C_alloc ?_ _) | (with_reducible refine Kd.C_drewN ?_ _) | (with_reducible refine Kd.C_drew ?_))); (case side6 => exact (Kd.R_reads' HO389.out).2.1); rintro e w26 ⟨v392, rfl, ho0, hb⟩; refine ⟨_, rfl, ?_⟩; have n0_ := Aside0.mk (Kd.R_below (q13_18) hb); have n1_ := Aside0.mk (Kd.R_below (q13_17) hb); have n2_ := Aside0.mk (Kd.R_below (q13_16) hb); have n3_ := Aside0.mk (Kd.R_lower ho0 (below_size (q13_7))); have n4_ := Aside0.mk (blk_below (g := gb375) (o := .cells #[.int .i64 a0_0, .int .i64 a0_1, .int .i64 a0_2, .int .i64 a0_3, .slice A0_4 l0_4.length c0_4, .slice A0_5 l0_5.length c0_5, .slice A0_6 l0_6.length c0_6, .string a0_7] 28 (0, 0)) (q13_25) hb); have n5_ := Aside0.mk (below_step (q13_7) hb); clear HO383; clear HO386; clear HO389; clear BK375; clear HB; have HO383 := n0_; have HO386 := n1_; have HO389 := n2_; have HO393 := n3_; have BK375 := n4_; have HB := n5_; clear n0_ n1_ n2_ n3_ n4_ n5_; (try clear hb); (try clear hb2); (try clear hk); (try clear hi); (try clear ho0); have hcz27_0 : w26.cell? ⟨gb375, 0, none⟩ = some (.int .i64 a0_0) := (blk_cell BK375.out 0).trans rfl; have hcz27_1 : w26.cell? ⟨gb375, 1, none⟩ = some (.int .i64 a0_1) := (blk_cell BK375.out 1).trans rfl; have hcz27_2 : w26.cell? ⟨gb375, 2, none⟩ = some (.int .i64 a0_2) := (blk_cell BK375.out 2).trans rfl; have hcz27_3 : w26.cell? ⟨gb375, 3, none⟩ = some (.int .i64 a0_3) := (blk_cell BK375.out 3).trans rfl; have hcz27_4 : w26.cell? ⟨gb375, 4, none⟩ = some (.slice A0_4 l0_4.length c0_4) := (blk_cell BK375.out 4).trans rfl; have hcz27_5 : w26.cell? ⟨gb375, 5, none⟩ = some (.slice A0_5 l0_5.length c0_5) := (blk_cell BK375.out 5).trans rfl; have hcz27_6 : w26.cell? ⟨gb375, 6, none⟩ = some (.slice A0_6 l0_6.length c0_6) := (blk_cell BK375.out 6).trans rfl; have hcz27_7 : w26.cell? ⟨gb375, 7, none⟩ = some (.string a0_7) := (blk_cell BK375.out 7).trans rfl; have hfz27_0 := blk_frozen BK375.out 0; have hfz27_1 := blk_frozen BK375.out 1; have hfz27_2 := blk_frozen BK375.out 2; have hfz27_3 := blk_frozen BK375.out 3; have hfz27_4 := blk_frozen BK375.out 4; have hfz27_5 := blk_frozen BK375.out 5; have hfz27_6 := blk_frozen BK375.out 6; have hfz27_7 := blk_frozen BK375.out 7) | ((with_reducible refine gate_callee (f := 9) rfl ?_); refine goesL_ (some 20) rfl rfl Try.func9 (by kernel_rfl) rfl #[.agg #[.int .i64 a0_0, .int .i64 a0_1, .int .i64 a0_2, .int .i64 a0_3, .slice A0_4 l0_4.length c0_4, .slice A0_5 l0_5.length c0_5, .slice A0_6 l0_6.length c0_6, .string a0_7]] rfl (q13_21) ?_; (with_reducible refine (laws_toMsg.calls k a0_0 a0_1 a0_2 a0_3 _ _ l0_4 _ _ l0_5 _ _ l0_6 a0_7 t394 t395 t396 t397 t398 t401 t404 t407 _ ?side1 ?side2 ?side3 ?side4 ?side5 ?side6 A9.out).mono ?_); (case side1 => repeat (first | exact (Kd.C_below HR0_4.out HB.out) | (with_reducible refine Kd.C_alloc ?_ _) | (with_reducible refine Kd.C_drewN ?_ _) | (with_reducible refine Kd.C_drew ?_))); (case side2 => exact HC0_4.out); (case side3 => repeat (first | exact (Kd.C_below HR0_5.out HB.out) | (with_reducible refine Kd.C_alloc ?_ _) | (with_reducible refine Kd.C_drewN ?_ _) | (with_reducible refine Kd.C_drew ?_))); (case side4 => exact HC0_5.out); (case side5 => repeat (first | exact (Kd.C_below HR0_6.out HB.out) | (with_reducible refine Kd.C_alloc ?_ _) | (with_reducible refine Kd.C_drewN ?_ _) | (with_reducible refine Kd.C_drew ?_))); (case side6 => exact HC0_6.out); rintro e w28 ⟨v399, v402, v405, rfl, ho0, ho1, ho2, hb⟩; refine ⟨_, rfl, ?_⟩; have n0_ := Aside0.mk (Kd.R_elder' (q13_18) (Kd.R_base ho0) hb); have n1_ := Aside0.mk (Kd.R_elder' (q13_17) (Kd.R_base ho1) hb); have n2_ := Aside0.mk (Kd.R_elder' (q13_16) (Kd.R_base ho2) hb); have n3_ := Aside0.mk (Kd.R_below (q13_15) hb); have n4_ := Aside0.mk (Kd.R_lower (Kd.R_new' ho0 (Kd.R_lt (q13_18))) (below_size (q13_7))); have n5_ := Aside0.mk (Kd.R_lower (Kd.R_new' ho1 (Kd.R_lt (q13_17))) (below_size (q13_7))); have n6_ := Aside0.mk (Kd.R_lower (Kd.R_new' ho2 (Kd.R_lt (q13_16))) (below_size (q13_7))); have n7_ := Aside0.mk (blk_below (g := gb375) (o := .cells #[.int .i64 a0_0, .int .i64 a0_1, .int .i64 a0_2, .int .i64 a0_3, .slice A0_4 l0_4.length c0_4, .slice A0_5 l0_5.length c0_5, .slice A0_6 l0_6.length c0_6, .string a0_7] 28 (0, 0)) (q13_25) hb); have n8_ := Aside0.mk (below_step (q13_7) hb); clear HO383; clear HO386; clear HO389; clear HO393; clear BK375; clear HB; have HO383 := n0_; have HO386 := n1_; have HO389 := n2_; have HO393 := n3_; have HO400 := n4_; have HO403 := n5_; have HO406 := n6_; have BK375 := n7_; have HB := n8_; clear n0_ n1_ n2_ n3_ n4_ n5_ n6_ n7_ n8_; (try clear hb); (try clear hb2); (try clear hk); (try clear hi); (try clear ho0); (try clear ho1); (try clear ho2)) | ((with_reducible refine gate_dst (N := 5) rfl ?_); refine box_event ?hg (N := 5) ?hd (cs := #[.int .i64 0, .int .i64 0, .int .i64 0, .int .i64 0, .slice none 0 0, .slice none 0 0, .slice none 0 0, .string (⟨#[]⟩ : ByteArray)]) (t := 34) ?hr ?_; (case hd => rfl); (case hg => rfl); (case hr => first | (go_simp; done) | (go_simp; rfl)); intro gb408 hg w29 hbox hb; have n0_ := Aside0.mk (Kd.R_below (q13_18) hb); have n1_ := Aside0.mk (Kd.R_below (q13_17) hb); have n2_ := Aside0.mk (Kd.R_below (q13_16) hb); have n3_ := Aside0.mk (Kd.R_below (q13_15) hb); have n4_ := Aside0.mk (Kd.R_below (q13_14) hb); have n5_ := Aside0.mk (Kd.R_below (q13_13) hb); have n6_ := Aside0.mk (Kd.R_below (q13_12) hb); have n7_ := Aside0.mk (blk_below (g := gb375) (o := .cells #[.int .i64 a0_0, .int .i64 a0_1, .int .i64 a0_2, .int .i64 a0_3, .slice A0_4 l0_4.length c0_4, .slice A0_5 l0_5.length c0_5, .slice A0_6 l0_6.length c0_6, .string a0_7] 28 (0, 0)) (q13_25) hb); have n8_ := Aside0.mk (below_step (q13_7) hb); have n9_ := Aside0.mk (hbox); have n10_ := Aside0.mk ((by rw [hg]; exact (below_size (q13_7)) : w.heap.size ≤ gb408)); have n11_ := Aside0.mk ((by rw [hg]; exact (below_size (q13_7)) : w.heap.size ≤ gb408)); have n12_ := Aside0.mk ((by rw [hg]; exact Nat.ne_of_lt (blk_lt (g := gb375) (o := .cells #[.int .i64 a0_0, .int .i64 a0_1, .int .i64 a0_2, .int .i64 a0_3, .slice A0_4 l0_4.length c0_4, .slice A0_5 l0_5.length c0_5, .slice A0_6 l0_6.length c0_6, .string a0_7] 28 (0, 0)) (q13_25)) : gb375 ≠ gb408)); have n13_ := Aside0.mk ((by rw [hg]; exact Nat.ne_of_gt (blk_lt (g := gb375) (o := .cells #[.int .i64 a0_0, .int .i64 a0_1, .int .i64 a0_2, .int .i64 a0_3, .slice A0_4 l0_4.length c0_4, .slice A0_5 l0_5.length c0_5, .slice A0_6 l0_6.length c0_6, .string a0_7] 28 (0, 0)) (q13_25)) : gb408 ≠ gb375)); clear HO383; clear HO386; clear HO389; clear HO393; clear HO400; clear HO403; clear HO406; clear BK375; clear HB; have HO383 := n0_; have HO386 := n1_; have HO389 := n2_; have HO393 := n3_; have HO400 := n4_; have HO403 := n5_; have HO406 := n6_; have BK375 := n7_; have HB := n8_; have BK408 := n9_; have GW408 := n10_; have GE408 := n11_; have NB375_408 := n12_; have NB408_375 := n13_; clear n0_ n1_ n2_ n3_ n4_ n5_ n6_ n7_ n8_ n9_ n10_ n11_ n12_ n13_; clear hb hbox hg; have hnb30 := NB408_375.out; have hnc30 := NB375_408.out; have hcz31_0 : w29.cell? ⟨gb408, 0, none⟩ = some (.int .i64 0) := (blk_cell BK408.out 0).trans rfl; have hcz31_1 : w29.cell? ⟨gb408, 1, none⟩ = some (.int .i64 0) := (blk_cell BK408.out 1).trans rfl; have hcz31_2 : w29.cell? ⟨gb408, 2, none⟩ = some (.int .i64 0) := (blk_cell BK408.out 2).trans rfl; have hcz31_3 : w29.cell? ⟨gb408, 3, none⟩ = some (.int .i64 0) := (blk_cell BK408.out 3).trans rfl; have hcz31_4 : w29.cell? ⟨gb408, 4, none⟩ = some (.slice none 0 0) := (blk_cell BK408.out 4).trans rfl; have hcz31_5 : w29.cell? ⟨gb408, 5, none⟩ = some (.slice none 0 0) := (blk_cell BK408.out 5).trans rfl; have hcz31_6 : w29.cell? ⟨gb408, 6, none⟩ = some (.slice none 0 0) := (blk_cell BK408.out 6).trans rfl; have hcz31_7 : w29.cell? ⟨gb408, 7, none⟩ = some (.string (⟨#[]⟩ : ByteArray)) := (blk_cell BK408.out 7).trans rfl; have hfz31_0 := blk_frozen BK408.out 0; have hfz31_1 := blk_frozen BK408.out 1; have hfz31_2 := blk_frozen BK408.out 2; have hfz31_3 := blk_frozen BK408.out 3; have hfz31_4 := blk_frozen BK408.out 4; have hfz31_5 := blk_frozen BK408.out 5; have hfz31_6 := blk_frozen BK408.out 6; have hfz31_7 := blk_frozen BK408.out 7; obtain ⟨Ao32, co32, eo32⟩ := Kd.R_slice HO400.out; subst eo32; obtain ⟨Ao33, co33, eo33⟩ := Kd.R_slice HO403.out; subst eo33; obtain ⟨Ao34, co34, eo34⟩ := Kd.R_slice HO406.out; subst eo34) | ((with_reducible refine gate_callee (f := 22) rfl ?_); refine goesL_ (some 22) rfl rfl Try.func22 (by kernel_rfl) rfl #[.agg #[.int .i64 t394, .int .i64 t395, .int .i64 t396, .int .i64 t397, .slice Ao32 t398.length co32, .slice Ao33 t401.length co33, .slice Ao34 t404.length co34, .string t407]] rfl (q13_21) ?_; (with_reducible refine (impl_PutMsg.calls k t394 t395 t396 t397 _ _ t398 _ _ t401 _ _ t404 t407 t409 _ ?side1 ?side2 ?side3 ?side4 ?side5 ?side6 A10.out).mono ?_); (case side1 => refine (Kd.R_reads' (e := 38) (base := w.heap.size) (ok := fun k_ => (True ∧ some k_ ≠ (.slice Ao23 t381.length co23 : Value).ownBlock)) (n := t398.length) (c := co32) ?_).2.2; exact (q13_3)); (case side2 => exact (Kd.R_reads' HO400.out).2.1); (case side3 => refine (Kd.R_reads' (e := 9) (base := w.heap.size) (ok := fun k_ => (True ∧ some k_ ≠ (.slice Ao24 t384.length co24 : Value).ownBlock)) (n := t401.length) (c := co33) ?_).2.2; exact (q13_2)); (case side4 => exact (Kd.R_reads' HO403.out).2.1); (case side5 => refine (Kd.R_reads' (e := 103) (base := w.heap.size) (ok := fun k_ => (True ∧ some k_ ≠ (.slice Ao25 t387.length co25 : Value).ownBlock)) (n := t404.length) (c := co34) ?_).2.2; exact (q13_1)); (case side6 => exact (Kd.R_reads' HO406.out).2.1); rintro e w35 ⟨v410, rfl, ho0, hb⟩; refine ⟨_, rfl, ?_⟩; have n0_ := Aside0.mk (Kd.R_below (by (with_reducible repeat (first | apply Kd.R_alloc | apply Kd.R_drewN | apply Kd.R_drew | apply Cw.R_alloc | apply Cw.R_drewN | apply Cw.R_drew)); exact (Kd.R_mono (Kd.R_far (p := ⟨gb408, 7, none⟩) (Kd.R_far (p := ⟨gb408, 6, none⟩) (Kd.R_far (p := ⟨gb408, 5, none⟩) (Kd.R_far (p := ⟨gb408, 4, none⟩) (Kd.R_far (p := ⟨gb408, 3, none⟩) (Kd.R_far (p := ⟨gb408, 2, none⟩) (Kd.R_far (p := ⟨gb408, 1, none⟩) (Kd.R_far (p := ⟨gb408, 0, none⟩) (Kd.R_types HO383.out BK408.out (by decide)) (fun _ hk => hk.2) (.int .i64 t394)) (fun _ hk => hk.2) (.int .i64 t395)) (fun _ hk => hk.2) (.int .i64 t396)) (fun _ hk => hk.2) (.int .i64 t397)) (fun _ hk => hk.2) (.slice Ao32 t398.length co32)) (fun _ hk => hk.2) (.slice Ao33 t401.length co33)) (fun _ hk => hk.2) (.slice Ao34 t404.length co34)) (fun _ hk => hk.2) (.string t407)) (fun _ h_ => h_.1))) hb); have n1_ := Aside0.mk (Kd.R_below (by (with_reducible repeat (first | apply Kd.R_alloc | apply Kd.R_drewN | apply Kd.R_drew | apply Cw.R_alloc | apply Cw.R_drewN | apply Cw.R_drew)); exact (Kd.R_mono (Kd.R_far (p := ⟨gb408, 7, none⟩) (Kd.R_far (p := ⟨gb408, 6, none⟩) (Kd.R_far (p := ⟨gb408, 5, none⟩) (Kd.R_far (p := ⟨gb408, 4, none⟩) (Kd.R_far (p := ⟨gb408, 3, none⟩) (Kd.R_far (p := ⟨gb408, 2, none⟩) (Kd.R_far (p := ⟨gb408, 1, none⟩) (Kd.R_far (p := ⟨gb408, 0, none⟩) (Kd.R_types HO386.out BK408.out (by decide)) (fun _ hk => hk.2) (.int .i64 t394)) (fun _ hk => hk.2) (.int .i64 t395)) (fun _ hk => hk.2) (.int .i64 t396)) (fun _ hk => hk.2) (.int .i64 t397)) (fun _ hk => hk.2) (.slice Ao32 t398.length co32)) (fun _ hk => hk.2) (.slice Ao33 t401.length co33)) (fun _ hk => hk.2) (.slice Ao34 t404.length co34)) (fun _ hk => hk.2) (.string t407)) (fun _ h_ => h_.1))) hb); have n2_ := Aside0.mk (Kd.R_below (by (with_reducible repeat (first | apply Kd.R_alloc | apply Kd.R_drewN | apply Kd.R_drew | apply Cw.R_alloc | apply Cw.R_drewN | apply Cw.R_drew)); exact (Kd.R_mono (Kd.R_far (p := ⟨gb408, 7, none⟩) (Kd.R_far (p := ⟨gb408, 6, none⟩) (Kd.R_far (p := ⟨gb408, 5, none⟩) (Kd.R_far (p := ⟨gb408, 4, none⟩) (Kd.R_far (p := ⟨gb408, 3, none⟩) (Kd.R_far (p := ⟨gb408, 2, none⟩) (Kd.R_far (p := ⟨gb408, 1, none⟩) (Kd.R_far (p := ⟨gb408, 0, none⟩) (Kd.R_types HO389.out BK408.out (by decide)) (fun _ hk => hk.2) (.int .i64 t394)) (fun _ hk => hk.2) (.int .i64 t395)) (fun _ hk => hk.2) (.int .i64 t396)) (fun _ hk => hk.2) (.int .i64 t397)) (fun _ hk => hk.2) (.slice Ao32 t398.length co32)) (fun _ hk => hk.2) (.slice Ao33 t401.length co33)) (fun _ hk => hk.2) (.slice Ao34 t404.length co34)) (fun _ hk => hk.2) (.string t407)) (fun _ h_ => h_.1))) hb); have n3_ := Aside0.mk (Kd.R_elder' (q13_4) (Cw.R_base ho0) hb); have n4_ := Aside0.mk (Kd.R_below (q13_3) hb); have n5_ := Aside0.mk (Kd.R_below (q13_2) hb); have n6_ := Aside0.mk (Kd.R_below (q13_1) hb); have n7_ := Aside0.mk (Cw.R_lower (Cw.R_new' ho0 (Kd.R_lt (q13_4))) (below_size (q13_5))); have n8_ := Aside0.mk (blk_below (g := gb375) (o := .cells #[.int .i64 a0_0, .int .i64 a0_1, .int .i64 a0_2, .int .i64 a0_3, .slice A0_4 l0_4.length c0_4, .slice A0_5 l0_5.length c0_5, .slice A0_6 l0_6.length c0_6, .string a0_7] 28 (0, 0)) (by (with_reducible repeat (first | refine blk_drewN ?_ _ | refine blk_drew ?_ | refine blk_alloc ?_ _)); refine blk_far ?_ NB375_408.out _; (with_reducible repeat (first | refine blk_drewN ?_ _ | refine blk_drew ?_ | refine blk_alloc ?_ _)); refine blk_far ?_ NB375_408.out _; (with_reducible repeat (first | refine blk_drewN ?_ _ | refine blk_drew ?_ | refine blk_alloc ?_ _)); refine blk_far ?_ NB375_408.out _; (with_reducible repeat (first | refine blk_drewN ?_ _ | refine blk_drew ?_ | refine blk_alloc ?_ _)); refine blk_far ?_ NB375_408.out _; (with_reducible repeat (first | refine blk_drewN ?_ _ | refine blk_drew ?_ | refine blk_alloc ?_ _)); refine blk_far ?_ NB375_408.out _; (with_reducible repeat (first | refine blk_drewN ?_ _ | refine blk_drew ?_ | refine blk_alloc ?_ _)); refine blk_far ?_ NB375_408.out _; (with_reducible repeat (first | refine blk_drewN ?_ _ | refine blk_drew ?_ | refine blk_alloc ?_ _)); refine blk_far ?_ NB375_408.out _; (with_reducible repeat (first | refine blk_drewN ?_ _ | refine blk_drew ?_ | refine blk_alloc ?_ _)); refine blk_far ?_ NB375_408.out _; (with_reducible repeat (first | refine blk_drewN ?_ _ | refine blk_drew ?_ | refine blk_alloc ?_ _)); exact BK375.out) hb); have n9_ := Aside0.mk (blk_below (g := gb408) (o := .cells #[.int .i64 t394, .int .i64 t395, .int .i64 t396, .int .i64 t397, .slice Ao32 t398.length co32, .slice Ao33 t401.length co33, .slice Ao34 t404.length co34, .string t407] 34 (0, 0)) (by (with_reducible repeat (first | refine blk_drewN ?_ _ | refine blk_drew ?_ | refine blk_alloc ?_ _)); refine blk_put (cs := #[.int .i64 t394, .int .i64 t395, .int .i64 t396, .int .i64 t397, .slice Ao32 t398.length co32, .slice Ao33 t401.length co33, .slice Ao34 t404.length co34, .string (⟨#[]⟩ : ByteArray)]) ?_ 7 _ rfl; (with_reducible repeat (first | refine blk_drewN ?_ _ | refine blk_drew ?_ | refine blk_alloc ?_ _)); refine blk_put (cs := #[.int .i64 t394, .int .i64 t395, .int .i64 t396, .int .i64 t397, .slice Ao32 t398.length co32, .slice Ao33 t401.length co33, .slice none 0 0, .string (⟨#[]⟩ : ByteArray)]) ?_ 6 _ rfl; (with_reducible repeat (first | refine blk_drewN ?_ _ | refine blk_drew ?_ | refine blk_alloc ?_ _)); refine blk_put (cs := #[.int .i64 t394, .int .i64 t395, .int .i64 t396, .int .i64 t397, .slice Ao32 t398.length co32, .slice none 0 0, .slice none 0 0, .string (⟨#[]⟩ : ByteArray)]) ?_ 5 _ rfl; (with_reducible repeat (first | refine blk_drewN ?_ _ | refine blk_drew ?_ | refine blk_alloc ?_ _)); refine blk_put (cs := #[.int .i64 t394, .int .i64 t395, .int .i64 t396, .int .i64 t397, .slice none 0 0, .slice none 0 0, .slice none 0 0, .string (⟨#[]⟩ : ByteArray)]) ?_ 4 _ rfl; (with_reducible repeat (first | refine blk_drewN ?_ _ | refine blk_drew ?_ | refine blk_alloc ?_ _)); refine blk_put (cs := #[.int .i64 t394, .int .i64 t395, .int .i64 t396, .int .i64 0, .slice none 0 0, .slice none 0 0, .slice none 0 0, .string (⟨#[]⟩ : ByteArray)]) ?_ 3 _ rfl; (with_reducible repeat (first | refine blk_drewN ?_ _ | refine blk_drew ?_ | refine blk_alloc ?_ _)); refine blk_put (cs := #[.int .i64 t394, .int .i64 t395, .int .i64 0, .int .i64 0, .slice none 0 0, .slice none 0 0, .slice none 0 0, .string (⟨#[]⟩ : ByteArray)]) ?_ 2 _ rfl; (with_reducible repeat (first | refine blk_drewN ?_ _ | refine blk_drew ?_ | refine blk_alloc ?_ _)); refine blk_put (cs := #[.int .i64 t394, .int .i64 0, .int .i64 0, .int .i64 0, .slice none 0 0, .slice none 0 0, .slice none 0 0, .string (⟨#[]⟩ : ByteArray)]) ?_ 1 _ rfl; (with_reducible repeat (first | refine blk_drewN ?_ _ | refine blk_drew ?_ | refine blk_alloc ?_ _)); refine blk_put (cs := #[.int .i64 0, .int .i64 0, .int .i64 0, .int .i64 0, .slice none 0 0, .slice none 0 0, .slice none 0 0, .string (⟨#[]⟩ : ByteArray)]) ?_ 0 _ rfl; (with_reducible repeat (first | refine blk_drewN ?_ _ | refine blk_drew ?_ | refine blk_alloc ?_ _)); exact BK408.out) hb); have n10_ := Aside0.mk (below_step (q13_5) hb); clear HO383; clear HO386; clear HO389; clear HO393; clear HO400; clear HO403; clear HO406; clear BK375; clear BK408; clear HB; have HO383 := n0_; have HO386 := n1_; have HO389 := n2_; have HO393 := n3_; have HO400 := n4_; have HO403 := n5_; have HO406 := n6_; have HO411 := n7_; have BK375 := n8_; have BK408 := n9_; have HB := n10_; clear n0_ n1_ n2_ n3_ n4_ n5_ n6_ n7_ n8_ n9_ n10_; (try clear hb); (try clear hb2); (try clear hk); (try clear hi); (try clear ho0); obtain ⟨Ao36, co36, eo36⟩ := Cw.R_slice HO411.out; subst eo36; obtain ⟨Ao37, co37, eo37⟩ := Kd.R_slice HO393.out; subst eo37) | ((with_reducible refine gate_callee (f := 23) rfl ?_); refine goesL_ (some 25) rfl rfl Try.func23 (by kernel_rfl) rfl #[.slice Ao36 t409.length co36, .slice Ao37 t391.length co37] rfl (q13_21) ?_; (with_reducible refine (laws_eqByteS.calls k _ _ t409 _ _ t391 true _ ?side1 ?side2 ?side3 ?side4 A11.out).mono ?_); (case side1 => repeat (first | exact (Cw.R_reads' HO411.out).2.2 | (with_reducible refine Kd.C_alloc ?_ _) | (with_reducible refine Kd.C_drewN ?_ _) | (with_reducible refine Kd.C_drew ?_))); (case side2 => exact (Cw.R_reads' HO411.out).2.1); (case side3 => repeat (first | exact (Kd.R_reads' HO393.out).2.2 | (with_reducible refine Kd.C_alloc ?_ _) | (with_reducible refine Kd.C_drewN ?_ _) | (with_reducible refine Kd.C_drew ?_))); (case side4 => exact (Kd.R_reads' HO393.out).2.1); rintro e w' ⟨rfl, ⟨nd, rfl⟩⟩; refine ⟨_, rfl, ?_⟩))
        (try (rw [drewN_self w35]; generalize hq_ : World.drewN w35 _ = w35; have n0_ : Aside0 (Kd.R (Kd.int .u32) 38 w35 w.heap.size (fun k_ => True ∧ some k_ ≠ (.slice Ao32 t398.length co32 : Value).ownBlock) (.slice Ao23 t381.length co23) t381) := ⟨by rw [← hq_]; exact (by (with_reducible repeat (first | apply Kd.R_alloc | apply Kd.R_drewN | apply Kd.R_drew | apply Cw.R_alloc | apply Cw.R_drewN | apply Cw.R_drew)); exact Kd.R_mono HO383.out (fun _ hk => hk))⟩; have n1_ : Aside0 (Kd.R Kd.string 9 w35 w.heap.size (fun k_ => True ∧ some k_ ≠ (.slice Ao33 t401.length co33 : Value).ownBlock) (.slice Ao24 t384.length co24) t384) := ⟨by rw [← hq_]; exact (by (with_reducible repeat (first | apply Kd.R_alloc | apply Kd.R_drewN | apply Kd.R_drew | apply Cw.R_alloc | apply Cw.R_drewN | apply Cw.R_drew)); exact Kd.R_mono HO386.out (fun _ hk => hk))⟩; have n2_ : Aside0 (Kd.R k103 103 w35 w.heap.size (fun k_ => True ∧ some k_ ≠ (.slice Ao34 t404.length co34 : Value).ownBlock) (.slice Ao25 t387.length co25) t387) := ⟨by rw [← hq_]; exact (by (with_reducible repeat (first | apply Kd.R_alloc | apply Kd.R_drewN | apply Kd.R_drew | apply Cw.R_alloc | apply Cw.R_drewN | apply Cw.R_drew)); exact Kd.R_mono HO389.out (fun _ hk => hk))⟩; have n3_ : Aside0 (Kd.R (Kd.int .u8) 5 w35 w.heap.size (fun k_ => True ∧ some k_ ≠ (.slice Ao36 t409.length co36 : Value).ownBlock) (.slice Ao37 t391.length co37) t391) := ⟨by rw [← hq_]; exact (by (with_reducible repeat (first | apply Kd.R_alloc | apply Kd.R_drewN | apply Kd.R_drew | apply Cw.R_alloc | apply Cw.R_drewN | apply Cw.R_drew)); exact Kd.R_mono HO393.out (fun _ hk => hk))⟩; have n4_ : Aside0 (Kd.R (Kd.int .u32) 38 w35 w.heap.size (fun k_ => True ∧ some k_ ≠ (.slice Ao23 t381.length co23 : Value).ownBlock) (.slice Ao32 t398.length co32) t398) := ⟨by rw [← hq_]; exact (by (with_reducible repeat (first | apply Kd.R_alloc | apply Kd.R_drewN | apply Kd.R_drew | apply Cw.R_alloc | apply Cw.R_drewN | apply Cw.R_drew)); exact Kd.R_mono HO400.out (fun _ hk => hk))⟩; have n5_ : Aside0 (Kd.R Kd.string 9 w35 w.heap.size (fun k_ => True ∧ some k_ ≠ (.slice Ao24 t384.length co24 : Value).ownBlock) (.slice Ao33 t401.length co33) t401) := ⟨by rw [← hq_]; exact (by (with_reducible repeat (first | apply Kd.R_alloc | apply Kd.R_drewN | apply Kd.R_drew | apply Cw.R_alloc | apply Cw.R_drewN | apply Cw.R_drew)); exact Kd.R_mono HO403.out (fun _ hk => hk))⟩; have n6_ : Aside0 (Kd.R k103 103 w35 w.heap.size (fun k_ => True ∧ some k_ ≠ (.slice Ao25 t387.length co25 : Value).ownBlock) (.slice Ao34 t404.length co34) t404) := ⟨by rw [← hq_]; exact (by (with_reducible repeat (first | apply Kd.R_alloc | apply Kd.R_drewN | apply Kd.R_drew | apply Cw.R_alloc | apply Cw.R_drewN | apply Cw.R_drew)); exact Kd.R_mono HO406.out (fun _ hk => hk))⟩; have n7_ : Aside0 (Cw.R 5 w35 w.heap.size (fun k_ => True ∧ some k_ ≠ (.slice Ao37 t391.length co37 : Value).ownBlock) (.slice Ao36 t409.length co36) t409) := ⟨by rw [← hq_]; exact (by (with_reducible repeat (first | apply Kd.R_alloc | apply Kd.R_drewN | apply Kd.R_drew | apply Cw.R_alloc | apply Cw.R_drewN | apply Cw.R_drew)); exact Cw.R_mono HO411.out (fun _ hk => hk))⟩; have n8_ : Aside0 (w35.heap[gb375]? = some (.cells #[.int .i64 a0_0, .int .i64 a0_1, .int .i64 a0_2, .int .i64 a0_3, .slice A0_4 l0_4.length c0_4, .slice A0_5 l0_5.length c0_5, .slice A0_6 l0_6.length c0_6, .string a0_7] 28 (0, 0))) := ⟨by rw [← hq_]; exact (q13_25)⟩; have n9_ : Aside0 (w35.heap[gb408]? = some (.cells #[.int .i64 t394, .int .i64 t395, .int .i64 t396, .int .i64 t397, .slice Ao32 t398.length co32, .slice Ao33 t401.length co33, .slice Ao34 t404.length co34, .string t407] 34 (0, 0))) := ⟨by rw [← hq_]; exact (q13_24)⟩; have n10_ : Aside0 (Below w.heap.size w w35) := ⟨by rw [← hq_]; exact (q13_5)⟩; clear HO383 HO386 HO389 HO393 HO400 HO403 HO406 HO411 BK375 BK408 HB hq_; have HO383 := n0_; have HO386 := n1_; have HO389 := n2_; have HO393 := n3_; have HO400 := n4_; have HO403 := n5_; have HO406 := n6_; have HO411 := n7_; have BK375 := n8_; have BK408 := n9_; have HB := n10_; clear n0_ n1_ n2_ n3_ n4_ n5_ n6_ n7_ n8_ n9_ n10_))
        have n0_ := Aside0.mk (Kd.R_drew HO383.out)
        have n1_ := Aside0.mk (Kd.R_drew HO386.out)
        have n2_ := Aside0.mk (Kd.R_drew HO389.out)
        have n3_ := Aside0.mk (Kd.R_drew HO393.out)
        have n4_ := Aside0.mk (Kd.R_drew HO400.out)
        have n5_ := Aside0.mk (Kd.R_drew HO403.out)
        have n6_ := Aside0.mk (Kd.R_drew HO406.out)
        have n7_ := Aside0.mk (Cw.R_drew HO411.out)
        have n8_ := Aside0.mk (blk_drew BK375.out)
        have n9_ := Aside0.mk (blk_drew BK408.out)
        have n10_ := Aside0.mk (below_drew1 HB.out)
        clear HO383
        clear HO386
        clear HO389
        clear HO393
        clear HO400
        clear HO403
        clear HO406
        clear HO411
        clear BK375
        clear BK408
        clear HB
        have HO383 := n0_
        have HO386 := n1_
        have HO389 := n2_
        have HO393 := n3_
        have HO400 := n4_
        have HO403 := n5_
        have HO406 := n6_
        have HO411 := n7_
        have BK375 := n8_
        have BK408 := n9_
        have HB := n10_
        clear n0_ n1_ n2_ n3_ n4_ n5_ n6_ n7_ n8_ n9_ n10_
        refine start_ (n := 5) (S := fun w' => w'.cell? ⟨gb408, 0, none⟩ = some (.int .i64 t394) ∧ w'.cell? ⟨gb408, 1, none⟩ = some (.int .i64 t395) ∧ w'.cell? ⟨gb408, 2, none⟩ = some (.int .i64 t396) ∧ w'.cell? ⟨gb408, 3, none⟩ = some (.int .i64 t397) ∧ w'.cell? ⟨gb408, 4, none⟩ = some (.slice Ao32 t398.length co32) ∧ w'.cell? ⟨gb408, 5, none⟩ = some (.slice Ao33 t401.length co33) ∧ w'.cell? ⟨gb408, 6, none⟩ = some (.slice Ao34 t404.length co34) ∧ w'.cell? ⟨gb408, 7, none⟩ = some (.string t407) ∧ w'.cell? ⟨gb375, 0, none⟩ = some (.int .i64 a0_0) ∧ w'.cell? ⟨gb375, 1, none⟩ = some (.int .i64 a0_1) ∧ w'.cell? ⟨gb375, 2, none⟩ = some (.int .i64 a0_2) ∧ w'.cell? ⟨gb375, 3, none⟩ = some (.int .i64 a0_3) ∧ w'.cell? ⟨gb375, 4, none⟩ = some (.slice A0_4 l0_4.length c0_4) ∧ w'.cell? ⟨gb375, 5, none⟩ = some (.slice A0_5 l0_5.length c0_5) ∧ w'.cell? ⟨gb375, 6, none⟩ = some (.slice A0_6 l0_6.length c0_6) ∧ w'.cell? ⟨gb375, 7, none⟩ = some (.string a0_7)) (ds := []) #[false, false, false, false, false] (by kernel_rfl) rfl rfl ⟨(blk_cell BK408.out 0).trans rfl, (blk_cell BK408.out 1).trans rfl, (blk_cell BK408.out 2).trans rfl, (blk_cell BK408.out 3).trans rfl, (blk_cell BK408.out 4).trans rfl, (blk_cell BK408.out 5).trans rfl, (blk_cell BK408.out 6).trans rfl, (blk_cell BK408.out 7).trans rfl, (blk_cell BK375.out 0).trans rfl, (blk_cell BK375.out 1).trans rfl, (blk_cell BK375.out 2).trans rfl, (blk_cell BK375.out 3).trans rfl, (blk_cell BK375.out 4).trans rfl, (blk_cell BK375.out 5).trans rfl, (blk_cell BK375.out 6).trans rfl, (blk_cell BK375.out 7).trans rfl⟩ (fun hHeld => ?_)
        generalize w35.drew = w38 at HO383 HO386 HO389 HO393 HO400 HO403 HO406 HO411 BK375 BK408 HB hHeld ⊢
        refine take_ (i := 0) (N := some 27) (v := ?_) (a' := ?_) #[true, false, false, false, false] rfl rfl (by kernel_rfl) (fun _ _ _ h => h) (Or.inl ⟨by rfl, ?_⟩) hHeld ?_ ?_
        rotate_left
        · rintro w' ⟨s0, s1, s2, s3, s4, s5, s6, s7, s8, s9, s10, s11, s12, s13, s14, s15⟩
          go_simp
          with_reducible rfl
        rotate_left
        · simp only [Act.put, List.setIfInBounds_toArray, List.set_cons_zero, List.set_cons_succ, i64_w, i32_w, u32_w, u64_w]
          rfl
        refine take_ (i := 1) (N := some 28) (v := ?_) (a' := ?_) #[true, true, false, false, false] rfl rfl (by kernel_rfl) (fun _ _ _ h => h) (Or.inl ⟨by rfl, ?_⟩) hHeld ?_ ?_
        rotate_left
        · rintro w' ⟨s0, s1, s2, s3, s4, s5, s6, s7, s8, s9, s10, s11, s12, s13, s14, s15⟩
          go_simp
          with_reducible rfl
        rotate_left
        · simp only [Act.put, List.setIfInBounds_toArray, List.set_cons_zero, List.set_cons_succ, i64_w, i32_w, u32_w, u64_w]
          rfl
        refine one_ (i := 2) (N := some 29) #[true, true, true, false, false] rfl rfl (by kernel_rfl) (by decide) (fun K hK => ?_)
        refine goes_ Try.func9 (by kernel_rfl) rfl #[.agg #[.int .i64 a0_0, .int .i64 a0_1, .int .i64 a0_2, .int .i64 a0_3, .slice A0_4 l0_4.length c0_4, .slice A0_5 l0_5.length c0_5, .slice A0_6 l0_6.length c0_6, .string a0_7]] (by rfl) rfl rfl (q13_21) ?_
        with_reducible refine (laws_toMsg.calls k a0_0 a0_1 a0_2 a0_3 _ _ l0_4 _ _ l0_5 _ _ l0_6 a0_7 t413 t414 t415 t416 t417 t420 t423 t426 _ ?side1 ?side2 ?side3 ?side4 ?side5 ?side6 A13.out).mono ?_
        (case side1 => repeat (first | exact (Kd.C_below HR0_4.out HB.out) | (with_reducible refine Kd.C_alloc ?_ _) | (with_reducible refine Kd.C_drewN ?_ _) | (with_reducible refine Kd.C_drew ?_)))
        (case side2 => exact HC0_4.out)
        (case side3 => repeat (first | exact (Kd.C_below HR0_5.out HB.out) | (with_reducible refine Kd.C_alloc ?_ _) | (with_reducible refine Kd.C_drewN ?_ _) | (with_reducible refine Kd.C_drew ?_)))
        (case side4 => exact HC0_5.out)
        (case side5 => repeat (first | exact (Kd.C_below HR0_6.out HB.out) | (with_reducible refine Kd.C_alloc ?_ _) | (with_reducible refine Kd.C_drewN ?_ _) | (with_reducible refine Kd.C_drew ?_)))
        (case side6 => exact HC0_6.out)
        rintro e w39 ⟨v418, v421, v424, rfl, ho0, ho1, ho2, hb⟩
        refine ⟨_, rfl, ?_⟩
        have n0_ := Aside0.mk (Kd.R_elder' (q13_18) (Kd.R_base ho0) hb)
        have n1_ := Aside0.mk (Kd.R_elder' (q13_17) (Kd.R_base ho1) hb)
        have n2_ := Aside0.mk (Kd.R_elder' (q13_16) (Kd.R_base ho2) hb)
        have n3_ := Aside0.mk (Kd.R_below (q13_15) hb)
        have n4_ := Aside0.mk (Kd.R_elder' (q13_14) (Kd.R_base ho0) hb)
        have n5_ := Aside0.mk (Kd.R_elder' (q13_13) (Kd.R_base ho1) hb)
        have n6_ := Aside0.mk (Kd.R_elder' (q13_12) (Kd.R_base ho2) hb)
        have n7_ := Aside0.mk (Cw.R_below (q13_11) hb)
        have n8_ := Aside0.mk (Kd.R_lower (Kd.R_new' (Kd.R_new' ho0 (Kd.R_lt (q13_18))) (Kd.R_lt (q13_14))) (below_size (q13_5)))
        have n9_ := Aside0.mk (Kd.R_lower (Kd.R_new' (Kd.R_new' ho1 (Kd.R_lt (q13_17))) (Kd.R_lt (q13_13))) (below_size (q13_5)))
        have n10_ := Aside0.mk (Kd.R_lower (Kd.R_new' (Kd.R_new' ho2 (Kd.R_lt (q13_16))) (Kd.R_lt (q13_12))) (below_size (q13_5)))
        have n11_ := Aside0.mk (blk_below (g := gb375) (o := .cells #[.int .i64 a0_0, .int .i64 a0_1, .int .i64 a0_2, .int .i64 a0_3, .slice A0_4 l0_4.length c0_4, .slice A0_5 l0_5.length c0_5, .slice A0_6 l0_6.length c0_6, .string a0_7] 28 (0, 0)) (q13_25) hb)
        have n12_ := Aside0.mk (blk_below (g := gb408) (o := .cells #[.int .i64 t394, .int .i64 t395, .int .i64 t396, .int .i64 t397, .slice Ao32 t398.length co32, .slice Ao33 t401.length co33, .slice Ao34 t404.length co34, .string t407] 34 (0, 0)) (q13_24) hb)
        have n13_ := Aside0.mk (below_step (q13_5) hb)
        clear HO383
        clear HO386
        clear HO389
        clear HO393
        clear HO400
        clear HO403
        clear HO406
        clear HO411
        clear BK375
        clear BK408
        clear HB
        have HO383 := n0_
        have HO386 := n1_
        have HO389 := n2_
        have HO393 := n3_
        have HO400 := n4_
        have HO403 := n5_
        have HO406 := n6_
        have HO411 := n7_
        have HO419 := n8_
        have HO422 := n9_
        have HO425 := n10_
        have BK375 := n11_
        have BK408 := n12_
        have HB := n13_
        clear n0_ n1_ n2_ n3_ n4_ n5_ n6_ n7_ n8_ n9_ n10_ n11_ n12_ n13_
        (try clear hb)
        (try clear hb2)
        (try clear hk)
        (try clear hi)
        (try clear ho0)
        (try clear ho1)
        (try clear ho2)
        obtain ⟨Ao40, co40, eo40⟩ := Kd.R_slice HO419.out
        (first | subst eo40 | (injection eo40 with f1_ f2_ f3_; have f4_ := f1_.symm; have f5_ := f3_.symm; clear f1_ f2_ f3_; subst f4_; subst f5_))
        obtain ⟨Ao41, co41, eo41⟩ := Kd.R_slice HO422.out
        (first | subst eo41 | (injection eo41 with f1_ f2_ f3_; have f4_ := f1_.symm; have f5_ := f3_.symm; clear f1_ f2_ f3_; subst f4_; subst f5_))
        obtain ⟨Ao42, co42, eo42⟩ := Kd.R_slice HO425.out
        (first | subst eo42 | (injection eo42 with f1_ f2_ f3_; have f4_ := f1_.symm; have f5_ := f3_.symm; clear f1_ f2_ f3_; subst f4_; subst f5_))
        refine hK.out _ _ ⟨(blk_cell BK408.out 0).trans rfl, (blk_cell BK408.out 1).trans rfl, (blk_cell BK408.out 2).trans rfl, (blk_cell BK408.out 3).trans rfl, (blk_cell BK408.out 4).trans rfl, (blk_cell BK408.out 5).trans rfl, (blk_cell BK408.out 6).trans rfl, (blk_cell BK408.out 7).trans rfl, (blk_cell BK375.out 0).trans rfl, (blk_cell BK375.out 1).trans rfl, (blk_cell BK375.out 2).trans rfl, (blk_cell BK375.out 3).trans rfl, (blk_cell BK375.out 4).trans rfl, (blk_cell BK375.out 5).trans rfl, (blk_cell BK375.out 6).trans rfl, (blk_cell BK375.out 7).trans rfl⟩ (fun hHeld => ?_)
        clear hK K
        refine norm_ (a' := ?_) ?_ ?_
        rotate_left
        · show Act.put _ (some 29) _ = _
          simp only [Act.put, List.setIfInBounds_toArray, List.set_cons_zero, List.set_cons_succ, i64_w, i32_w, u32_w, u64_w]
          rfl
        refine one_ (i := 3) (N := some 30) #[true, true, true, true, false] rfl rfl (by kernel_rfl) (by decide) (fun K hK => ?_)
        refine goes_ Try.func11 (by kernel_rfl) rfl #[.agg #[.int .i64 t394, .int .i64 t395, .int .i64 t396, .int .i64 t397, .slice Ao32 t398.length co32, .slice Ao33 t401.length co33, .slice Ao34 t404.length co34, .string t407], .agg #[.int .i64 t413, .int .i64 t414, .int .i64 t415, .int .i64 t416, .slice Ao40 t417.length co40, .slice Ao41 t420.length co41, .slice Ao42 t423.length co42, .string t426]] (by rfl) rfl rfl (q13_21) ?_
        with_reducible refine (laws_eqMsg.calls k t394 t395 t396 t397 _ _ t398 _ _ t401 _ _ t404 t407 t413 t414 t415 t416 _ _ t417 _ _ t420 _ _ t423 t426 true _ ?side1 ?side2 ?side3 ?side4 ?side5 ?side6 ?side7 ?side8 ?side9 ?side10 ?side11 ?side12 A14.out).mono ?_
        (case side1 => repeat (first | exact (Kd.R_reads' HO400.out).2.2 | (with_reducible refine Kd.C_alloc ?_ _) | (with_reducible refine Kd.C_drewN ?_ _) | (with_reducible refine Kd.C_drew ?_)))
        (case side2 => exact (Kd.R_reads' HO400.out).2.1)
        (case side3 => repeat (first | exact (Kd.R_reads' HO403.out).2.2 | (with_reducible refine Kd.C_alloc ?_ _) | (with_reducible refine Kd.C_drewN ?_ _) | (with_reducible refine Kd.C_drew ?_)))
        (case side4 => exact (Kd.R_reads' HO403.out).2.1)
        (case side5 => repeat (first | exact (Kd.R_reads' HO406.out).2.2 | (with_reducible refine Kd.C_alloc ?_ _) | (with_reducible refine Kd.C_drewN ?_ _) | (with_reducible refine Kd.C_drew ?_)))
        (case side6 => exact (Kd.R_reads' HO406.out).2.1)
        (case side7 => repeat (first | exact (Kd.R_reads' HO419.out).2.2 | (with_reducible refine Kd.C_alloc ?_ _) | (with_reducible refine Kd.C_drewN ?_ _) | (with_reducible refine Kd.C_drew ?_)))
        (case side8 => exact (Kd.R_reads' HO419.out).2.1)
        (case side9 => repeat (first | exact (Kd.R_reads' HO422.out).2.2 | (with_reducible refine Kd.C_alloc ?_ _) | (with_reducible refine Kd.C_drewN ?_ _) | (with_reducible refine Kd.C_drew ?_)))
        (case side10 => exact (Kd.R_reads' HO422.out).2.1)
        (case side11 => repeat (first | exact (Kd.R_reads' HO425.out).2.2 | (with_reducible refine Kd.C_alloc ?_ _) | (with_reducible refine Kd.C_drewN ?_ _) | (with_reducible refine Kd.C_drew ?_)))
        (case side12 => exact (Kd.R_reads' HO425.out).2.1)
        rintro e w43 ⟨rfl, hb⟩
        refine ⟨_, rfl, ?_⟩
        have n0_ := Aside0.mk (Kd.R_below (q13_18) hb)
        have n1_ := Aside0.mk (Kd.R_below (q13_17) hb)
        have n2_ := Aside0.mk (Kd.R_below (q13_16) hb)
        have n3_ := Aside0.mk (Kd.R_below (q13_15) hb)
        have n4_ := Aside0.mk (Kd.R_below (q13_14) hb)
        have n5_ := Aside0.mk (Kd.R_below (q13_13) hb)
        have n6_ := Aside0.mk (Kd.R_below (q13_12) hb)
        have n7_ := Aside0.mk (Cw.R_below (q13_11) hb)
        have n8_ := Aside0.mk (Kd.R_below (by (with_reducible repeat (first | apply Kd.R_alloc | apply Kd.R_drewN | apply Kd.R_drew | apply Cw.R_alloc | apply Cw.R_drewN | apply Cw.R_drew)); exact HO419.out) hb)
        have n9_ := Aside0.mk (Kd.R_below (by (with_reducible repeat (first | apply Kd.R_alloc | apply Kd.R_drewN | apply Kd.R_drew | apply Cw.R_alloc | apply Cw.R_drewN | apply Cw.R_drew)); exact HO422.out) hb)
        have n10_ := Aside0.mk (Kd.R_below (by (with_reducible repeat (first | apply Kd.R_alloc | apply Kd.R_drewN | apply Kd.R_drew | apply Cw.R_alloc | apply Cw.R_drewN | apply Cw.R_drew)); exact HO425.out) hb)
        have n11_ := Aside0.mk (blk_below (g := gb375) (o := .cells #[.int .i64 a0_0, .int .i64 a0_1, .int .i64 a0_2, .int .i64 a0_3, .slice A0_4 l0_4.length c0_4, .slice A0_5 l0_5.length c0_5, .slice A0_6 l0_6.length c0_6, .string a0_7] 28 (0, 0)) (q13_25) hb)
        have n12_ := Aside0.mk (blk_below (g := gb408) (o := .cells #[.int .i64 t394, .int .i64 t395, .int .i64 t396, .int .i64 t397, .slice Ao32 t398.length co32, .slice Ao33 t401.length co33, .slice Ao34 t404.length co34, .string t407] 34 (0, 0)) (q13_24) hb)
        have n13_ := Aside0.mk (below_step (q13_5) hb)
        clear HO383
        clear HO386
        clear HO389
        clear HO393
        clear HO400
        clear HO403
        clear HO406
        clear HO411
        clear HO419
        clear HO422
        clear HO425
        clear BK375
        clear BK408
        clear HB
        have HO383 := n0_
        have HO386 := n1_
        have HO389 := n2_
        have HO393 := n3_
        have HO400 := n4_
        have HO403 := n5_
        have HO406 := n6_
        have HO411 := n7_
        have HO419 := n8_
        have HO422 := n9_
        have HO425 := n10_
        have BK375 := n11_
        have BK408 := n12_
        have HB := n13_
        clear n0_ n1_ n2_ n3_ n4_ n5_ n6_ n7_ n8_ n9_ n10_ n11_ n12_ n13_
        (try clear hb)
        (try clear hb2)
        (try clear hk)
        (try clear hi)
        refine hK.out _ _ ⟨(blk_cell BK408.out 0).trans rfl, (blk_cell BK408.out 1).trans rfl, (blk_cell BK408.out 2).trans rfl, (blk_cell BK408.out 3).trans rfl, (blk_cell BK408.out 4).trans rfl, (blk_cell BK408.out 5).trans rfl, (blk_cell BK408.out 6).trans rfl, (blk_cell BK408.out 7).trans rfl, (blk_cell BK375.out 0).trans rfl, (blk_cell BK375.out 1).trans rfl, (blk_cell BK375.out 2).trans rfl, (blk_cell BK375.out 3).trans rfl, (blk_cell BK375.out 4).trans rfl, (blk_cell BK375.out 5).trans rfl, (blk_cell BK375.out 6).trans rfl, (blk_cell BK375.out 7).trans rfl⟩ (fun hHeld => ?_)
        clear hK K
        refine norm_ (a' := ?_) ?_ ?_
        rotate_left
        · show Act.put _ (some 30) _ = _
          simp only [Act.put, List.setIfInBounds_toArray, List.set_cons_zero, List.set_cons_succ, i64_w, i32_w, u32_w, u64_w]
          rfl
        refine pure_ (i := 4) (N := some 31) (v := ?_) (a' := ?_) #[true, true, true, true, true] rfl rfl (by kernel_rfl) (fun _ _ _ h => h) (Or.inl ⟨by rfl, ?_⟩) ?_ ?_
        rotate_left
        · intro w'
          go_simp
          with_reducible rfl
        rotate_left
        · simp only [Act.put, List.setIfInBounds_toArray, List.set_cons_zero, List.set_cons_succ, i64_w, i32_w, u32_w, u64_w]
          rfl
        refine done_ (by kernel_rfl) ?_
        have hcz44_0 : w43.cell? ⟨gb408, 0, none⟩ = some (.int .i64 t394) := (blk_cell BK408.out 0).trans rfl
        have hcz44_1 : w43.cell? ⟨gb408, 1, none⟩ = some (.int .i64 t395) := (blk_cell BK408.out 1).trans rfl
        have hcz44_2 : w43.cell? ⟨gb408, 2, none⟩ = some (.int .i64 t396) := (blk_cell BK408.out 2).trans rfl
        have hcz44_3 : w43.cell? ⟨gb408, 3, none⟩ = some (.int .i64 t397) := (blk_cell BK408.out 3).trans rfl
        have hcz44_4 : w43.cell? ⟨gb408, 4, none⟩ = some (.slice Ao32 t398.length co32) := (blk_cell BK408.out 4).trans rfl
        have hcz44_5 : w43.cell? ⟨gb408, 5, none⟩ = some (.slice Ao33 t401.length co33) := (blk_cell BK408.out 5).trans rfl
        have hcz44_6 : w43.cell? ⟨gb408, 6, none⟩ = some (.slice Ao34 t404.length co34) := (blk_cell BK408.out 6).trans rfl
        have hcz44_7 : w43.cell? ⟨gb408, 7, none⟩ = some (.string t407) := (blk_cell BK408.out 7).trans rfl
        have hfz44_0 := blk_frozen BK408.out 0
        have hfz44_1 := blk_frozen BK408.out 1
        have hfz44_2 := blk_frozen BK408.out 2
        have hfz44_3 := blk_frozen BK408.out 3
        have hfz44_4 := blk_frozen BK408.out 4
        have hfz44_5 := blk_frozen BK408.out 5
        have hfz44_6 := blk_frozen BK408.out 6
        have hfz44_7 := blk_frozen BK408.out 7
        go_upto_region 14 with (first | ((with_reducible refine gate_callee (f := 24) rfl ?_); refine goesL_ (some 34) rfl rfl Try.func24 (by kernel_rfl) rfl #[.agg #[.int .i64 t394, .int .i64 t395, .int .i64 t396, .int .i64 t397, .slice Ao32 t398.length co32, .slice Ao33 t401.length co33, .slice Ao34 t404.length co34, .string t407], .int .i64 1] rfl (q13_21) ?_; (with_reducible refine (laws_markMsg.calls k t394 t395 t396 t397 (fun k_ => some k_ = (.slice Ao32 t398.length co32 : Value).ownBlock) (.slice Ao32 t398.length co32) t398 (fun k_ => some k_ = (.slice Ao33 t401.length co33 : Value).ownBlock) (.slice Ao33 t401.length co33) t401 (fun k_ => some k_ = (.slice Ao34 t404.length co34 : Value).ownBlock) (.slice Ao34 t404.length co34) t404 t407 1 t428 t429 t430 t431 w _ ?side1 ?side2 ?side3 ?side4 A16.out).mono ?_); (case side1 => repeat (first | (with_reducible first | exact HB.out | apply below_alloc | apply pw_below_drewN | apply below_drew1 | refine below_set ?_ GE375.out | refine below_set ?_ GE408.out) | exact HB.out)); (case side2 => exact Kd.R_tight rfl HO400.out); (case side3 => exact Kd.R_tight rfl HO403.out); (case side4 => exact Kd.R_tight rfl HO406.out); rintro e w45 ⟨rfl, hy0, hy1, hy2, hb, hkp⟩; refine ⟨_, rfl, ?_⟩; have n0_ := Aside0.mk (blk_kept (q13_25) hkp (fun hs_ => Or.elim hs_ (fun e_ => (fun e_ => (Kd.R_ne HO400.out BK375.out (by decide)) e_) e_) (fun e_ => Or.elim e_ (fun e_ => (fun e_ => (Kd.R_ne HO403.out BK375.out (by decide)) e_) e_) (fun e_ => (fun e_ => (Kd.R_ne HO406.out BK375.out (by decide)) e_) e_)))); have n1_ := Aside0.mk (Kd.R_mono (ok' := fun k_ => some k_ ≠ (.slice Ao32 t398.length co32 : Value).ownBlock ∧ some k_ ≠ (.slice Ao40 t417.length co40 : Value).ownBlock) (Kd.R_keptB ((Kd.R_apart' (Kd.R_apart' HO383.out (Kd.R_typed HO403.out) (by decide)) (Kd.R_typed HO406.out) (by decide))) hkp (fun k_ hk_ hs_ => Or.elim hs_ (fun e_ => (hk_.1.1.1.2) e_) (fun e_ => Or.elim e_ (fun e_ => (hk_.1.2) e_) (fun e_ => (hk_.2) e_)))) (fun k_ hk_ => ⟨hk_.1.1.1.1.2, hk_.1.1.1.2⟩)); have n2_ := Aside0.mk (Kd.R_mono (ok' := fun k_ => some k_ ≠ (.slice Ao33 t401.length co33 : Value).ownBlock ∧ some k_ ≠ (.slice Ao41 t420.length co41 : Value).ownBlock) (Kd.R_keptB ((Kd.R_apart' (Kd.R_apart' HO386.out (Kd.R_typed HO400.out) (by decide)) (Kd.R_typed HO406.out) (by decide))) hkp (fun k_ hk_ hs_ => Or.elim hs_ (fun e_ => (hk_.1.2) e_) (fun e_ => Or.elim e_ (fun e_ => (hk_.1.1.1.2) e_) (fun e_ => (hk_.2) e_)))) (fun k_ hk_ => ⟨hk_.1.1.1.1.2, hk_.1.1.1.2⟩)); have n3_ := Aside0.mk (Kd.R_mono (ok' := fun k_ => some k_ ≠ (.slice Ao34 t404.length co34 : Value).ownBlock ∧ some k_ ≠ (.slice Ao42 t423.length co42 : Value).ownBlock) (Kd.R_keptB ((Kd.R_apart' (Kd.R_apart' HO389.out (Kd.R_typed HO400.out) (by decide)) (Kd.R_typed HO403.out) (by decide))) hkp (fun k_ hk_ hs_ => Or.elim hs_ (fun e_ => (hk_.1.2) e_) (fun e_ => Or.elim e_ (fun e_ => (hk_.2) e_) (fun e_ => (hk_.1.1.1.2) e_)))) (fun k_ hk_ => ⟨hk_.1.1.1.1.2, hk_.1.1.1.2⟩)); have n4_ := Aside0.mk (Kd.R_mono (ok' := fun k_ => some k_ ≠ (.slice Ao36 t409.length co36 : Value).ownBlock) (Kd.R_keptB ((Kd.R_apart' (Kd.R_apart' (Kd.R_apart' HO393.out (Kd.R_typed HO400.out) (by decide)) (Kd.R_typed HO403.out) (by decide)) (Kd.R_typed HO406.out) (by decide))) hkp (fun k_ hk_ hs_ => Or.elim hs_ (fun e_ => (hk_.1.1.2) e_) (fun e_ => Or.elim e_ (fun e_ => (hk_.1.2) e_) (fun e_ => (hk_.2) e_)))) (fun k_ hk_ => hk_.1.1.1.1.2)); have n5_ := Aside0.mk (Kd.R_reok rfl hy0 (fun k_ e_ => HO400.out.1 k_ e_)); have n6_ := Aside0.mk (Kd.R_reok rfl hy1 (fun k_ e_ => HO403.out.1 k_ e_)); have n7_ := Aside0.mk (Kd.R_reok rfl hy2 (fun k_ e_ => HO406.out.1 k_ e_)); have n8_ := Aside0.mk (blk_kept (q13_24) hkp (fun hs_ => Or.elim hs_ (fun e_ => (fun e_ => (Kd.R_ne HO400.out BK408.out (by decide)) e_) e_) (fun e_ => Or.elim e_ (fun e_ => (fun e_ => (Kd.R_ne HO403.out BK408.out (by decide)) e_) e_) (fun e_ => (fun e_ => (Kd.R_ne HO406.out BK408.out (by decide)) e_) e_)))); have n9_ := Aside0.mk (Cw.R_mono (ok' := fun k_ => some k_ ≠ (.slice Ao37 t391.length co37 : Value).ownBlock) (Cw.R_keptB ((Cw.R_apart' (Cw.R_apart' (Cw.R_apart' HO411.out (Kd.R_typed HO400.out) (by decide)) (Kd.R_typed HO403.out) (by decide)) (Kd.R_typed HO406.out) (by decide))) hkp (fun k_ hk_ hs_ => Or.elim hs_ (fun e_ => (hk_.1.1.2) e_) (fun e_ => Or.elim e_ (fun e_ => (hk_.1.2) e_) (fun e_ => (hk_.2) e_)))) (fun k_ hk_ => hk_.1.1.1.1.2)); have n10_ := Aside0.mk (Kd.R_mono (ok' := fun k_ => some k_ ≠ (.slice Ao23 t381.length co23 : Value).ownBlock ∧ some k_ ≠ (.slice Ao32 t398.length co32 : Value).ownBlock) (Kd.R_keptB ((Kd.R_apart' (Kd.R_apart' HO419.out (Kd.R_typed HO403.out) (by decide)) (Kd.R_typed HO406.out) (by decide))) hkp (fun k_ hk_ hs_ => Or.elim hs_ (fun e_ => (hk_.1.1.2) e_) (fun e_ => Or.elim e_ (fun e_ => (hk_.1.2) e_) (fun e_ => (hk_.2) e_)))) (fun k_ hk_ => ⟨hk_.1.1.1.1.2, hk_.1.1.1.2⟩)); have n11_ := Aside0.mk (Kd.R_mono (ok' := fun k_ => some k_ ≠ (.slice Ao24 t384.length co24 : Value).ownBlock ∧ some k_ ≠ (.slice Ao33 t401.length co33 : Value).ownBlock) (Kd.R_keptB ((Kd.R_apart' (Kd.R_apart' HO422.out (Kd.R_typed HO400.out) (by decide)) (Kd.R_typed HO406.out) (by decide))) hkp (fun k_ hk_ hs_ => Or.elim hs_ (fun e_ => (hk_.1.2) e_) (fun e_ => Or.elim e_ (fun e_ => (hk_.1.1.2) e_) (fun e_ => (hk_.2) e_)))) (fun k_ hk_ => ⟨hk_.1.1.1.1.2, hk_.1.1.1.2⟩)); have n12_ := Aside0.mk (Kd.R_mono (ok' := fun k_ => some k_ ≠ (.slice Ao25 t387.length co25 : Value).ownBlock ∧ some k_ ≠ (.slice Ao34 t404.length co34 : Value).ownBlock) (Kd.R_keptB ((Kd.R_apart' (Kd.R_apart' HO425.out (Kd.R_typed HO400.out) (by decide)) (Kd.R_typed HO403.out) (by decide))) hkp (fun k_ hk_ hs_ => Or.elim hs_ (fun e_ => (hk_.1.2) e_) (fun e_ => Or.elim e_ (fun e_ => (hk_.2) e_) (fun e_ => (hk_.1.1.2) e_)))) (fun k_ hk_ => ⟨hk_.1.1.1.1.2, hk_.1.1.1.2⟩)); have n13_ := Aside0.mk (hb); clear BK375; clear HO383; clear HO386; clear HO389; clear HO393; clear HO400; clear HO403; clear HO406; clear BK408; clear HO411; clear HO419; clear HO422; clear HO425; clear HB; have BK375 := n0_; have HO383 := n1_; have HO386 := n2_; have HO389 := n3_; have HO393 := n4_; have HO400 := n5_; have HO403 := n6_; have HO406 := n7_; have BK408 := n8_; have HO411 := n9_; have HO419 := n10_; have HO422 := n11_; have HO425 := n12_; have HB := n13_; clear n0_ n1_ n2_ n3_ n4_ n5_ n6_ n7_ n8_ n9_ n10_ n11_ n12_ n13_; (try clear hb); (try clear hkp); (try clear hy0); (try clear hy1); (try clear hy2)))
        (try simp only [Act.put, List.setIfInBounds_toArray, List.set_cons_zero, List.set_cons_succ])
        go_cut [42] (fun v42 wc => ∃ (kq : Nat) (x42_16 : Bool), v42 = .bool x42_16 ∧ Aside0 (laws_FnExactPutMsg.j0 kq t391 t409 x42_16 a0_0 a0_1 a0_2 a0_3 l0_4 l0_5 l0_6 a0_7 = some r) ∧ Aside0 (kq ≤ k) ∧ Aside0 (Kd.R (Kd.int .u8) 5 wc w.heap.size (fun k_ => some k_ ≠ ((.slice Ao36 t409.length co36) : Value).ownBlock) (.slice Ao37 t391.length co37) t391) ∧ Aside0 (Cw.R 5 wc w.heap.size (fun k_ => some k_ ≠ ((.slice Ao37 t391.length co37) : Value).ownBlock) (.slice Ao36 t409.length co36) t409) ∧ Aside0 (Kd.R (Kd.int .u32) 38 wc w.heap.size (fun _ => True) (.slice Ao32 t398.length co32) t429) ∧ Aside0 (Kd.R Kd.string 9 wc w.heap.size (fun _ => True) (.slice Ao33 t401.length co33) t430) ∧ Aside0 (Kd.R k103 103 wc w.heap.size (fun _ => True) (.slice Ao34 t404.length co34) t431) ∧ Aside0 (wc.heap[gb375]? = some (.cells #[.int .i64 a0_0, .int .i64 a0_1, .int .i64 a0_2, .int .i64 a0_3, (.slice A0_4 l0_4.length c0_4), (.slice A0_5 l0_5.length c0_5), (.slice A0_6 l0_6.length c0_6), .string a0_7] 28 (0, 0))) ∧ Aside0 (wc.heap[gb408]? = some (.cells #[.int .i64 t394, .int .i64 t395, .int .i64 t396, .int .i64 t397, (.slice Ao32 t398.length co32), (.slice Ao33 t401.length co33), (.slice Ao34 t404.length co34), .string t407] 34 (0, 0))) ∧ Aside0 (Below w.heap.size w wc))
        case first =>
          have H := HC17.out
          clear HC17
          by_cases c46 : t428 < 0
          · rw [if_pos c46] at H
            have c46b0 : decide (t428 < 0) = true := decide_eq_true c46
            clear c46
            (first | rw [c46b0] | (simp only [i64_w, i32_w]; rw [c46b0]) | skip)
            have H' := Aside0.mk H
            clear H
            go_wp2
            go_meet
            case rel => exact ⟨_, (true), (by first | rfl | (simp; done) | (simp [*]; done)), H', ⟨by first | omega | exact Nat.le_refl _⟩, ⟨q13_15⟩, ⟨q13_11⟩, ⟨by (with_reducible repeat (first | apply Kd.R_alloc | apply Kd.R_drewN | apply Kd.R_drew | apply Cw.R_alloc | apply Cw.R_drewN | apply Cw.R_drew)); exact Kd.R_mono HO400.out (fun _ hk => trivial)⟩, ⟨by (with_reducible repeat (first | apply Kd.R_alloc | apply Kd.R_drewN | apply Kd.R_drew | apply Cw.R_alloc | apply Cw.R_drewN | apply Cw.R_drew)); exact Kd.R_mono HO403.out (fun _ hk => trivial)⟩, ⟨by (with_reducible repeat (first | apply Kd.R_alloc | apply Kd.R_drewN | apply Kd.R_drew | apply Cw.R_alloc | apply Cw.R_drewN | apply Cw.R_drew)); exact Kd.R_mono HO406.out (fun _ hk => trivial)⟩, ⟨q13_25⟩, ⟨q13_24⟩, ⟨q13_5⟩⟩
          · rw [if_neg c46] at H
            have c46b0 : decide (t428 < 0) = false := decide_eq_false c46
            clear c46
            (first | rw [c46b0] | (simp only [i64_w, i32_w]; rw [c46b0]) | skip)
            replace H := Option.bind_eq_some_iff.mp H
            obtain ⟨t432, A470, H⟩ := H
            try dsimp only at H
            have A47 := Aside0.mk A470
            clear A470
            have H' := Aside0.mk H
            clear H
            go_wp2_with (first | (go_at_call 23; (with_reducible refine (laws_eqByteS.calls k _ _ t409 _ _ t391 t432 _ ?side1 ?side2 ?side3 ?side4 A47.out).mono ?_); (case side1 => repeat (first | exact (Cw.R_reads' HO411.out).2.2 | (with_reducible refine Kd.C_alloc ?_ _) | (with_reducible refine Kd.C_drewN ?_ _) | (with_reducible refine Kd.C_drew ?_))); (case side2 => exact (Cw.R_reads' HO411.out).2.1); (case side3 => repeat (first | exact (Kd.R_reads' HO393.out).2.2 | (with_reducible refine Kd.C_alloc ?_ _) | (with_reducible refine Kd.C_drewN ?_ _) | (with_reducible refine Kd.C_drew ?_))); (case side4 => exact (Kd.R_reads' HO393.out).2.1); rintro e w' ⟨rfl, ⟨nd, rfl⟩⟩))
            go_meet
            case rel => exact ⟨_, (!t432), (by first | rfl | (simp; done) | (simp [*]; done)), H', ⟨by first | omega | exact Nat.le_refl _⟩, ⟨q13_15⟩, ⟨q13_11⟩, ⟨by (with_reducible repeat (first | apply Kd.R_alloc | apply Kd.R_drewN | apply Kd.R_drew | apply Cw.R_alloc | apply Cw.R_drewN | apply Cw.R_drew)); exact Kd.R_mono HO400.out (fun _ hk => trivial)⟩, ⟨by (with_reducible repeat (first | apply Kd.R_alloc | apply Kd.R_drewN | apply Kd.R_drew | apply Cw.R_alloc | apply Cw.R_drewN | apply Cw.R_drew)); exact Kd.R_mono HO403.out (fun _ hk => trivial)⟩, ⟨by (with_reducible repeat (first | apply Kd.R_alloc | apply Kd.R_drewN | apply Kd.R_drew | apply Cw.R_alloc | apply Cw.R_drewN | apply Cw.R_drew)); exact Kd.R_mono HO406.out (fun _ hk => trivial)⟩, ⟨q13_25⟩, ⟨q13_24⟩, ⟨q13_5⟩⟩
        case rest =>
          clear HC17
          try clear c1
          try clear c2
          try clear p2
          try clear c3
          try clear c3b0
          try clear c4
          try clear c5
          try clear c7
          try clear c9
          try clear c11
          try clear c12
          try clear c15
          try clear c21
          try clear c22
          try clear c23
          try clear c24
          try clear c30
          try clear c46
          try clear c46b0
          try clear hcz19_0
          try clear hcz19_1
          try clear hcz19_2
          try clear hcz19_3
          try clear hcz19_4
          try clear hcz19_5
          try clear hcz19_6
          try clear hcz19_7
          try clear hcz21_0
          try clear hcz21_1
          try clear hcz21_2
          try clear hcz21_3
          try clear hcz21_4
          try clear hcz21_5
          try clear hcz21_6
          try clear hcz21_7
          try clear hcz27_0
          try clear hcz27_1
          try clear hcz27_2
          try clear hcz27_3
          try clear hcz27_4
          try clear hcz27_5
          try clear hcz27_6
          try clear hcz27_7
          try clear hcz31_0
          try clear hcz31_1
          try clear hcz31_2
          try clear hcz31_3
          try clear hcz31_4
          try clear hcz31_5
          try clear hcz31_6
          try clear hcz31_7
          try clear hcz44_0
          try clear hcz44_1
          try clear hcz44_2
          try clear hcz44_3
          try clear hcz44_4
          try clear hcz44_5
          try clear hcz44_6
          try clear hcz44_7
          try clear hcz5_0
          try clear hcz5_1
          try clear hcz5_2
          try clear hcz5_3
          try clear hcz5_4
          try clear hcz5_5
          try clear hcz5_6
          try clear hcz5_7
          try clear hfz19_0
          try clear hfz19_1
          try clear hfz19_2
          try clear hfz19_3
          try clear hfz19_4
          try clear hfz19_5
          try clear hfz19_6
          try clear hfz19_7
          try clear hfz21_0
          try clear hfz21_1
          try clear hfz21_2
          try clear hfz21_3
          try clear hfz21_4
          try clear hfz21_5
          try clear hfz21_6
          try clear hfz21_7
          try clear hfz27_0
          try clear hfz27_1
          try clear hfz27_2
          try clear hfz27_3
          try clear hfz27_4
          try clear hfz27_5
          try clear hfz27_6
          try clear hfz27_7
          try clear hfz31_0
          try clear hfz31_1
          try clear hfz31_2
          try clear hfz31_3
          try clear hfz31_4
          try clear hfz31_5
          try clear hfz31_6
          try clear hfz31_7
          try clear hfz44_0
          try clear hfz44_1
          try clear hfz44_2
          try clear hfz44_3
          try clear hfz44_4
          try clear hfz44_5
          try clear hfz44_6
          try clear hfz44_7
          try clear hfz5_0
          try clear hfz5_1
          try clear hfz5_2
          try clear hfz5_3
          try clear hfz5_4
          try clear hfz5_5
          try clear hfz5_6
          try clear hfz5_7
          obtain ⟨kq, x42_16, rfl, HA, HJ16, HO_4, HO_6, HO_409004, HO_409005, HO_409006, BK375, BK408, HB⟩ := hcut
          have hl409004_16 := (Kd.R_reads' HO_409004.out).1
          rw [hl409004_16] at HO_409004
          (try simp only [hl409004_16])
          (try simp only [hl409004_16] at BK375)
          (try simp only [hl409004_16] at BK408)
          (try simp only [hl409004_16] at HO_4)
          (try simp only [hl409004_16] at HO_6)
          (try simp only [hl409004_16] at HO_409005)
          (try simp only [hl409004_16] at HO_409006)
          have hl409005_16 := (Kd.R_reads' HO_409005.out).1
          rw [hl409005_16] at HO_409005
          (try simp only [hl409005_16])
          (try simp only [hl409005_16] at BK375)
          (try simp only [hl409005_16] at BK408)
          (try simp only [hl409005_16] at HO_4)
          (try simp only [hl409005_16] at HO_6)
          (try simp only [hl409005_16] at HO_409004)
          (try simp only [hl409005_16] at HO_409006)
          have hl409006_16 := (Kd.R_reads' HO_409006.out).1
          rw [hl409006_16] at HO_409006
          (try simp only [hl409006_16])
          (try simp only [hl409006_16] at BK375)
          (try simp only [hl409006_16] at BK408)
          (try simp only [hl409006_16] at HO_4)
          (try simp only [hl409006_16] at HO_6)
          (try simp only [hl409006_16] at HO_409004)
          (try simp only [hl409006_16] at HO_409005)
          cases kq with
          | zero => exact absurd HA.out (by simp [laws_FnExactPutMsg.j0])
          | succ kj16 =>
            have H := HA.out
            clear HA
            simp only [laws_FnExactPutMsg.j0] at H
            by_cases c48 : x42_16 = true
            · subst c48
              have H1 : (some false) = some r := by rw [if_pos rfl] at H; exact H
              clear H
              have H := H1
              clear H1
              exact absurd (hrt.symm.trans (Option.some.inj H).symm) (by decide)
            · replace c48 := Bool.eq_false_iff.mpr c48
              subst c48
              have H1 : ((laws_markByteS.f kj16 t409 1).bind fun bt433 => ((laws_heldByteS.f kj16 bt433.2 1).bind fun t435 => (if t435 < 0 then (some false) else (if t435 = bt433.1 then ((laws_toMsg.f kj16 a0_0 a0_1 a0_2 a0_3 l0_4 l0_5 l0_6 a0_7).bind fun bt436 => ((impl_PutMsg.f kj16 bt436.1 bt436.2.1 bt436.2.2.1 bt436.2.2.2.1 bt436.2.2.2.2.1 bt436.2.2.2.2.2.1 bt436.2.2.2.2.2.2.1 bt436.2.2.2.2.2.2.2).bind fun t450 => ((laws_eqByteS.f kj16 t450 t391).bind fun t453 => (if t453 = true then ((laws_heldByteS.f kj16 bt433.2 1).bind fun t454 => (if t454 < 0 then (some false) else (if t454 = bt433.1 then (some true) else (some false)))) else (some false))))) else (some false))))) = some r := by rw [if_neg (show ¬ (false = true) by decide)] at H; exact H
              clear H
              have H := H1
              clear H1
              replace H := Option.bind_eq_some_iff.mp H
              obtain ⟨⟨t433, t434⟩, A490, H⟩ := H
              try dsimp only at H
              have A49 := Aside0.mk A490
              clear A490
              replace H := Option.bind_eq_some_iff.mp H
              obtain ⟨t435, A500, H⟩ := H
              try dsimp only at H
              have A50 := Aside0.mk A500
              clear A500
              by_cases c51 : t435 < 0
              · rw [if_pos c51] at H
                have c51b0 : decide (t435 < 0) = true := decide_eq_true c51
                clear c51
                exact absurd (hrt.symm.trans (Option.some.inj H).symm) (by decide)
              · rw [if_neg c51] at H
                have c51b0 : decide (t435 < 0) = false := decide_eq_false c51
                clear c51
                by_cases c53 : t435 = t433
                · rw [if_pos c53] at H
                  have c53b0 : (t435 == t433) = true := beq_iff_eq.mpr c53
                  have c53b1 : (t435 != t433) = false := bne_eq_false_iff_eq.mpr c53
                  clear c53
                  replace H := Option.bind_eq_some_iff.mp H
                  obtain ⟨⟨t436, t437, t438, t439, t440, t443, t446, t449⟩, A540, H⟩ := H
                  try dsimp only at H
                  have A54 := Aside0.mk A540
                  clear A540
                  replace H := Option.bind_eq_some_iff.mp H
                  obtain ⟨t450, A550, H⟩ := H
                  try dsimp only at H
                  have A55 := Aside0.mk A550
                  clear A550
                  replace H := Option.bind_eq_some_iff.mp H
                  obtain ⟨t453, A560, H⟩ := H
                  try dsimp only at H
                  have A56 := Aside0.mk A560
                  clear A560
                  by_cases c57 : t453 = true
                  · subst c57
                    have H1 : ((laws_heldByteS.f kj16 t434 1).bind fun t454 => (if t454 < 0 then (some false) else (if t454 = t433 then (some true) else (some false)))) = some r := by rw [if_pos rfl] at H; exact H
                    clear H
                    have H := H1
                    clear H1
                    replace H := Option.bind_eq_some_iff.mp H
                    obtain ⟨t454, A580, H⟩ := H
                    try dsimp only at H
                    have A58 := Aside0.mk A580
                    clear A580
                    by_cases c59 : t454 < 0
                    · rw [if_pos c59] at H
                      have c59b0 : decide (t454 < 0) = true := decide_eq_true c59
                      clear c59
                      exact absurd (hrt.symm.trans (Option.some.inj H).symm) (by decide)
                    · rw [if_neg c59] at H
                      have c59b0 : decide (t454 < 0) = false := decide_eq_false c59
                      clear c59
                      by_cases c69 : t454 = t433
                      · rw [if_pos c69] at H
                        have c69b0 : (t454 == t433) = true := beq_iff_eq.mpr c69
                        have c69b1 : (t454 != t433) = false := bne_eq_false_iff_eq.mpr c69
                        clear c69
                        obtain rfl := Option.some.inj H
                        go_wp2_with (first | ((with_reducible refine gate_callee (f := 25) rfl ?_); refine goesL_ (some 45) rfl rfl Try.func25 (by kernel_rfl) rfl #[.slice Ao36 t409.length co36, .int .i64 1] rfl (q13_21) ?_; (with_reducible refine (laws_markByteS.callsC kj16 (fun k_ => some k_ = (.slice Ao36 t409.length co36 : Value).ownBlock) (.slice Ao36 t409.length co36) t409 1 t433 t434 w _ ?side1 ?side2 A49.out).mono ?_); (case side1 => repeat (first | (with_reducible first | exact HB.out | apply below_alloc | apply pw_below_drewN | apply below_drew1 | refine below_set ?_ GE375.out | refine below_set ?_ GE408.out) | exact HB.out)); (case side2 => exact Cw.R_tight rfl HO_6.out); rintro e w70 ⟨rfl, hy0, hb, hkp⟩; refine ⟨_, rfl, ?_⟩; have n0_ := Aside0.mk (Kd.R_mono (ok' := fun k_ => some k_ ≠ (.slice Ao36 t409.length co36 : Value).ownBlock) (Kd.R_keptB (HO_4.out) hkp (fun k_ hk_ hs_ => (hk_) hs_)) (fun k_ hk_ => hk_.1)); have n1_ := Aside0.mk (Cw.R_reok rfl hy0 (fun k_ e_ => Cw.R_okb HO_6.out k_ e_)); have n2_ := Aside0.mk (Kd.R_mono (ok' := fun k_ => True) (Kd.R_keptB ((Kd.R_apartC HO_409004.out (Cw.R_typed HO_6.out) (by decide))) hkp (fun k_ hk_ hs_ => (hk_.2) hs_)) (fun k_ hk_ => trivial)); have n3_ := Aside0.mk (Kd.R_mono (ok' := fun k_ => True) (Kd.R_keptB ((Kd.R_apartC HO_409005.out (Cw.R_typed HO_6.out) (by decide))) hkp (fun k_ hk_ hs_ => (hk_.2) hs_)) (fun k_ hk_ => trivial)); have n4_ := Aside0.mk (Kd.R_mono (ok' := fun k_ => True) (Kd.R_keptB ((Kd.R_apartC HO_409006.out (Cw.R_typed HO_6.out) (by decide))) hkp (fun k_ hk_ hs_ => (hk_.2) hs_)) (fun k_ hk_ => trivial)); have n5_ := Aside0.mk (blk_kept (q13_25) hkp (fun hs_ => (fun e_ => (Cw.R_ne HO_6.out BK375.out (by decide)) e_) hs_)); have n6_ := Aside0.mk (blk_kept (q13_24) hkp (fun hs_ => (fun e_ => (Cw.R_ne HO_6.out BK408.out (by decide)) e_) hs_)); have n7_ := Aside0.mk (hb); clear HO_4; clear HO_6; clear HO_409004; clear HO_409005; clear HO_409006; clear BK375; clear BK408; clear HB; have HO_4 := n0_; have HO_6 := n1_; have HO_409004 := n2_; have HO_409005 := n3_; have HO_409006 := n4_; have BK375 := n5_; have BK408 := n6_; have HB := n7_; clear n0_ n1_ n2_ n3_ n4_ n5_ n6_ n7_; (try clear hb); (try clear hkp); (try clear hy0)) | ((with_reducible refine gate_callee (f := 26) rfl ?_); refine goesL_ (some 48) rfl rfl Try.func26 (by kernel_rfl) rfl #[.slice Ao36 t434.length co36, .int .i64 1] rfl (by (try simp only [List.map_toArray, List.map_cons, List.map_nil]); first | done | (rw [show t434.length = t409.length from (Cw.R_reads' HO_6.out).1.symm] <;> rfl) | rfl | (simp only [List.length_drop, List.length_take]; rfl)) ?_; (with_reducible refine (laws_heldByteS.calls kj16 _ _ t434 1 t435 _ ?side1 ?side2 A50.out).mono ?_); (case side1 => repeat (first | exact (Cw.R_reads' HO_6.out).2.2 | (with_reducible refine Kd.C_alloc ?_ _) | (with_reducible refine Kd.C_drewN ?_ _) | (with_reducible refine Kd.C_drew ?_))); (case side2 => rw [show t434.length = t409.length from (Cw.R_reads' HO_6.out).1.symm]; exact (Cw.R_reads' HO_6.out).2.1); rintro e w' ⟨rfl, ⟨nd, rfl⟩⟩; refine ⟨_, rfl, ?_⟩; have hnb71 := NB375_408.out; have hnc71 := NB408_375.out; have hcz72_0 : w70.cell? ⟨gb375, 0, none⟩ = some (.int .i64 a0_0) := (blk_cell BK375.out 0).trans rfl; have hcz72_1 : w70.cell? ⟨gb375, 1, none⟩ = some (.int .i64 a0_1) := (blk_cell BK375.out 1).trans rfl; have hcz72_2 : w70.cell? ⟨gb375, 2, none⟩ = some (.int .i64 a0_2) := (blk_cell BK375.out 2).trans rfl; have hcz72_3 : w70.cell? ⟨gb375, 3, none⟩ = some (.int .i64 a0_3) := (blk_cell BK375.out 3).trans rfl; have hcz72_4 : w70.cell? ⟨gb375, 4, none⟩ = some (.slice A0_4 l0_4.length c0_4) := (blk_cell BK375.out 4).trans rfl; have hcz72_5 : w70.cell? ⟨gb375, 5, none⟩ = some (.slice A0_5 l0_5.length c0_5) := (blk_cell BK375.out 5).trans rfl; have hcz72_6 : w70.cell? ⟨gb375, 6, none⟩ = some (.slice A0_6 l0_6.length c0_6) := (blk_cell BK375.out 6).trans rfl; have hcz72_7 : w70.cell? ⟨gb375, 7, none⟩ = some (.string a0_7) := (blk_cell BK375.out 7).trans rfl; have hfz72_0 := blk_frozen BK375.out 0; have hfz72_1 := blk_frozen BK375.out 1; have hfz72_2 := blk_frozen BK375.out 2; have hfz72_3 := blk_frozen BK375.out 3; have hfz72_4 := blk_frozen BK375.out 4; have hfz72_5 := blk_frozen BK375.out 5; have hfz72_6 := blk_frozen BK375.out 6; have hfz72_7 := blk_frozen BK375.out 7) | ((with_reducible refine gate_callee (f := 9) rfl ?_); refine goesL_ (some 55) rfl rfl Try.func9 (by kernel_rfl) rfl #[.agg #[.int .i64 a0_0, .int .i64 a0_1, .int .i64 a0_2, .int .i64 a0_3, .slice A0_4 l0_4.length c0_4, .slice A0_5 l0_5.length c0_5, .slice A0_6 l0_6.length c0_6, .string a0_7]] rfl (q13_21) ?_; (with_reducible refine (laws_toMsg.calls kj16 a0_0 a0_1 a0_2 a0_3 _ _ l0_4 _ _ l0_5 _ _ l0_6 a0_7 t436 t437 t438 t439 t440 t443 t446 t449 _ ?side1 ?side2 ?side3 ?side4 ?side5 ?side6 A54.out).mono ?_); (case side1 => repeat (first | exact (Kd.C_below HR0_4.out (q13_5)) | (with_reducible refine Kd.C_alloc ?_ _) | (with_reducible refine Kd.C_drewN ?_ _) | (with_reducible refine Kd.C_drew ?_))); (case side2 => exact HC0_4.out); (case side3 => repeat (first | exact (Kd.C_below HR0_5.out (q13_5)) | (with_reducible refine Kd.C_alloc ?_ _) | (with_reducible refine Kd.C_drewN ?_ _) | (with_reducible refine Kd.C_drew ?_))); (case side4 => exact HC0_5.out); (case side5 => repeat (first | exact (Kd.C_below HR0_6.out (q13_5)) | (with_reducible refine Kd.C_alloc ?_ _) | (with_reducible refine Kd.C_drewN ?_ _) | (with_reducible refine Kd.C_drew ?_))); (case side6 => exact HC0_6.out); rintro e w73 ⟨v441, v444, v447, rfl, ho0, ho1, ho2, hb⟩; refine ⟨_, rfl, ?_⟩; have n0_ := Aside0.mk (Kd.R_below (q13_20) hb); have n1_ := Aside0.mk (Cw.R_below (q13_19) hb); have n2_ := Aside0.mk (Kd.R_elder' (q13_10) (Kd.R_base ho0) hb); have n3_ := Aside0.mk (Kd.R_elder' (q13_9) (Kd.R_base ho1) hb); have n4_ := Aside0.mk (Kd.R_elder' (q13_8) (Kd.R_base ho2) hb); have n5_ := Aside0.mk (Kd.R_lower (Kd.R_new' ho0 (Kd.R_lt (q13_10))) (below_size (q13_5))); have n6_ := Aside0.mk (Kd.R_lower (Kd.R_new' ho1 (Kd.R_lt (q13_9))) (below_size (q13_5))); have n7_ := Aside0.mk (Kd.R_lower (Kd.R_new' ho2 (Kd.R_lt (q13_8))) (below_size (q13_5))); have n8_ := Aside0.mk (blk_below (g := gb375) (o := .cells #[.int .i64 a0_0, .int .i64 a0_1, .int .i64 a0_2, .int .i64 a0_3, .slice A0_4 l0_4.length c0_4, .slice A0_5 l0_5.length c0_5, .slice A0_6 l0_6.length c0_6, .string a0_7] 28 (0, 0)) (q13_25) hb); have n9_ := Aside0.mk (blk_below (g := gb408) (o := .cells #[.int .i64 t394, .int .i64 t395, .int .i64 t396, .int .i64 t397, .slice Ao32 t429.length co32, .slice Ao33 t430.length co33, .slice Ao34 t431.length co34, .string t407] 34 (0, 0)) (q13_24) hb); have n10_ := Aside0.mk (below_step (q13_5) hb); clear HO_4; clear HO_6; clear HO_409004; clear HO_409005; clear HO_409006; clear BK375; clear BK408; clear HB; have HO_4 := n0_; have HO_6 := n1_; have HO_409004 := n2_; have HO_409005 := n3_; have HO_409006 := n4_; have HO442 := n5_; have HO445 := n6_; have HO448 := n7_; have BK375 := n8_; have BK408 := n9_; have HB := n10_; clear n0_ n1_ n2_ n3_ n4_ n5_ n6_ n7_ n8_ n9_ n10_; (try clear hb); (try clear hb2); (try clear hk); (try clear hi); (try clear ho0); (try clear ho1); (try clear ho2); obtain ⟨Ao74, co74, eo74⟩ := Kd.R_slice HO442.out; subst eo74; obtain ⟨Ao75, co75, eo75⟩ := Kd.R_slice HO445.out; subst eo75; obtain ⟨Ao76, co76, eo76⟩ := Kd.R_slice HO448.out; subst eo76) | ((with_reducible refine gate_callee (f := 22) rfl ?_); refine goesL_ (some 56) rfl rfl Try.func22 (by kernel_rfl) rfl #[.agg #[.int .i64 t436, .int .i64 t437, .int .i64 t438, .int .i64 t439, .slice Ao74 t440.length co74, .slice Ao75 t443.length co75, .slice Ao76 t446.length co76, .string t449]] rfl (q13_21) ?_; (with_reducible refine (impl_PutMsg.calls kj16 t436 t437 t438 t439 _ _ t440 _ _ t443 _ _ t446 t449 t450 _ ?side1 ?side2 ?side3 ?side4 ?side5 ?side6 A55.out).mono ?_); (case side1 => repeat (first | exact (Kd.R_reads' HO442.out).2.2 | (with_reducible refine Kd.C_alloc ?_ _) | (with_reducible refine Kd.C_drewN ?_ _) | (with_reducible refine Kd.C_drew ?_))); (case side2 => exact (Kd.R_reads' HO442.out).2.1); (case side3 => repeat (first | exact (Kd.R_reads' HO445.out).2.2 | (with_reducible refine Kd.C_alloc ?_ _) | (with_reducible refine Kd.C_drewN ?_ _) | (with_reducible refine Kd.C_drew ?_))); (case side4 => exact (Kd.R_reads' HO445.out).2.1); (case side5 => repeat (first | exact (Kd.R_reads' HO448.out).2.2 | (with_reducible refine Kd.C_alloc ?_ _) | (with_reducible refine Kd.C_drewN ?_ _) | (with_reducible refine Kd.C_drew ?_))); (case side6 => exact (Kd.R_reads' HO448.out).2.1); rintro e w77 ⟨v451, rfl, ho0, hb⟩; refine ⟨_, rfl, ?_⟩; have n0_ := Aside0.mk (Kd.R_elder' (q13_20) (Cw.R_base ho0) hb); have n1_ := Aside0.mk (Cw.R_elder' (q13_19) (Cw.R_base ho0) hb); have n2_ := Aside0.mk (Kd.R_below (q13_10) hb); have n3_ := Aside0.mk (Kd.R_below (q13_9) hb); have n4_ := Aside0.mk (Kd.R_below (q13_8) hb); have n5_ := Aside0.mk (Kd.R_below (by (with_reducible repeat (first | apply Kd.R_alloc | apply Kd.R_drewN | apply Kd.R_drew | apply Cw.R_alloc | apply Cw.R_drewN | apply Cw.R_drew)); exact HO442.out) hb); have n6_ := Aside0.mk (Kd.R_below (by (with_reducible repeat (first | apply Kd.R_alloc | apply Kd.R_drewN | apply Kd.R_drew | apply Cw.R_alloc | apply Cw.R_drewN | apply Cw.R_drew)); exact HO445.out) hb); have n7_ := Aside0.mk (Kd.R_below (by (with_reducible repeat (first | apply Kd.R_alloc | apply Kd.R_drewN | apply Kd.R_drew | apply Cw.R_alloc | apply Cw.R_drewN | apply Cw.R_drew)); exact HO448.out) hb); have n8_ := Aside0.mk (Cw.R_lower (Cw.R_new' (Cw.R_new' ho0 (Kd.R_lt (q13_20))) (Cw.R_lt (q13_19))) (below_size (q13_5))); have n9_ := Aside0.mk (blk_below (g := gb375) (o := .cells #[.int .i64 a0_0, .int .i64 a0_1, .int .i64 a0_2, .int .i64 a0_3, .slice A0_4 l0_4.length c0_4, .slice A0_5 l0_5.length c0_5, .slice A0_6 l0_6.length c0_6, .string a0_7] 28 (0, 0)) (q13_25) hb); have n10_ := Aside0.mk (blk_below (g := gb408) (o := .cells #[.int .i64 t394, .int .i64 t395, .int .i64 t396, .int .i64 t397, .slice Ao32 t429.length co32, .slice Ao33 t430.length co33, .slice Ao34 t431.length co34, .string t407] 34 (0, 0)) (q13_24) hb); have n11_ := Aside0.mk (below_step (q13_5) hb); clear HO_4; clear HO_6; clear HO_409004; clear HO_409005; clear HO_409006; clear HO442; clear HO445; clear HO448; clear BK375; clear BK408; clear HB; have HO_4 := n0_; have HO_6 := n1_; have HO_409004 := n2_; have HO_409005 := n3_; have HO_409006 := n4_; have HO442 := n5_; have HO445 := n6_; have HO448 := n7_; have HO452 := n8_; have BK375 := n9_; have BK408 := n10_; have HB := n11_; clear n0_ n1_ n2_ n3_ n4_ n5_ n6_ n7_ n8_ n9_ n10_ n11_; (try clear hb); (try clear hb2); (try clear hk); (try clear hi); (try clear ho0); obtain ⟨Ao78, co78, eo78⟩ := Cw.R_slice HO452.out; subst eo78) | ((with_reducible refine gate_callee (f := 23) rfl ?_); refine goesL_ (some 59) rfl rfl Try.func23 (by kernel_rfl) rfl #[.slice Ao78 t450.length co78, .slice Ao37 t391.length co37] rfl (q13_21) ?_; (with_reducible refine (laws_eqByteS.calls kj16 _ _ t450 _ _ t391 true _ ?side1 ?side2 ?side3 ?side4 A56.out).mono ?_); (case side1 => repeat (first | exact (Cw.R_reads' HO452.out).2.2 | (with_reducible refine Kd.C_alloc ?_ _) | (with_reducible refine Kd.C_drewN ?_ _) | (with_reducible refine Kd.C_drew ?_))); (case side2 => exact (Cw.R_reads' HO452.out).2.1); (case side3 => repeat (first | exact (Kd.R_reads' HO_4.out).2.2 | (with_reducible refine Kd.C_alloc ?_ _) | (with_reducible refine Kd.C_drewN ?_ _) | (with_reducible refine Kd.C_drew ?_))); (case side4 => exact (Kd.R_reads' HO_4.out).2.1); rintro e w' ⟨rfl, ⟨nd, rfl⟩⟩; refine ⟨_, rfl, ?_⟩) | ((with_reducible refine gate_callee (f := 26) rfl ?_); refine goesL_ (some 63) rfl rfl Try.func26 (by kernel_rfl) rfl #[.slice Ao36 t434.length co36, .int .i64 1] rfl (by (try simp only [List.map_toArray, List.map_cons, List.map_nil]); first | done | (rw [show t434.length = t409.length from (Cw.R_reads' HO_6.out).1.symm] <;> rfl) | rfl | (simp only [List.length_drop, List.length_take]; rfl)) ?_; (with_reducible refine (laws_heldByteS.calls kj16 _ _ t434 1 t454 _ ?side1 ?side2 A58.out).mono ?_); (case side1 => repeat (first | exact (Cw.R_reads' HO_6.out).2.2 | (with_reducible refine Kd.C_alloc ?_ _) | (with_reducible refine Kd.C_drewN ?_ _) | (with_reducible refine Kd.C_drew ?_))); (case side2 => rw [show t434.length = t409.length from (Cw.R_reads' HO_6.out).1.symm]; exact (Cw.R_reads' HO_6.out).2.1); rintro e w' ⟨rfl, ⟨nd, rfl⟩⟩; refine ⟨_, rfl, ?_⟩))
                        go_ret
                        exact ⟨by first | rfl | (simp [errW_none, errW_some] <;> rfl) | (simp [*, errW_none, errW_some] <;> rfl), q13_5⟩
                      · rw [if_neg c69] at H
                        have c69b0 : (t454 == t433) = false := beq_eq_false_iff_ne.mpr c69
                        have c69b1 : (t454 != t433) = true := bne_iff_ne.mpr c69
                        exact absurd (hrt.symm.trans (Option.some.inj H).symm) (by decide)
                  · replace c57 := Bool.eq_false_iff.mpr c57
                    subst c57
                    have H1 : (some false) = some r := by rw [if_neg (show ¬ (false = true) by decide)] at H; exact H
                    clear H
                    have H := H1
                    clear H1
                    exact absurd (hrt.symm.trans (Option.some.inj H).symm) (by decide)
                · rw [if_neg c53] at H
                  have c53b0 : (t435 == t433) = false := beq_eq_false_iff_ne.mpr c53
                  have c53b1 : (t435 != t433) = true := bne_iff_ne.mpr c53
                  exact absurd (hrt.symm.trans (Option.some.inj H).symm) (by decide)
      · replace c15 := Bool.eq_false_iff.mpr c15
        subst c15
        have H1 : (some false) = some r := by rw [if_neg (show ¬ (false = true) by decide)] at H; exact H
        clear H
        have H := H1
        clear H1
        exact absurd (hrt.symm.trans (Option.some.inj H).symm) (by decide)
    · replace c12 := Bool.eq_false_iff.mpr c12
      subst c12
      have H1 : (some false) = some r := by rw [if_neg (show ¬ (false = true) by decide)] at H; exact H
      clear H
      have H := H1
      clear H1
      exact absurd (hrt.symm.trans (Option.some.inj H).symm) (by decide)

/-- The one pure statement of laws_FnExactPutMsg. -/
def laws_FnExactPutMsg.Pure : Prop := ∀ (a0_0 : Int) (a0_1 : Int) (a0_2 : Int) (a0_3 : Int) (l0_4 : List Int) (l0_5 : List ByteArray) (l0_6 : List (S101)) (a0_7 : ByteArray), ((Lit.int .i64 a0_0).wf = true) → ((Lit.int .i64 a0_1).wf = true) → ((Lit.int .i64 a0_2).wf = true) → ((Lit.int .i64 a0_3).wf = true) → (l0_4.length ≤ maxLen) → (l0_4.length * 4 ≤ 140737488351232) → ((∀ x0_, x0_ ∈ l0_4 → ((Lit.int .u32 x0_).wf = true))) → (l0_5.length ≤ maxLen) → (l0_5.length * 16 ≤ 140737488351232) → ((∀ x0_, x0_ ∈ l0_5 → (x0_.size ≤ 140737488351232))) → (l0_6.length ≤ maxLen) → (l0_6.length * 40 ≤ 140737488351232) → ((∀ x0_, x0_ ∈ l0_6 → ((Lit.int .i64 x0_.f0).wf = true) ∧ (x0_.f1.size ≤ 140737488351232) ∧ ((Lit.int .i64 x0_.f2).wf = true) ∧ ((Lit.int .i64 x0_.f3).wf = true))) → (a0_7.size ≤ 140737488351232) → ∃ k, laws_FnExactPutMsg.f k a0_0 a0_1 a0_2 a0_3 l0_4 l0_5 l0_6 a0_7 = some true

end Go.Proofs.Ytphlmaaplaaopaa.PFnExactPutMsg
