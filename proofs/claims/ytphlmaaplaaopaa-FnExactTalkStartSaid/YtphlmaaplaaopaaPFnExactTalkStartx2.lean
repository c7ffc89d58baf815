-- PRINTED by print.py (a twelfth state) out of the translation. Not trusted: Lean checks it.
import Derived.Test.YtphlmaaplaaopaaPFnExactTalkStartx0
import Derived.Test.YtphlmaaplaaopaaPFnExactTalkStartx1
namespace Go.Proofs.Ytphlmaaplaaopaa.PFnExactTalkStart
open Go.RowKit Go.Proofs.YtphlmaaplaaopaaW.PrintWords Go.Proofs.YtphlmaaplaaopaaW.PrintLast Go.Proofs.YtphlmaaplaaopaaW.PrintMore
attribute [local go_sem] max2_int min2_int max_two min_two max_three min_three max_four min_four   -- for this text's walks alone
set_option linter.unusedVariables false
set_option linter.unusedSimpArgs false
open Go.Proofs.YtphlmaaplaaopaaW
theorem q2_1 {p : Prop} (h : p := by (with_reducible repeat (first | refine blk_drewN ?_ _ | refine blk_drew ?_ | refine blk_alloc ?_ _)); refine blk_put (cs := #[.int .u32 0, .int .i64 0, .slice none 0 0, .slice none 0 0, .int .i64 0, .slice none 0 0, .slice none 0 0, .slice none 0 0, .slice none 0 0, .slice none 0 0, .int .i64 0, .int .i64 0, .int .i64 x103012_2]) ?_ 12 _ rfl; (with_reducible repeat (first | refine blk_drewN ?_ _ | refine blk_drew ?_ | refine blk_alloc ?_ _)); refine blk_put (cs := #[.int .u32 0, .int .i64 0, .slice none 0 0, .slice none 0 0, .int .i64 0, .slice none 0 0, .slice none 0 0, .slice none 0 0, .slice none 0 0, .slice none 0 0, .int .i64 0, .int .i64 x103011_2, .int .i64 x103012_2]) ?_ 11 _ rfl; (with_reducible repeat (first | refine blk_drewN ?_ _ | refine blk_drew ?_ | refine blk_alloc ?_ _)); refine blk_put (cs := #[.int .u32 0, .int .i64 0, .slice none 0 0, .slice none 0 0, .int .i64 0, .slice none 0 0, .slice none 0 0, .slice none 0 0, .slice none 0 0, .slice none 0 0, .int .i64 x103010_2, .int .i64 x103011_2, .int .i64 x103012_2]) ?_ 10 _ rfl; (with_reducible repeat (first | refine blk_drewN ?_ _ | refine blk_drew ?_ | refine blk_alloc ?_ _)); refine blk_put (cs := #[.int .u32 0, .int .i64 0, .slice none 0 0, .slice none 0 0, .int .i64 0, .slice none 0 0, .slice none 0 0, .slice none 0 0, .slice none 0 0, .slice none 0 0, .int .i64 x103010_2, .int .i64 x103011_2, .int .i64 x103012_2]) ?_ 9 _ rfl; (with_reducible repeat (first | refine blk_drewN ?_ _ | refine blk_drew ?_ | refine blk_alloc ?_ _)); refine blk_put (cs := #[.int .u32 0, .int .i64 0, .slice none 0 0, .slice none 0 0, .int .i64 0, .slice none 0 0, .slice none 0 0, .slice none 0 0, .slice none 0 0, .slice none 0 0, .int .i64 x103010_2, .int .i64 x103011_2, .int .i64 x103012_2]) ?_ 8 _ rfl; (with_reducible repeat (first | refine blk_drewN ?_ _ | refine blk_drew ?_ | refine blk_alloc ?_ _)); refine blk_put (cs := #[.int .u32 0, .int .i64 0, .slice none 0 0, .slice none 0 0, .int .i64 0, .slice none 0 0, .slice none 0 0, .slice none 0 0, .slice none 0 0, .slice none 0 0, .int .i64 x103010_2, .int .i64 x103011_2, .int .i64 x103012_2]) ?_ 7 _ rfl; (with_reducible repeat (first | refine blk_drewN ?_ _ | refine blk_drew ?_ | refine blk_alloc ?_ _)); refine blk_put (cs := #[.int .u32 0, .int .i64 0, .slice none 0 0, .slice none 0 0, .int .i64 0, .slice none 0 0, .slice none 0 0, .slice none 0 0, .slice none 0 0, .slice none 0 0, .int .i64 x103010_2, .int .i64 x103011_2, .int .i64 x103012_2]) ?_ 6 _ rfl; (with_reducible repeat (first | refine blk_drewN ?_ _ | refine blk_drew ?_ | refine blk_alloc ?_ _)); refine blk_put (cs := #[.int .u32 0, .int .i64 0, .slice none 0 0, .slice none 0 0, .int .i64 0, .slice none 0 0, .slice none 0 0, .slice none 0 0, .slice none 0 0, .slice none 0 0, .int .i64 x103010_2, .int .i64 x103011_2, .int .i64 x103012_2]) ?_ 5 _ rfl; (with_reducible repeat (first | refine blk_drewN ?_ _ | refine blk_drew ?_ | refine blk_alloc ?_ _)); refine blk_put (cs := #[.int .u32 0, .int .i64 0, .slice none 0 0, .slice none 0 0, .int .i64 x103004_2, .slice none 0 0, .slice none 0 0, .slice none 0 0, .slice none 0 0, .slice none 0 0, .int .i64 x103010_2, .int .i64 x103011_2, .int .i64 x103012_2]) ?_ 4 _ rfl; (with_reducible repeat (first | refine blk_drewN ?_ _ | refine blk_drew ?_ | refine blk_alloc ?_ _)); refine blk_put (cs := #[.int .u32 0, .int .i64 0, .slice none 0 0, .slice none 0 0, .int .i64 x103004_2, .slice none 0 0, .slice none 0 0, .slice none 0 0, .slice none 0 0, .slice none 0 0, .int .i64 x103010_2, .int .i64 x103011_2, .int .i64 x103012_2]) ?_ 3 _ rfl; (with_reducible repeat (first | refine blk_drewN ?_ _ | refine blk_drew ?_ | refine blk_alloc ?_ _)); refine blk_put (cs := #[.int .u32 0, .int .i64 0, .slice none 0 0, .slice none 0 0, .int .i64 x103004_2, .slice none 0 0, .slice none 0 0, .slice none 0 0, .slice none 0 0, .slice none 0 0, .int .i64 x103010_2, .int .i64 x103011_2, .int .i64 x103012_2]) ?_ 2 _ rfl; (with_reducible repeat (first | refine blk_drewN ?_ _ | refine blk_drew ?_ | refine blk_alloc ?_ _)); refine blk_put (cs := #[.int .u32 0, .int .i64 x103001_2, .slice none 0 0, .slice none 0 0, .int .i64 x103004_2, .slice none 0 0, .slice none 0 0, .slice none 0 0, .slice none 0 0, .slice none 0 0, .int .i64 x103010_2, .int .i64 x103011_2, .int .i64 x103012_2]) ?_ 1 _ rfl; (with_reducible repeat (first | refine blk_drewN ?_ _ | refine blk_drew ?_ | refine blk_alloc ?_ _)); refine blk_put (cs := #[.int .u32 x103000_2, .int .i64 x103001_2, .slice none 0 0, .slice none 0 0, .int .i64 x103004_2, .slice none 0 0, .slice none 0 0, .slice none 0 0, .slice none 0 0, .slice none 0 0, .int .i64 x103010_2, .int .i64 x103011_2, .int .i64 x103012_2]) ?_ 0 _ rfl; (with_reducible repeat (first | refine blk_drewN ?_ _ | refine blk_drew ?_ | refine blk_alloc ?_ _)); exact BK102.out) : p := h
theorem q2_2 {p : Prop} (h : p := by (with_reducible repeat (first | apply Kd.R_alloc | apply Kd.R_drewN | apply Kd.R_drew)); exact (Kd.R_mono (Kd.R_far (p := ⟨gb104, 8, none⟩) (Kd.R_types HO_105009.out BK104.out (by decide)) (fun _ hk => hk.2) (.slice Ao40 y115.length co40)) (fun _ h_ => h_.1))) : p := h
theorem q2_3 {p : Prop} (h : p := by (with_reducible repeat (first | refine blk_drewN ?_ _ | refine blk_drew ?_ | refine blk_alloc ?_ _)); refine blk_far ?_ NB102_104.out _; (with_reducible repeat (first | refine blk_drewN ?_ _ | refine blk_drew ?_ | refine blk_alloc ?_ _)); exact BK102.out) : p := h
theorem q2_4 {p : Prop} (h : p := by repeat (first | (with_reducible first | exact HB.out | apply below_alloc | apply pw_below_drewN | apply below_drew1 | refine below_set ?_ GE102.out | refine below_set ?_ GE104.out) | exact HB.out)) : p := h
theorem q2_5 {p : Prop} (h : p := by repeat (first | (with_reducible first | exact HB.out | apply below_alloc | apply pw_below_drewN | apply below_drew1 | refine below_set ?_ GE102.out) | exact HB.out)) : p := h
theorem q2_6 {p : Prop} (h : p := by first | exact Kd.S_nil _ _ _ _ _ | exact Kd.N_nil _ _ _ _ _ | exact Kd.V_nil _ _ _ _ _ | exact Kd.Q_nil _ _ _ _ _ | exact Kd.R_nil _ _ _ _ _) : p := h
theorem q2_7 {p : Prop} (h : p := by first | exact Kd.R_nil _ _ _ _ _ | exact Kd.N_nil _ _ _ _ _ | exact Kd.V_nil _ _ _ _ _ | exact Kd.Q_nil _ _ _ _ _ | exact Kd.S_nil _ _ _ _ _) : p := h
theorem q2_8 {p : Prop} (h : p := by (try simp only [List.map_toArray, List.map_cons, List.map_nil]); first | done | rfl | (simp only [List.length_drop, List.length_take]; rfl)) : p := h
theorem q2_9 {p : Prop} (h : p := by repeat (first | (with_reducible first | exact HB.out | apply below_alloc | apply pw_below_drewN | apply below_drew1) | exact HB.out)) : p := h
theorem q2_10 {p : Prop} (h : p := by (with_reducible repeat (first | refine blk_drewN ?_ _ | refine blk_drew ?_ | refine blk_alloc ?_ _)); exact BK102.out) : p := h
theorem q2_11 {p : Prop} (h : p := by first | rfl | (simp [errW_none, errW_some] <;> rfl) | (simp [*, errW_none, errW_some] <;> rfl)) : p := h
theorem q2_12 {p : Prop} (h : p := by first | (with_reducible assumption) | assumption) : p := h

/-! ### spec_TalkStart: function 13 -/
mutual
def spec_TalkStart.j0 : Nat → Int → Int → List ByteArray → List ByteArray → Bool → Option (Int × Int × List ByteArray × List ByteArray × Int × List Int × (List (S34)) × (List (S34)) × List ByteArray × List Bool × Int × Int × Int × Bool)
  | 0, _, _, _, _, _ => none
  | k + 1, x0, x1, x2, x3, x26 => if x26 = true then (some (0, 0, ([] : List ByteArray), ([] : List ByteArray), 0, ([] : List Int), ([] : List (S34)), ([] : List (S34)), ([] : List ByteArray), ([] : List Bool), 0, 0, 0, false)) else (spec_TalkStart.l0 k x2 x3 0 x0 x1 ([] : List ByteArray) ([] : List ByteArray) 0 ([] : List ByteArray) ([] : List Bool) 0 0 0)
def spec_TalkStart.l0 : Nat → List ByteArray → List ByteArray → Int → Int → Int → List ByteArray → List ByteArray → Int → List ByteArray → List Bool → Int → Int → Int → Option (Int × Int × List ByteArray × List ByteArray × Int × List Int × (List (S34)) × (List (S34)) × List ByteArray × List Bool × Int × Int × Int × Bool)
  | 0, _, _, _, _, _, _, _, _, _, _, _, _, _ => none
  | k + 1, x2, x3, x11, x105000, x105001, x105002, x105003, x105004, x105008, x105009, x105010, x105011, x105012 => if x11 < (x2.length : Int) then (if 0 ≤ x11 then (if ((rdOf ByteArray.empty x2 x11).size : Int) > 20000 then (some (0, 0, ([] : List ByteArray), ([] : List ByteArray), 0, ([] : List Int), ([] : List (S34)), ([] : List (S34)), ([] : List ByteArray), ([] : List Bool), 0, 0, 0, false)) else (if x11 < (x3.length : Int) then (if ((rdOf ByteArray.empty x3 x11).size : Int) > 20000 then (some (0, 0, ([] : List ByteArray), ([] : List ByteArray), 0, ([] : List Int), ([] : List (S34)), ([] : List (S34)), ([] : List ByteArray), ([] : List Bool), 0, 0, 0, false)) else (if x105002.length < 8796093022208 then (if x105003.length < 8796093022208 then (if x105008.length < 8796093022208 then (if x105009.length < 140737488355328 then (spec_TalkStart.l0 k x2 x3 (wrap64 (x11 + 1)) x105000 x105001 (x105002 ++ [rdOf ByteArray.empty x2 x11]) (x105003 ++ [rdOf ByteArray.empty x3 x11]) x105004 (x105008 ++ [(⟨#[]⟩ : ByteArray)]) (x105009 ++ [false]) x105010 x105011 x105012) else (none)) else (none)) else (none)) else (none))) else (none))) else (none)) else (some (x105000, x105001, x105002, x105003, x105004, ([] : List Int), ([] : List (S34)), ([] : List (S34)), x105008, x105009, x105010, x105011, x105012, true))
end
def spec_TalkStart.f (k : Nat) (a0 : Int) (a1 : Int) (l2 : List ByteArray) (l3 : List ByteArray) : Option (Int × Int × List ByteArray × List ByteArray × Int × List Int × (List (S34)) × (List (S34)) × List ByteArray × List Bool × Int × Int × Int × Bool) := (spec_l01In.f a1 1 50).bind fun t103 => (if t103 = true then (if (l2.length : Int) = (l3.length : Int) then (spec_TalkStart.j0 k a0 a1 l2 l3 (decide ((l2.length : Int) > 1000))) else (spec_TalkStart.j0 k a0 a1 l2 l3 true)) else (spec_TalkStart.j0 k a0 a1 l2 l3 true))
theorem spec_TalkStart.mono_l : ∀ k, (∀ y0 y1 y2 y3 y4, LeO (spec_TalkStart.j0 k y0 y1 y2 y3 y4) (spec_TalkStart.j0 (k + 1) y0 y1 y2 y3 y4)) ∧ (∀ y0 y1 y2 y3 y4 y5 y6 y7 y8 y9 y10 y11 y12, LeO (spec_TalkStart.l0 k y0 y1 y2 y3 y4 y5 y6 y7 y8 y9 y10 y11 y12) (spec_TalkStart.l0 (k + 1) y0 y1 y2 y3 y4 y5 y6 y7 y8 y9 y10 y11 y12))
  | 0 => ⟨fun _ _ _ _ _ r h => by simp [spec_TalkStart.j0] at h, fun _ _ _ _ _ _ _ _ _ _ _ _ _ r h => by simp [spec_TalkStart.l0] at h⟩
  | k + 1 => by
    obtain ⟨ih0, ih1⟩ := spec_TalkStart.mono_l k
    refine ⟨?_, ?_⟩
    · intro y0 y1 y2 y3 y4
      unfold spec_TalkStart.j0
      repeat' first
      | (with_reducible exact ih0 _ _ _ _ _)
      | (with_reducible exact ih1 _ _ _ _ _ _ _ _ _ _ _ _ _)
      | (with_reducible exact LeO.refl _)
      | (with_reducible exact LeO.none _)
      | (with_reducible refine LeO.ite ?_ ?_)
      | (with_reducible refine LeO.bind ?_ (fun _ => ?_))
      | exact ih0 _ _ _ _ _
      | exact ih1 _ _ _ _ _ _ _ _ _ _ _ _ _
      | exact LeO.none _
      | refine LeO.ite ?_ ?_
      | refine LeO.bind ?_ (fun _ => ?_)
    · intro y0 y1 y2 y3 y4 y5 y6 y7 y8 y9 y10 y11 y12
      unfold spec_TalkStart.l0
      repeat' first
      | (with_reducible exact ih0 _ _ _ _ _)
      | (with_reducible exact ih1 _ _ _ _ _ _ _ _ _ _ _ _ _)
      | (with_reducible exact LeO.refl _)
      | (with_reducible exact LeO.none _)
      | (with_reducible refine LeO.ite ?_ ?_)
      | (with_reducible refine LeO.bind ?_ (fun _ => ?_))
      | exact ih0 _ _ _ _ _
      | exact ih1 _ _ _ _ _ _ _ _ _ _ _ _ _
      | exact LeO.none _
      | refine LeO.ite ?_ ?_
      | refine LeO.bind ?_ (fun _ => ?_)
theorem spec_TalkStart.mono : ∀ a0 a1 a2 a3 k, LeO (spec_TalkStart.f k a0 a1 a2 a3) (spec_TalkStart.f (k + 1) a0 a1 a2 a3) := by
  intro a0 a1 a2 a3 k
  obtain ⟨ih0, ih1⟩ := spec_TalkStart.mono_l k
  unfold spec_TalkStart.f
  repeat' first
      | (with_reducible exact ih0 _ _ _ _ _)
      | (with_reducible exact ih1 _ _ _ _ _ _ _ _ _ _ _ _ _)
      | (with_reducible exact LeO.refl _)
      | (with_reducible exact LeO.none _)
      | (with_reducible refine LeO.ite ?_ ?_)
      | (with_reducible refine LeO.bind ?_ (fun _ => ?_))
      | exact ih0 _ _ _ _ _
      | exact ih1 _ _ _ _ _ _ _ _ _ _ _ _ _
      | exact LeO.none _
      | refine LeO.ite ?_ ?_
      | refine LeO.bind ?_ (fun _ => ?_)
def spec_TalkStart.T9 : Bool × List (List Nat × List Nat) := (true, [([], []), ([0], [0]), ([], []), ([], []), ([2, 3], [2, 3]), ([4], [4]), ([5], [5]), ([1, 6], [1, 6]), ([0, 1, 2, 3, 4, 5, 6, 7], []), ([8, 7, 7, 0, 1, 2, 3, 4, 5, 6, 7], [7, 8])])
def spec_TalkStart.B9 : List Nat := [0, 1, 0, 0, 12, 28, 60, 127, 255, 511]
theorem spec_TalkStart.tab9 : rtab .any (opsOf Try.f13 9) = spec_TalkStart.T9 := by kernel_rfl
theorem spec_TalkStart.bits9 : waitsOk spec_TalkStart.T9.2 spec_TalkStart.B9 = true := by kernel_rfl
def spec_TalkStart.T10 : Bool × List (List Nat × List Nat) := (true, [([], []), ([0], [0]), ([], []), ([], []), ([2, 3], [2, 3]), ([4], [4]), ([5], [5]), ([1, 6], [1, 6]), ([0, 1, 2, 3, 4, 5, 6, 7], []), ([8, 7, 7, 0, 1, 2, 3, 4, 5, 6, 7], [7, 8])])
def spec_TalkStart.B10 : List Nat := [0, 1, 0, 0, 12, 28, 60, 127, 255, 511]
theorem spec_TalkStart.tab10 : rtab .any (opsOf Try.f13 10) = spec_TalkStart.T10 := by kernel_rfl
theorem spec_TalkStart.bits10 : waitsOk spec_TalkStart.T10.2 spec_TalkStart.B10 = true := by kernel_rfl
set_option maxHeartbeats 8000000 in
set_option maxRecDepth 100000 in
theorem spec_TalkStart.calls (k : Nat) (a0 : Int) (a1 : Int) (A2 : Option Addr) (c2 : Nat) (l2 : List ByteArray) (A3 : Option Addr) (c3 : Nat) (l3 : List ByteArray) (r1 : Int) (r2 : Int) (r3 : List ByteArray) (r4 : List ByteArray) (r5 : Int) (r6 : List Int) (r7 : List (S34)) (r8 : List (S34)) (r9 : List ByteArray) (r10 : List Bool) (r11 : Int) (r12 : Int) (r13 : Int) (r14 : Bool) (w : World) (hr2 : Kd.C Kd.string w A2 l2.length l2) (hc2 : l2.length ≤ c2) (hr3 : Kd.C Kd.string w A3 l3.length l3) (hc3 : l3.length ≤ c3) (h : spec_TalkStart.f k a0 a1 l2 l3 = some (r1, r2, r3, r4, r5, r6, r7, r8, r9, r10, r11, r12, r13, r14)) :
    Calls Try.prog 13 #[.int .u32 a0, .int .i64 a1, .slice A2 l2.length c2, .slice A3 l3.length c3] w fun e w' => ∃ v2_ v3_ v5_ v6_ v7_ v8_ v9_ : Value, e = .returned (.tuple #[.agg #[.int .u32 r1, .int .i64 r2, v2_, v3_, .int .i64 r5, v5_, v6_, v7_, v8_, v9_, .int .i64 r11, .int .i64 r12, .int .i64 r13], .bool r14]) ∧ Kd.R Kd.string 9 w' w.heap.size (fun k_ => some k_ ≠ (v3_ : Value).ownBlock ∧ some k_ ≠ (v8_ : Value).ownBlock) v2_ r3 ∧ Kd.R Kd.string 9 w' w.heap.size (fun k_ => some k_ ≠ (v2_ : Value).ownBlock ∧ some k_ ≠ (v8_ : Value).ownBlock) v3_ r4 ∧ Kd.R (Kd.int .i64) 3 w' w.heap.size (fun _ => True) v5_ r6 ∧ Kd.S k34 34 w' w.heap.size (fun k_ => some k_ ≠ (v2_ : Value).ownBlock ∧ some k_ ≠ (v3_ : Value).ownBlock ∧ some k_ ≠ (v7_ : Value).ownBlock ∧ some k_ ≠ (v8_ : Value).ownBlock) v6_ r7 ∧ Kd.S k34 34 w' w.heap.size (fun k_ => some k_ ≠ (v2_ : Value).ownBlock ∧ some k_ ≠ (v3_ : Value).ownBlock ∧ some k_ ≠ (v6_ : Value).ownBlock ∧ some k_ ≠ (v8_ : Value).ownBlock) v7_ r8 ∧ Kd.R Kd.string 9 w' w.heap.size (fun k_ => some k_ ≠ (v2_ : Value).ownBlock ∧ some k_ ≠ (v3_ : Value).ownBlock) v8_ r9 ∧ Kd.R Kd.bool 4 w' w.heap.size (fun _ => True) v9_ r10 ∧ Below w.heap.size w w' := by
  have hu44 := Try.underlying44
  have HR2 := Aside0.mk hr2
  have HC2 := Aside0.mk hc2
  clear hr2 hc2
  have HR3 := Aside0.mk hr3
  have HC3 := Aside0.mk hc3
  clear hr3 hc3
  have HB := Aside0.mk (Below.refl w.heap.size w)
  have H : ((spec_l01In.f a1 1 50).bind fun t103 => (if t103 = true then (if (l2.length : Int) = (l3.length : Int) then (spec_TalkStart.j0 k a0 a1 l2 l3 (decide ((l2.length : Int) > 1000))) else (spec_TalkStart.j0 k a0 a1 l2 l3 true)) else (spec_TalkStart.j0 k a0 a1 l2 l3 true))) = some (r1, r2, r3, r4, r5, r6, r7, r8, r9, r10, r11, r12, r13, r14) := h
  clear h
  have HC5 := Aside0.mk H
  clear H
  go_enter Try.func13, Try.ntmps13
  go_upto_region 1 with (first | ((with_reducible refine gate_dst (N := 8) rfl ?_); (try (refine gate_guard (by rfl) ?_; dsimp only)); refine box_event ?hg (N := 8) ?hd (cs := #[.int .u32 0, .int .i64 0, .slice none 0 0, .slice none 0 0, .int .i64 0, .slice none 0 0, .slice none 0 0, .slice none 0 0, .slice none 0 0, .slice none 0 0, .int .i64 0, .int .i64 0, .int .i64 0]) (t := 44) ?hr ?_; (case hd => rfl); (case hg => rfl); (case hr => first | (go_simp; done) | (go_simp; rfl)); intro gb102 hg w6 hbox hb; have n0_ := Aside0.mk (below_step (q2_9) hb); have n1_ := Aside0.mk (hbox); have n2_ := Aside0.mk ((by rw [hg]; exact (below_size (q2_9)) : w.heap.size ≤ gb102)); have n3_ := Aside0.mk ((by rw [hg]; exact (below_size (q2_9)) : w.heap.size ≤ gb102)); clear HB; have HB := n0_; have BK102 := n1_; have GW102 := n2_; have GE102 := n3_; clear n0_ n1_ n2_ n3_; clear hb hbox hg))
  (try simp only [Act.put, List.setIfInBounds_toArray, List.set_cons_zero, List.set_cons_succ])
  go_cut [26] (fun v26 wc => ∃ (kq : Nat) (x26_4 : Bool), v26 = .bool x26_4 ∧ Aside0 (spec_TalkStart.j0 kq a0 a1 l2 l3 x26_4 = some (r1, r2, r3, r4, r5, r6, r7, r8, r9, r10, r11, r12, r13, r14)) ∧ Aside0 (kq ≤ k) ∧ Aside0 (wc.heap[gb102]? = some (.cells #[.int .u32 0, .int .i64 0, (.slice none 0 0), (.slice none 0 0), .int .i64 0, (.slice none 0 0), (.slice none 0 0), (.slice none 0 0), (.slice none 0 0), (.slice none 0 0), .int .i64 0, .int .i64 0, .int .i64 0] 44 (0, 0))) ∧ Aside0 (Below w.heap.size w wc))
  case first =>
    have H := HC5.out
    clear HC5
    replace H := Option.bind_eq_some_iff.mp H
    obtain ⟨t103, A70, H⟩ := H
    try dsimp only at H
    have A7 := Aside0.mk A70
    clear A70
    by_cases c8 : t103 = true
    · subst c8
      have H1 : (if (l2.length : Int) = (l3.length : Int) then (spec_TalkStart.j0 k a0 a1 l2 l3 (decide ((l2.length : Int) > 1000))) else (spec_TalkStart.j0 k a0 a1 l2 l3 true)) = some (r1, r2, r3, r4, r5, r6, r7, r8, r9, r10, r11, r12, r13, r14) := by rw [if_pos rfl] at H; exact H
      clear H
      have H := H1
      clear H1
      by_cases c9 : (l2.length : Int) = (l3.length : Int)
      · rw [if_pos c9] at H
        have c9b0 : ((l2.length : Int) == (l3.length : Int)) = true := beq_iff_eq.mpr c9
        have c9b1 : ((l2.length : Int) != (l3.length : Int)) = false := bne_eq_false_iff_eq.mpr c9
        have c9b2 : (l2.length == l3.length) = true := by first | simpa using c9 | (simp at c9 ⊢; omega)
        clear c9
        (first | rw [c9b0] | (simp only [i64_w, i32_w]; rw [c9b0]) | skip)
        have H' := Aside0.mk H
        clear H
        go_wp2_with (first | ((with_reducible refine gate_callee (f := 33) rfl ?_); refine goesL_ (some 13) rfl rfl Try.func33 (by kernel_rfl) rfl #[.int .i64 a1, .int .i64 1, .int .i64 50] rfl (q2_8) ?_; (with_reducible refine (spec_l01In.calls a1 1 50 true _ A7.out).mono ?_); rintro e w' ⟨rfl, ⟨nd, rfl⟩⟩; refine ⟨_, rfl, ?_⟩))
        go_meet
        case rel => exact ⟨_, (decide ((l2.length : Int) > 1000)), (by first | rfl | (simp; done) | (simp [*]; done)), H', ⟨by first | omega | exact Nat.le_refl _⟩, ⟨q2_10⟩, ⟨q2_5⟩⟩
      · rw [if_neg c9] at H
        have c9b0 : ((l2.length : Int) == (l3.length : Int)) = false := beq_eq_false_iff_ne.mpr c9
        have c9b1 : ((l2.length : Int) != (l3.length : Int)) = true := bne_iff_ne.mpr c9
        have c9b2 : (l2.length == l3.length) = false := by first | simpa using c9 | (simp at c9 ⊢; omega)
        (first | rw [c9b0] | (simp only [i64_w, i32_w]; rw [c9b0]) | skip)
        have H' := Aside0.mk H
        clear H
        go_wp2_with (first | ((with_reducible refine gate_callee (f := 33) rfl ?_); refine goesL_ (some 13) rfl rfl Try.func33 (by kernel_rfl) rfl #[.int .i64 a1, .int .i64 1, .int .i64 50] rfl (q2_8) ?_; (with_reducible refine (spec_l01In.calls a1 1 50 true _ A7.out).mono ?_); rintro e w' ⟨rfl, ⟨nd, rfl⟩⟩; refine ⟨_, rfl, ?_⟩))
        go_meet
        case rel => exact ⟨_, (true), (by first | rfl | (simp; done) | (simp [*]; done)), H', ⟨by first | omega | exact Nat.le_refl _⟩, ⟨q2_10⟩, ⟨q2_5⟩⟩
    · replace c8 := Bool.eq_false_iff.mpr c8
      subst c8
      have H1 : (spec_TalkStart.j0 k a0 a1 l2 l3 true) = some (r1, r2, r3, r4, r5, r6, r7, r8, r9, r10, r11, r12, r13, r14) := by rw [if_neg (show ¬ (false = true) by decide)] at H; exact H
      clear H
      have H := H1
      clear H1
      have H' := Aside0.mk H
      clear H
      go_wp2_with (first | ((with_reducible refine gate_callee (f := 33) rfl ?_); refine goesL_ (some 13) rfl rfl Try.func33 (by kernel_rfl) rfl #[.int .i64 a1, .int .i64 1, .int .i64 50] rfl (q2_8) ?_; (with_reducible refine (spec_l01In.calls a1 1 50 false _ A7.out).mono ?_); rintro e w' ⟨rfl, ⟨nd, rfl⟩⟩; refine ⟨_, rfl, ?_⟩))
      go_meet
      case rel => exact ⟨_, (true), (by first | rfl | (simp; done) | (simp [*]; done)), H', ⟨by first | omega | exact Nat.le_refl _⟩, ⟨q2_10⟩, ⟨q2_5⟩⟩
  case rest =>
    clear HC5
    try clear c1
    try clear c2
    try clear p2
    try clear c3
    try clear c8
    try clear c9
    try clear c9b0
    try clear c9b1
    try clear c9b2
    obtain ⟨kq, x26_4, rfl, HA, HJ4, BK102, HB⟩ := hcut
    cases kq with
    | zero => exact absurd HA.out (by simp [spec_TalkStart.j0])
    | succ kj4 =>
      have H := HA.out
      clear HA
      simp only [spec_TalkStart.j0] at H
      by_cases c10 : x26_4 = true
      · subst c10
        have H1 : (some (0, 0, ([] : List ByteArray), ([] : List ByteArray), 0, ([] : List Int), ([] : List (S34)), ([] : List (S34)), ([] : List ByteArray), ([] : List Bool), 0, 0, 0, false)) = some (r1, r2, r3, r4, r5, r6, r7, r8, r9, r10, r11, r12, r13, r14) := by rw [if_pos rfl] at H; exact H
        clear H
        have H := H1
        clear H1
        simp only [Option.some.injEq, Prod.mk.injEq] at H
        obtain ⟨rfl, rfl, rfl, rfl, rfl, rfl, rfl, rfl, rfl, rfl, rfl, rfl, rfl, rfl⟩ := H
        have hcz11_0 : wc.cell? ⟨gb102, 0, none⟩ = some (.int .u32 0) := (blk_cell BK102.out 0).trans rfl
        have hcz11_1 : wc.cell? ⟨gb102, 1, none⟩ = some (.int .i64 0) := (blk_cell BK102.out 1).trans rfl
        have hcz11_2 : wc.cell? ⟨gb102, 2, none⟩ = some (.slice none 0 0) := (blk_cell BK102.out 2).trans rfl
        have hcz11_3 : wc.cell? ⟨gb102, 3, none⟩ = some (.slice none 0 0) := (blk_cell BK102.out 3).trans rfl
        have hcz11_4 : wc.cell? ⟨gb102, 4, none⟩ = some (.int .i64 0) := (blk_cell BK102.out 4).trans rfl
        have hcz11_5 : wc.cell? ⟨gb102, 5, none⟩ = some (.slice none 0 0) := (blk_cell BK102.out 5).trans rfl
        have hcz11_6 : wc.cell? ⟨gb102, 6, none⟩ = some (.slice none 0 0) := (blk_cell BK102.out 6).trans rfl
        have hcz11_7 : wc.cell? ⟨gb102, 7, none⟩ = some (.slice none 0 0) := (blk_cell BK102.out 7).trans rfl
        have hcz11_8 : wc.cell? ⟨gb102, 8, none⟩ = some (.slice none 0 0) := (blk_cell BK102.out 8).trans rfl
        have hcz11_9 : wc.cell? ⟨gb102, 9, none⟩ = some (.slice none 0 0) := (blk_cell BK102.out 9).trans rfl
        have hcz11_10 : wc.cell? ⟨gb102, 10, none⟩ = some (.int .i64 0) := (blk_cell BK102.out 10).trans rfl
        have hcz11_11 : wc.cell? ⟨gb102, 11, none⟩ = some (.int .i64 0) := (blk_cell BK102.out 11).trans rfl
        have hcz11_12 : wc.cell? ⟨gb102, 12, none⟩ = some (.int .i64 0) := (blk_cell BK102.out 12).trans rfl
        have hfz11_0 := blk_frozen BK102.out 0
        have hfz11_1 := blk_frozen BK102.out 1
        have hfz11_2 := blk_frozen BK102.out 2
        have hfz11_3 := blk_frozen BK102.out 3
        have hfz11_4 := blk_frozen BK102.out 4
        have hfz11_5 := blk_frozen BK102.out 5
        have hfz11_6 := blk_frozen BK102.out 6
        have hfz11_7 := blk_frozen BK102.out 7
        have hfz11_8 := blk_frozen BK102.out 8
        have hfz11_9 := blk_frozen BK102.out 9
        have hfz11_10 := blk_frozen BK102.out 10
        have hfz11_11 := blk_frozen BK102.out 11
        have hfz11_12 := blk_frozen BK102.out 12
        go_wp2
        refine bodyPost_ret (results_ct rfl _ _ gb102 44 #[.int .u32 0, .int .i64 0, .slice none 0 0, .slice none 0 0, .int .i64 0, .slice none 0 0, .slice none 0 0, .slice none 0 0, .slice none 0 0, .slice none 0 0, .int .i64 0, .int .i64 0, .int .i64 0] (0, 0) _ rfl (by (with_reducible repeat (first | refine blk_drewN ?_ _ | refine blk_drew ?_ | refine blk_alloc ?_ _)); refine blk_put (cs := #[.int .u32 0, .int .i64 0, .slice none 0 0, .slice none 0 0, .int .i64 0, .slice none 0 0, .slice none 0 0, .slice none 0 0, .slice none 0 0, .slice none 0 0, .int .i64 0, .int .i64 0, .int .i64 0]) ?_ 12 _ rfl; (with_reducible repeat (first | refine blk_drewN ?_ _ | refine blk_drew ?_ | refine blk_alloc ?_ _)); refine blk_put (cs := #[.int .u32 0, .int .i64 0, .slice none 0 0, .slice none 0 0, .int .i64 0, .slice none 0 0, .slice none 0 0, .slice none 0 0, .slice none 0 0, .slice none 0 0, .int .i64 0, .int .i64 0, .int .i64 0]) ?_ 11 _ rfl; (with_reducible repeat (first | refine blk_drewN ?_ _ | refine blk_drew ?_ | refine blk_alloc ?_ _)); refine blk_put (cs := #[.int .u32 0, .int .i64 0, .slice none 0 0, .slice none 0 0, .int .i64 0, .slice none 0 0, .slice none 0 0, .slice none 0 0, .slice none 0 0, .slice none 0 0, .int .i64 0, .int .i64 0, .int .i64 0]) ?_ 10 _ rfl; (with_reducible repeat (first | refine blk_drewN ?_ _ | refine blk_drew ?_ | refine blk_alloc ?_ _)); refine blk_put (cs := #[.int .u32 0, .int .i64 0, .slice none 0 0, .slice none 0 0, .int .i64 0, .slice none 0 0, .slice none 0 0, .slice none 0 0, .slice none 0 0, .slice none 0 0, .int .i64 0, .int .i64 0, .int .i64 0]) ?_ 9 _ rfl; (with_reducible repeat (first | refine blk_drewN ?_ _ | refine blk_drew ?_ | refine blk_alloc ?_ _)); refine blk_put (cs := #[.int .u32 0, .int .i64 0, .slice none 0 0, .slice none 0 0, .int .i64 0, .slice none 0 0, .slice none 0 0, .slice none 0 0, .slice none 0 0, .slice none 0 0, .int .i64 0, .int .i64 0, .int .i64 0]) ?_ 8 _ rfl; (with_reducible repeat (first | refine blk_drewN ?_ _ | refine blk_drew ?_ | refine blk_alloc ?_ _)); refine blk_put (cs := #[.int .u32 0, .int .i64 0, .slice none 0 0, .slice none 0 0, .int .i64 0, .slice none 0 0, .slice none 0 0, .slice none 0 0, .slice none 0 0, .slice none 0 0, .int .i64 0, .int .i64 0, .int .i64 0]) ?_ 7 _ rfl; (with_reducible repeat (first | refine blk_drewN ?_ _ | refine blk_drew ?_ | refine blk_alloc ?_ _)); refine blk_put (cs := #[.int .u32 0, .int .i64 0, .slice none 0 0, .slice none 0 0, .int .i64 0, .slice none 0 0, .slice none 0 0, .slice none 0 0, .slice none 0 0, .slice none 0 0, .int .i64 0, .int .i64 0, .int .i64 0]) ?_ 6 _ rfl; (with_reducible repeat (first | refine blk_drewN ?_ _ | refine blk_drew ?_ | refine blk_alloc ?_ _)); refine blk_put (cs := #[.int .u32 0, .int .i64 0, .slice none 0 0, .slice none 0 0, .int .i64 0, .slice none 0 0, .slice none 0 0, .slice none 0 0, .slice none 0 0, .slice none 0 0, .int .i64 0, .int .i64 0, .int .i64 0]) ?_ 5 _ rfl; (with_reducible repeat (first | refine blk_drewN ?_ _ | refine blk_drew ?_ | refine blk_alloc ?_ _)); refine blk_put (cs := #[.int .u32 0, .int .i64 0, .slice none 0 0, .slice none 0 0, .int .i64 0, .slice none 0 0, .slice none 0 0, .slice none 0 0, .slice none 0 0, .slice none 0 0, .int .i64 0, .int .i64 0, .int .i64 0]) ?_ 4 _ rfl; (with_reducible repeat (first | refine blk_drewN ?_ _ | refine blk_drew ?_ | refine blk_alloc ?_ _)); refine blk_put (cs := #[.int .u32 0, .int .i64 0, .slice none 0 0, .slice none 0 0, .int .i64 0, .slice none 0 0, .slice none 0 0, .slice none 0 0, .slice none 0 0, .slice none 0 0, .int .i64 0, .int .i64 0, .int .i64 0]) ?_ 3 _ rfl; (with_reducible repeat (first | refine blk_drewN ?_ _ | refine blk_drew ?_ | refine blk_alloc ?_ _)); refine blk_put (cs := #[.int .u32 0, .int .i64 0, .slice none 0 0, .slice none 0 0, .int .i64 0, .slice none 0 0, .slice none 0 0, .slice none 0 0, .slice none 0 0, .slice none 0 0, .int .i64 0, .int .i64 0, .int .i64 0]) ?_ 2 _ rfl; (with_reducible repeat (first | refine blk_drewN ?_ _ | refine blk_drew ?_ | refine blk_alloc ?_ _)); refine blk_put (cs := #[.int .u32 0, .int .i64 0, .slice none 0 0, .slice none 0 0, .int .i64 0, .slice none 0 0, .slice none 0 0, .slice none 0 0, .slice none 0 0, .slice none 0 0, .int .i64 0, .int .i64 0, .int .i64 0]) ?_ 1 _ rfl; (with_reducible repeat (first | refine blk_drewN ?_ _ | refine blk_drew ?_ | refine blk_alloc ?_ _)); refine blk_put (cs := #[.int .u32 0, .int .i64 0, .slice none 0 0, .slice none 0 0, .int .i64 0, .slice none 0 0, .slice none 0 0, .slice none 0 0, .slice none 0 0, .slice none 0 0, .int .i64 0, .int .i64 0, .int .i64 0]) ?_ 0 _ rfl; (with_reducible repeat (first | refine blk_drewN ?_ _ | refine blk_drew ?_ | refine blk_alloc ?_ _)); exact BK102.out) Try.underlying44 rfl (by kernel_rfl)) rfl ?_
        exact ⟨_, _, _, _, _, _, _, q2_11, q2_7, q2_7, q2_7, q2_6, q2_6, q2_7, q2_7, q2_5⟩
      · replace c10 := Bool.eq_false_iff.mpr c10
        subst c10
        have H1 : (spec_TalkStart.l0 kj4 l2 l3 0 a0 a1 ([] : List ByteArray) ([] : List ByteArray) 0 ([] : List ByteArray) ([] : List Bool) 0 0 0) = some (r1, r2, r3, r4, r5, r6, r7, r8, r9, r10, r11, r12, r13, r14) := by rw [if_neg (show ¬ (false = true) by decide)] at H; exact H
        clear H
        have H := H1
        clear H1
        have H' := Aside0.mk H
        clear H
        go_wp2_with (first | ((with_reducible refine gate_dst (N := 10) rfl ?_); (try (refine gate_guard (by rfl) ?_; dsimp only)); refine box_event ?hg (N := 10) ?hd (cs := #[.int .u32 0, .int .i64 0, .slice none 0 0, .slice none 0 0, .int .i64 0, .slice none 0 0, .slice none 0 0, .slice none 0 0, .slice none 0 0, .slice none 0 0, .int .i64 0, .int .i64 0, .int .i64 0]) (t := 44) ?hr ?_; (case hd => rfl); (case hg => rfl); (case hr => first | (go_simp; done) | (go_simp; rfl)); intro gb104 hg w12 hbox hb; have n0_ := Aside0.mk (blk_below (g := gb102) (o := .cells #[.int .u32 0, .int .i64 0, .slice none 0 0, .slice none 0 0, .int .i64 0, .slice none 0 0, .slice none 0 0, .slice none 0 0, .slice none 0 0, .slice none 0 0, .int .i64 0, .int .i64 0, .int .i64 0] 44 (0, 0)) (q2_10) hb); have n1_ := Aside0.mk (below_step (q2_5) hb); have n2_ := Aside0.mk (hbox); have n3_ := Aside0.mk ((by rw [hg]; exact (below_size (q2_5)) : w.heap.size ≤ gb104)); have n4_ := Aside0.mk ((by rw [hg]; exact (below_size (q2_5)) : w.heap.size ≤ gb104)); have n5_ := Aside0.mk ((by rw [hg]; exact Nat.ne_of_lt (blk_lt (g := gb102) (o := .cells #[.int .u32 0, .int .i64 0, .slice none 0 0, .slice none 0 0, .int .i64 0, .slice none 0 0, .slice none 0 0, .slice none 0 0, .slice none 0 0, .slice none 0 0, .int .i64 0, .int .i64 0, .int .i64 0] 44 (0, 0)) (q2_10)) : gb102 ≠ gb104)); have n6_ := Aside0.mk ((by rw [hg]; exact Nat.ne_of_gt (blk_lt (g := gb102) (o := .cells #[.int .u32 0, .int .i64 0, .slice none 0 0, .slice none 0 0, .int .i64 0, .slice none 0 0, .slice none 0 0, .slice none 0 0, .slice none 0 0, .slice none 0 0, .int .i64 0, .int .i64 0, .int .i64 0] 44 (0, 0)) (q2_10)) : gb104 ≠ gb102)); clear BK102; clear HB; have BK102 := n0_; have HB := n1_; have BK104 := n2_; have GW104 := n3_; have GE104 := n4_; have NB102_104 := n5_; have NB104_102 := n6_; clear n0_ n1_ n2_ n3_ n4_ n5_ n6_; clear hb hbox hg; have hnb13 := NB104_102.out; have hnc13 := NB102_104.out; have hcz14_0 : w12.cell? ⟨gb104, 0, none⟩ = some (.int .u32 0) := (blk_cell BK104.out 0).trans rfl; have hcz14_1 : w12.cell? ⟨gb104, 1, none⟩ = some (.int .i64 0) := (blk_cell BK104.out 1).trans rfl; have hcz14_2 : w12.cell? ⟨gb104, 2, none⟩ = some (.slice none 0 0) := (blk_cell BK104.out 2).trans rfl; have hcz14_3 : w12.cell? ⟨gb104, 3, none⟩ = some (.slice none 0 0) := (blk_cell BK104.out 3).trans rfl; have hcz14_4 : w12.cell? ⟨gb104, 4, none⟩ = some (.int .i64 0) := (blk_cell BK104.out 4).trans rfl; have hcz14_5 : w12.cell? ⟨gb104, 5, none⟩ = some (.slice none 0 0) := (blk_cell BK104.out 5).trans rfl; have hcz14_6 : w12.cell? ⟨gb104, 6, none⟩ = some (.slice none 0 0) := (blk_cell BK104.out 6).trans rfl; have hcz14_7 : w12.cell? ⟨gb104, 7, none⟩ = some (.slice none 0 0) := (blk_cell BK104.out 7).trans rfl; have hcz14_8 : w12.cell? ⟨gb104, 8, none⟩ = some (.slice none 0 0) := (blk_cell BK104.out 8).trans rfl; have hcz14_9 : w12.cell? ⟨gb104, 9, none⟩ = some (.slice none 0 0) := (blk_cell BK104.out 9).trans rfl; have hcz14_10 : w12.cell? ⟨gb104, 10, none⟩ = some (.int .i64 0) := (blk_cell BK104.out 10).trans rfl; have hcz14_11 : w12.cell? ⟨gb104, 11, none⟩ = some (.int .i64 0) := (blk_cell BK104.out 11).trans rfl; have hcz14_12 : w12.cell? ⟨gb104, 12, none⟩ = some (.int .i64 0) := (blk_cell BK104.out 12).trans rfl; have hfz14_0 := blk_frozen BK104.out 0; have hfz14_1 := blk_frozen BK104.out 1; have hfz14_2 := blk_frozen BK104.out 2; have hfz14_3 := blk_frozen BK104.out 3; have hfz14_4 := blk_frozen BK104.out 4; have hfz14_5 := blk_frozen BK104.out 5; have hfz14_6 := blk_frozen BK104.out 6; have hfz14_7 := blk_frozen BK104.out 7; have hfz14_8 := blk_frozen BK104.out 8; have hfz14_9 := blk_frozen BK104.out 9; have hfz14_10 := blk_frozen BK104.out 10; have hfz14_11 := blk_frozen BK104.out 11; have hfz14_12 := blk_frozen BK104.out 12))
        go_loopg [11] kj4 (fun kq v11 w' => ∃ (x11_2 : Int) (x103000_2 : Int) (x103001_2 : Int) (x103004_2 : Int) (x103010_2 : Int) (x103011_2 : Int) (x103012_2 : Int) (x105002_2 : List ByteArray) (x105003_2 : List ByteArray) (x105008_2 : List ByteArray) (x105009_2 : List Bool) (u105002 : Value) (u105003 : Value) (u105008 : Value) (u105009 : Value), v11 = .int .i64 x11_2 ∧ Aside0 (spec_TalkStart.l0 kq l2 l3 x11_2 a0 a1 x105002_2 x105003_2 0 x105008_2 x105009_2 0 0 0 = some (r1, r2, r3, r4, r5, r6, r7, r8, r9, r10, r11, r12, r13, r14)) ∧ Aside0 (kq ≤ kj4) ∧ Aside0 (Kd.R Kd.string 9 w' w.heap.size (fun k_ => some k_ ≠ (u105003 : Value).ownBlock ∧ some k_ ≠ (u105008 : Value).ownBlock) u105002 x105002_2) ∧ Aside0 (Kd.R Kd.string 9 w' w.heap.size (fun k_ => some k_ ≠ (u105002 : Value).ownBlock ∧ some k_ ≠ (u105008 : Value).ownBlock) u105003 x105003_2) ∧ Aside0 (Kd.R Kd.string 9 w' w.heap.size (fun k_ => some k_ ≠ (u105002 : Value).ownBlock ∧ some k_ ≠ (u105003 : Value).ownBlock) u105008 x105008_2) ∧ Aside0 (Kd.R Kd.bool 4 w' w.heap.size (fun _ => True) u105009 x105009_2) ∧ Aside0 (w'.heap[gb102]? = some (.cells #[.int .u32 x103000_2, .int .i64 x103001_2, (.slice none 0 0), (.slice none 0 0), .int .i64 x103004_2, (.slice none 0 0), (.slice none 0 0), (.slice none 0 0), (.slice none 0 0), (.slice none 0 0), .int .i64 x103010_2, .int .i64 x103011_2, .int .i64 x103012_2] 44 (0, 0))) ∧ Aside0 (w'.heap[gb104]? = some (.cells #[.int .u32 a0, .int .i64 a1, u105002, u105003, .int .i64 0, (.slice none 0 0), (.slice none 0 0), (.slice none 0 0), u105008, u105009, .int .i64 0, .int .i64 0, .int .i64 0] 44 (0, 0))) ∧ Aside0 (Below w.heap.size w w'))
        case atStart => exact ⟨(0), (0), (0), (0), (0), (0), (0), (([] : List ByteArray)), (([] : List ByteArray)), (([] : List ByteArray)), (([] : List Bool)), (.slice none 0 0), (.slice none 0 0), (.slice none 0 0), (.slice none 0 0), (by first | rfl | (simp; done) | (simp [*]; done)), H', ⟨Nat.le_refl _⟩, ⟨q2_7⟩, ⟨q2_7⟩, ⟨q2_7⟩, ⟨q2_7⟩, ⟨by (with_reducible repeat (first | refine blk_drewN ?_ _ | refine blk_drew ?_ | refine blk_alloc ?_ _)); refine blk_far ?_ NB102_104.out _; (with_reducible repeat (first | refine blk_drewN ?_ _ | refine blk_drew ?_ | refine blk_alloc ?_ _)); refine blk_far ?_ NB102_104.out _; (with_reducible repeat (first | refine blk_drewN ?_ _ | refine blk_drew ?_ | refine blk_alloc ?_ _)); refine blk_far ?_ NB102_104.out _; (with_reducible repeat (first | refine blk_drewN ?_ _ | refine blk_drew ?_ | refine blk_alloc ?_ _)); refine blk_far ?_ NB102_104.out _; (with_reducible repeat (first | refine blk_drewN ?_ _ | refine blk_drew ?_ | refine blk_alloc ?_ _)); refine blk_far ?_ NB102_104.out _; (with_reducible repeat (first | refine blk_drewN ?_ _ | refine blk_drew ?_ | refine blk_alloc ?_ _)); refine blk_far ?_ NB102_104.out _; (with_reducible repeat (first | refine blk_drewN ?_ _ | refine blk_drew ?_ | refine blk_alloc ?_ _)); refine blk_far ?_ NB102_104.out _; (with_reducible repeat (first | refine blk_drewN ?_ _ | refine blk_drew ?_ | refine blk_alloc ?_ _)); refine blk_far ?_ NB102_104.out _; (with_reducible repeat (first | refine blk_drewN ?_ _ | refine blk_drew ?_ | refine blk_alloc ?_ _)); refine blk_far ?_ NB102_104.out _; (with_reducible repeat (first | refine blk_drewN ?_ _ | refine blk_drew ?_ | refine blk_alloc ?_ _)); refine blk_far ?_ NB102_104.out _; (with_reducible repeat (first | refine blk_drewN ?_ _ | refine blk_drew ?_ | refine blk_alloc ?_ _)); refine blk_far ?_ NB102_104.out _; (with_reducible repeat (first | refine blk_drewN ?_ _ | refine blk_drew ?_ | refine blk_alloc ?_ _)); refine blk_far ?_ NB102_104.out _; (with_reducible repeat (first | refine blk_drewN ?_ _ | refine blk_drew ?_ | refine blk_alloc ?_ _)); refine blk_far ?_ NB102_104.out _; (with_reducible repeat (first | refine blk_drewN ?_ _ | refine blk_drew ?_ | refine blk_alloc ?_ _)); exact BK102.out⟩, ⟨by (with_reducible repeat (first | refine blk_drewN ?_ _ | refine blk_drew ?_ | refine blk_alloc ?_ _)); refine blk_put (cs := #[.int .u32 a0, .int .i64 a1, .slice none 0 0, .slice none 0 0, .int .i64 0, .slice none 0 0, .slice none 0 0, .slice none 0 0, .slice none 0 0, .slice none 0 0, .int .i64 0, .int .i64 0, .int .i64 0]) ?_ 12 _ rfl; (with_reducible repeat (first | refine blk_drewN ?_ _ | refine blk_drew ?_ | refine blk_alloc ?_ _)); refine blk_put (cs := #[.int .u32 a0, .int .i64 a1, .slice none 0 0, .slice none 0 0, .int .i64 0, .slice none 0 0, .slice none 0 0, .slice none 0 0, .slice none 0 0, .slice none 0 0, .int .i64 0, .int .i64 0, .int .i64 0]) ?_ 11 _ rfl; (with_reducible repeat (first | refine blk_drewN ?_ _ | refine blk_drew ?_ | refine blk_alloc ?_ _)); refine blk_put (cs := #[.int .u32 a0, .int .i64 a1, .slice none 0 0, .slice none 0 0, .int .i64 0, .slice none 0 0, .slice none 0 0, .slice none 0 0, .slice none 0 0, .slice none 0 0, .int .i64 0, .int .i64 0, .int .i64 0]) ?_ 10 _ rfl; (with_reducible repeat (first | refine blk_drewN ?_ _ | refine blk_drew ?_ | refine blk_alloc ?_ _)); refine blk_put (cs := #[.int .u32 a0, .int .i64 a1, .slice none 0 0, .slice none 0 0, .int .i64 0, .slice none 0 0, .slice none 0 0, .slice none 0 0, .slice none 0 0, .slice none 0 0, .int .i64 0, .int .i64 0, .int .i64 0]) ?_ 9 _ rfl; (with_reducible repeat (first | refine blk_drewN ?_ _ | refine blk_drew ?_ | refine blk_alloc ?_ _)); refine blk_put (cs := #[.int .u32 a0, .int .i64 a1, .slice none 0 0, .slice none 0 0, .int .i64 0, .slice none 0 0, .slice none 0 0, .slice none 0 0, .slice none 0 0, .slice none 0 0, .int .i64 0, .int .i64 0, .int .i64 0]) ?_ 8 _ rfl; (with_reducible repeat (first | refine blk_drewN ?_ _ | refine blk_drew ?_ | refine blk_alloc ?_ _)); refine blk_put (cs := #[.int .u32 a0, .int .i64 a1, .slice none 0 0, .slice none 0 0, .int .i64 0, .slice none 0 0, .slice none 0 0, .slice none 0 0, .slice none 0 0, .slice none 0 0, .int .i64 0, .int .i64 0, .int .i64 0]) ?_ 7 _ rfl; (with_reducible repeat (first | refine blk_drewN ?_ _ | refine blk_drew ?_ | refine blk_alloc ?_ _)); refine blk_put (cs := #[.int .u32 a0, .int .i64 a1, .slice none 0 0, .slice none 0 0, .int .i64 0, .slice none 0 0, .slice none 0 0, .slice none 0 0, .slice none 0 0, .slice none 0 0, .int .i64 0, .int .i64 0, .int .i64 0]) ?_ 6 _ rfl; (with_reducible repeat (first | refine blk_drewN ?_ _ | refine blk_drew ?_ | refine blk_alloc ?_ _)); refine blk_put (cs := #[.int .u32 a0, .int .i64 a1, .slice none 0 0, .slice none 0 0, .int .i64 0, .slice none 0 0, .slice none 0 0, .slice none 0 0, .slice none 0 0, .slice none 0 0, .int .i64 0, .int .i64 0, .int .i64 0]) ?_ 5 _ rfl; (with_reducible repeat (first | refine blk_drewN ?_ _ | refine blk_drew ?_ | refine blk_alloc ?_ _)); refine blk_put (cs := #[.int .u32 a0, .int .i64 a1, .slice none 0 0, .slice none 0 0, .int .i64 0, .slice none 0 0, .slice none 0 0, .slice none 0 0, .slice none 0 0, .slice none 0 0, .int .i64 0, .int .i64 0, .int .i64 0]) ?_ 4 _ rfl; (with_reducible repeat (first | refine blk_drewN ?_ _ | refine blk_drew ?_ | refine blk_alloc ?_ _)); refine blk_put (cs := #[.int .u32 a0, .int .i64 a1, .slice none 0 0, .slice none 0 0, .int .i64 0, .slice none 0 0, .slice none 0 0, .slice none 0 0, .slice none 0 0, .slice none 0 0, .int .i64 0, .int .i64 0, .int .i64 0]) ?_ 3 _ rfl; (with_reducible repeat (first | refine blk_drewN ?_ _ | refine blk_drew ?_ | refine blk_alloc ?_ _)); refine blk_put (cs := #[.int .u32 a0, .int .i64 a1, .slice none 0 0, .slice none 0 0, .int .i64 0, .slice none 0 0, .slice none 0 0, .slice none 0 0, .slice none 0 0, .slice none 0 0, .int .i64 0, .int .i64 0, .int .i64 0]) ?_ 2 _ rfl; (with_reducible repeat (first | refine blk_drewN ?_ _ | refine blk_drew ?_ | refine blk_alloc ?_ _)); refine blk_put (cs := #[.int .u32 a0, .int .i64 0, .slice none 0 0, .slice none 0 0, .int .i64 0, .slice none 0 0, .slice none 0 0, .slice none 0 0, .slice none 0 0, .slice none 0 0, .int .i64 0, .int .i64 0, .int .i64 0]) ?_ 1 _ rfl; (with_reducible repeat (first | refine blk_drewN ?_ _ | refine blk_drew ?_ | refine blk_alloc ?_ _)); refine blk_put (cs := #[.int .u32 0, .int .i64 0, .slice none 0 0, .slice none 0 0, .int .i64 0, .slice none 0 0, .slice none 0 0, .slice none 0 0, .slice none 0 0, .slice none 0 0, .int .i64 0, .int .i64 0, .int .i64 0]) ?_ 0 _ rfl; (with_reducible repeat (first | refine blk_drewN ?_ _ | refine blk_drew ?_ | refine blk_alloc ?_ _)); exact BK104.out⟩, ⟨q2_4⟩⟩
        case round =>
          clear H'
          try clear c1
          try clear c2
          try clear p2
          try clear c3
          try clear c8
          try clear c9
          try clear c9b0
          try clear c9b1
          try clear c9b2
          try clear c10
          try clear c13
          try clear hcz11_0
          try clear hcz11_1
          try clear hcz11_10
          try clear hcz11_11
          try clear hcz11_12
          try clear hcz11_2
          try clear hcz11_3
          try clear hcz11_4
          try clear hcz11_5
          try clear hcz11_6
          try clear hcz11_7
          try clear hcz11_8
          try clear hcz11_9
          try clear hcz14_0
          try clear hcz14_1
          try clear hcz14_10
          try clear hcz14_11
          try clear hcz14_12
          try clear hcz14_2
          try clear hcz14_3
          try clear hcz14_4
          try clear hcz14_5
          try clear hcz14_6
          try clear hcz14_7
          try clear hcz14_8
          try clear hcz14_9
          try clear hfz11_0
          try clear hfz11_1
          try clear hfz11_10
          try clear hfz11_11
          try clear hfz11_12
          try clear hfz11_2
          try clear hfz11_3
          try clear hfz11_4
          try clear hfz11_5
          try clear hfz11_6
          try clear hfz11_7
          try clear hfz11_8
          try clear hfz11_9
          try clear hfz14_0
          try clear hfz14_1
          try clear hfz14_10
          try clear hfz14_11
          try clear hfz14_12
          try clear hfz14_2
          try clear hfz14_3
          try clear hfz14_4
          try clear hfz14_5
          try clear hfz14_6
          try clear hfz14_7
          try clear hfz14_8
          try clear hfz14_9
          try clear p2
          obtain ⟨x11_2, x103000_2, x103001_2, x103004_2, x103010_2, x103011_2, x103012_2, x105002_2, x105003_2, x105008_2, x105009_2, u105002, u105003, u105008, u105009, rfl, HA, HK2, HO_105002, HO_105003, HO_105008, HO_105009, BK102, BK104, HB⟩ := hrel
          cases gk with
          | zero => exact absurd HA.out (by simp [spec_TalkStart.l0])
          | succ k2 =>
            have H := HA.out
            clear HA
            simp only [spec_TalkStart.l0] at H
            by_cases c15 : x11_2 < (l2.length : Int)
            · rw [if_pos c15] at H
              have c15b0 : decide (x11_2 < (l2.length : Int)) = true := decide_eq_true c15
              clear c15
              by_cases c16 : 0 ≤ x11_2
              · rw [if_pos c16] at H
                have c16b0 : decide (0 ≤ x11_2) = true := decide_eq_true c16
                clear c16
                by_cases c17 : ((rdOf ByteArray.empty l2 x11_2).size : Int) > 20000
                · rw [if_pos c17] at H
                  have c17b0 : decide (20000 < ((rdOf ByteArray.empty l2 x11_2).size : Int)) = true := decide_eq_true c17
                  have c17b1 : decide (20000 < (rdOf ByteArray.empty l2 x11_2).size) = true := decide_eq_true (by omega)
                  clear c17
                  simp only [Option.some.injEq, Prod.mk.injEq] at H
                  obtain ⟨rfl, rfl, rfl, rfl, rfl, rfl, rfl, rfl, rfl, rfl, rfl, rfl, rfl, rfl⟩ := H
                  have p105 : 0 ≤ (x11_2 : Int) := of_decide_eq_true (q2_12)
                  have q105 : x11_2 < (l2.length : Int) := of_decide_eq_true (q2_12)
                  obtain ⟨ad105, e105, hx105_0⟩ := Kd.at_string HR2.out x11_2 p105 q105
                  cases e105
                  replace hx105_0 := (HB.out.cell (World.block_lt_of_cell? w _ hx105_0)).trans hx105_0
                  replace p105 := eq_true p105
                  replace q105 := eq_true q105
                  have hnb18 := NB102_104.out
                  have hnc18 := NB104_102.out
                  have hcz19_0 : wr.cell? ⟨gb102, 0, none⟩ = some (.int .u32 x103000_2) := (blk_cell BK102.out 0).trans rfl
                  have hcz19_1 : wr.cell? ⟨gb102, 1, none⟩ = some (.int .i64 x103001_2) := (blk_cell BK102.out 1).trans rfl
                  have hcz19_2 : wr.cell? ⟨gb102, 2, none⟩ = some (.slice none 0 0) := (blk_cell BK102.out 2).trans rfl
                  have hcz19_3 : wr.cell? ⟨gb102, 3, none⟩ = some (.slice none 0 0) := (blk_cell BK102.out 3).trans rfl
                  have hcz19_4 : wr.cell? ⟨gb102, 4, none⟩ = some (.int .i64 x103004_2) := (blk_cell BK102.out 4).trans rfl
                  have hcz19_5 : wr.cell? ⟨gb102, 5, none⟩ = some (.slice none 0 0) := (blk_cell BK102.out 5).trans rfl
                  have hcz19_6 : wr.cell? ⟨gb102, 6, none⟩ = some (.slice none 0 0) := (blk_cell BK102.out 6).trans rfl
                  have hcz19_7 : wr.cell? ⟨gb102, 7, none⟩ = some (.slice none 0 0) := (blk_cell BK102.out 7).trans rfl
                  have hcz19_8 : wr.cell? ⟨gb102, 8, none⟩ = some (.slice none 0 0) := (blk_cell BK102.out 8).trans rfl
                  have hcz19_9 : wr.cell? ⟨gb102, 9, none⟩ = some (.slice none 0 0) := (blk_cell BK102.out 9).trans rfl
                  have hcz19_10 : wr.cell? ⟨gb102, 10, none⟩ = some (.int .i64 x103010_2) := (blk_cell BK102.out 10).trans rfl
                  have hcz19_11 : wr.cell? ⟨gb102, 11, none⟩ = some (.int .i64 x103011_2) := (blk_cell BK102.out 11).trans rfl
                  have hcz19_12 : wr.cell? ⟨gb102, 12, none⟩ = some (.int .i64 x103012_2) := (blk_cell BK102.out 12).trans rfl
                  have hfz19_0 := blk_frozen BK102.out 0
                  have hfz19_1 := blk_frozen BK102.out 1
                  have hfz19_2 := blk_frozen BK102.out 2
                  have hfz19_3 := blk_frozen BK102.out 3
                  have hfz19_4 := blk_frozen BK102.out 4
                  have hfz19_5 := blk_frozen BK102.out 5
                  have hfz19_6 := blk_frozen BK102.out 6
                  have hfz19_7 := blk_frozen BK102.out 7
                  have hfz19_8 := blk_frozen BK102.out 8
                  have hfz19_9 := blk_frozen BK102.out 9
                  have hfz19_10 := blk_frozen BK102.out 10
                  have hfz19_11 := blk_frozen BK102.out 11
                  have hfz19_12 := blk_frozen BK102.out 12
                  go_wp2
                  refine bodyPost_ret (results_ct rfl _ _ gb102 44 #[.int .u32 0, .int .i64 0, .slice none 0 0, .slice none 0 0, .int .i64 0, .slice none 0 0, .slice none 0 0, .slice none 0 0, .slice none 0 0, .slice none 0 0, .int .i64 0, .int .i64 0, .int .i64 0] (0, 0) _ rfl (q2_1) Try.underlying44 rfl (by kernel_rfl)) rfl ?_
                  exact ⟨_, _, _, _, _, _, _, q2_11, q2_7, q2_7, q2_7, q2_6, q2_6, q2_7, q2_7, q2_4⟩
                · rw [if_neg c17] at H
                  have c17b0 : decide (20000 < ((rdOf ByteArray.empty l2 x11_2).size : Int)) = false := decide_eq_false c17
                  have c17b1 : decide (20000 < (rdOf ByteArray.empty l2 x11_2).size) = false := decide_eq_false (by omega)
                  clear c17
                  by_cases c20 : x11_2 < (l3.length : Int)
                  · rw [if_pos c20] at H
                    have c20b0 : decide (x11_2 < (l3.length : Int)) = true := decide_eq_true c20
                    clear c20
                    by_cases c21 : ((rdOf ByteArray.empty l3 x11_2).size : Int) > 20000
                    · rw [if_pos c21] at H
                      have c21b0 : decide (20000 < ((rdOf ByteArray.empty l3 x11_2).size : Int)) = true := decide_eq_true c21
                      have c21b1 : decide (20000 < (rdOf ByteArray.empty l3 x11_2).size) = true := decide_eq_true (by omega)
                      clear c21
                      simp only [Option.some.injEq, Prod.mk.injEq] at H
                      obtain ⟨rfl, rfl, rfl, rfl, rfl, rfl, rfl, rfl, rfl, rfl, rfl, rfl, rfl, rfl⟩ := H
                      have p105 : 0 ≤ (x11_2 : Int) := of_decide_eq_true (q2_12)
                      have q105 : x11_2 < (l2.length : Int) := of_decide_eq_true (q2_12)
                      obtain ⟨ad105, e105, hx105_0⟩ := Kd.at_string HR2.out x11_2 p105 q105
                      cases e105
                      replace hx105_0 := (HB.out.cell (World.block_lt_of_cell? w _ hx105_0)).trans hx105_0
                      replace p105 := eq_true p105
                      replace q105 := eq_true q105
                      have p106 : 0 ≤ (x11_2 : Int) := of_decide_eq_true (q2_12)
                      have q106 : x11_2 < (l3.length : Int) := of_decide_eq_true (q2_12)
                      obtain ⟨ad106, e106, hx106_0⟩ := Kd.at_string HR3.out x11_2 p106 q106
                      cases e106
                      replace hx106_0 := (HB.out.cell (World.block_lt_of_cell? w _ hx106_0)).trans hx106_0
                      replace p106 := eq_true p106
                      replace q106 := eq_true q106
                      have hnb22 := NB102_104.out
                      have hnc22 := NB104_102.out
                      have hcz23_0 : wr.cell? ⟨gb102, 0, none⟩ = some (.int .u32 x103000_2) := (blk_cell BK102.out 0).trans rfl
                      have hcz23_1 : wr.cell? ⟨gb102, 1, none⟩ = some (.int .i64 x103001_2) := (blk_cell BK102.out 1).trans rfl
                      have hcz23_2 : wr.cell? ⟨gb102, 2, none⟩ = some (.slice none 0 0) := (blk_cell BK102.out 2).trans rfl
                      have hcz23_3 : wr.cell? ⟨gb102, 3, none⟩ = some (.slice none 0 0) := (blk_cell BK102.out 3).trans rfl
                      have hcz23_4 : wr.cell? ⟨gb102, 4, none⟩ = some (.int .i64 x103004_2) := (blk_cell BK102.out 4).trans rfl
                      have hcz23_5 : wr.cell? ⟨gb102, 5, none⟩ = some (.slice none 0 0) := (blk_cell BK102.out 5).trans rfl
                      have hcz23_6 : wr.cell? ⟨gb102, 6, none⟩ = some (.slice none 0 0) := (blk_cell BK102.out 6).trans rfl
                      have hcz23_7 : wr.cell? ⟨gb102, 7, none⟩ = some (.slice none 0 0) := (blk_cell BK102.out 7).trans rfl
                      have hcz23_8 : wr.cell? ⟨gb102, 8, none⟩ = some (.slice none 0 0) := (blk_cell BK102.out 8).trans rfl
                      have hcz23_9 : wr.cell? ⟨gb102, 9, none⟩ = some (.slice none 0 0) := (blk_cell BK102.out 9).trans rfl
                      have hcz23_10 : wr.cell? ⟨gb102, 10, none⟩ = some (.int .i64 x103010_2) := (blk_cell BK102.out 10).trans rfl
                      have hcz23_11 : wr.cell? ⟨gb102, 11, none⟩ = some (.int .i64 x103011_2) := (blk_cell BK102.out 11).trans rfl
                      have hcz23_12 : wr.cell? ⟨gb102, 12, none⟩ = some (.int .i64 x103012_2) := (blk_cell BK102.out 12).trans rfl
                      have hfz23_0 := blk_frozen BK102.out 0
                      have hfz23_1 := blk_frozen BK102.out 1
                      have hfz23_2 := blk_frozen BK102.out 2
                      have hfz23_3 := blk_frozen BK102.out 3
                      have hfz23_4 := blk_frozen BK102.out 4
                      have hfz23_5 := blk_frozen BK102.out 5
                      have hfz23_6 := blk_frozen BK102.out 6
                      have hfz23_7 := blk_frozen BK102.out 7
                      have hfz23_8 := blk_frozen BK102.out 8
                      have hfz23_9 := blk_frozen BK102.out 9
                      have hfz23_10 := blk_frozen BK102.out 10
                      have hfz23_11 := blk_frozen BK102.out 11
                      have hfz23_12 := blk_frozen BK102.out 12
                      go_wp2
                      refine bodyPost_ret (results_ct rfl _ _ gb102 44 #[.int .u32 0, .int .i64 0, .slice none 0 0, .slice none 0 0, .int .i64 0, .slice none 0 0, .slice none 0 0, .slice none 0 0, .slice none 0 0, .slice none 0 0, .int .i64 0, .int .i64 0, .int .i64 0] (0, 0) _ rfl (q2_1) Try.underlying44 rfl (by kernel_rfl)) rfl ?_
                      exact ⟨_, _, _, _, _, _, _, q2_11, q2_7, q2_7, q2_7, q2_6, q2_6, q2_7, q2_7, q2_4⟩
                    · rw [if_neg c21] at H
                      have c21b0 : decide (20000 < ((rdOf ByteArray.empty l3 x11_2).size : Int)) = false := decide_eq_false c21
                      have c21b1 : decide (20000 < (rdOf ByteArray.empty l3 x11_2).size) = false := decide_eq_false (by omega)
                      clear c21
                      by_cases c24 : x105002_2.length < 8796093022208
                      · rw [if_pos c24] at H
                        have LMc24 := Aside0.mk c24
                        clear c24
                        obtain ⟨y108, hy108⟩ : ∃ y_ : List ByteArray, y_ = (x105002_2 ++ [rdOf ByteArray.empty l2 x11_2]) := ⟨_, rfl⟩
                        replace H : (if x105003_2.length < 8796093022208 then (if x105008_2.length < 8796093022208 then (if x105009_2.length < 140737488355328 then (spec_TalkStart.l0 k2 l2 l3 (wrap64 (x11_2 + 1)) a0 a1 y108 (x105003_2 ++ [rdOf ByteArray.empty l3 x11_2]) 0 (x105008_2 ++ [(⟨#[]⟩ : ByteArray)]) (x105009_2 ++ [false]) 0 0 0) else (none)) else (none)) else (none)) = some (r1, r2, r3, r4, r5, r6, r7, r8, r9, r10, r11, r12, r13, r14) := by first | (rw [hy108]; with_reducible exact H) | (have H2_ := (Option.bind_some _ _).symm.trans H; rw [hy108]; with_reducible exact H2_) | (have H2_ := (Option.bind_some _ _).symm.trans H; with_reducible exact H2_) | with_reducible exact H | (rw [hy108]; exact H) | exact H
                        have Ny108 := Aside0.mk hy108
                        clear hy108
                        by_cases c25 : x105003_2.length < 8796093022208
                        · rw [if_pos c25] at H
                          have LMc25 := Aside0.mk c25
                          clear c25
                          obtain ⟨y112, hy112⟩ : ∃ y_ : List ByteArray, y_ = (x105003_2 ++ [rdOf ByteArray.empty l3 x11_2]) := ⟨_, rfl⟩
                          replace H : (if x105008_2.length < 8796093022208 then (if x105009_2.length < 140737488355328 then (spec_TalkStart.l0 k2 l2 l3 (wrap64 (x11_2 + 1)) a0 a1 y108 y112 0 (x105008_2 ++ [(⟨#[]⟩ : ByteArray)]) (x105009_2 ++ [false]) 0 0 0) else (none)) else (none)) = some (r1, r2, r3, r4, r5, r6, r7, r8, r9, r10, r11, r12, r13, r14) := by first | (rw [hy112]; with_reducible exact H) | (have H2_ := (Option.bind_some _ _).symm.trans H; rw [hy112]; with_reducible exact H2_) | (have H2_ := (Option.bind_some _ _).symm.trans H; with_reducible exact H2_) | with_reducible exact H | (rw [hy112]; exact H) | exact H
                          have Ny112 := Aside0.mk hy112
                          clear hy112
                          by_cases c26 : x105008_2.length < 8796093022208
                          · rw [if_pos c26] at H
                            have LMc26 := Aside0.mk c26
                            clear c26
                            obtain ⟨y115, hy115⟩ : ∃ y_ : List ByteArray, y_ = (x105008_2 ++ [(⟨#[]⟩ : ByteArray)]) := ⟨_, rfl⟩
                            replace H : (if x105009_2.length < 140737488355328 then (spec_TalkStart.l0 k2 l2 l3 (wrap64 (x11_2 + 1)) a0 a1 y108 y112 0 y115 (x105009_2 ++ [false]) 0 0 0) else (none)) = some (r1, r2, r3, r4, r5, r6, r7, r8, r9, r10, r11, r12, r13, r14) := by first | (rw [hy115]; with_reducible exact H) | (have H2_ := (Option.bind_some _ _).symm.trans H; rw [hy115]; with_reducible exact H2_) | (have H2_ := (Option.bind_some _ _).symm.trans H; with_reducible exact H2_) | with_reducible exact H | (rw [hy115]; exact H) | exact H
                            have Ny115 := Aside0.mk hy115
                            clear hy115
                            by_cases c27 : x105009_2.length < 140737488355328
                            · rw [if_pos c27] at H
                              have LMc27 := Aside0.mk c27
                              clear c27
                              obtain ⟨y118, hy118⟩ : ∃ y_ : List Bool, y_ = (x105009_2 ++ [false]) := ⟨_, rfl⟩
                              replace H : (spec_TalkStart.l0 k2 l2 l3 (wrap64 (x11_2 + 1)) a0 a1 y108 y112 0 y115 y118 0 0 0) = some (r1, r2, r3, r4, r5, r6, r7, r8, r9, r10, r11, r12, r13, r14) := by first | (rw [hy118]; with_reducible exact H) | (have H2_ := (Option.bind_some _ _).symm.trans H; rw [hy118]; with_reducible exact H2_) | (have H2_ := (Option.bind_some _ _).symm.trans H; with_reducible exact H2_) | with_reducible exact H | (rw [hy118]; exact H) | exact H
                              have Ny118 := Aside0.mk hy118
                              clear hy118
                              have H' := Aside0.mk H
                              clear H
                              have p105 : 0 ≤ (x11_2 : Int) := of_decide_eq_true (q2_12)
                              have q105 : x11_2 < (l2.length : Int) := of_decide_eq_true (q2_12)
                              obtain ⟨ad105, e105, hx105_0⟩ := Kd.at_string HR2.out x11_2 p105 q105
                              cases e105
                              replace hx105_0 := (HB.out.cell (World.block_lt_of_cell? w _ hx105_0)).trans hx105_0
                              replace p105 := eq_true p105
                              replace q105 := eq_true q105
                              have p106 : 0 ≤ (x11_2 : Int) := of_decide_eq_true (q2_12)
                              have q106 : x11_2 < (l3.length : Int) := of_decide_eq_true (q2_12)
                              obtain ⟨ad106, e106, hx106_0⟩ := Kd.at_string HR3.out x11_2 p106 q106
                              cases e106
                              replace hx106_0 := (HB.out.cell (World.block_lt_of_cell? w _ hx106_0)).trans hx106_0
                              replace p106 := eq_true p106
                              replace q106 := eq_true q106
                              try go_wp2
                              have n0_ := Aside0.mk (Kd.R_drew HO_105002.out)
                              have n1_ := Aside0.mk (Kd.R_drew HO_105003.out)
                              have n2_ := Aside0.mk (Kd.R_drew HO_105008.out)
                              have n3_ := Aside0.mk (Kd.R_drew HO_105009.out)
                              have n4_ := Aside0.mk (blk_drew BK102.out)
                              have n5_ := Aside0.mk (blk_drew BK104.out)
                              have n6_ := Aside0.mk (below_drew1 HB.out)
                              clear HO_105002
                              clear HO_105003
                              clear HO_105008
                              clear HO_105009
                              clear BK102
                              clear BK104
                              clear HB
                              have HO_105002 := n0_
                              have HO_105003 := n1_
                              have HO_105008 := n2_
                              have HO_105009 := n3_
                              have BK102 := n4_
                              have BK104 := n5_
                              have HB := n6_
                              clear n0_ n1_ n2_ n3_ n4_ n5_ n6_
                              have p107 : 0 ≤ (x11_2 : Int) := of_decide_eq_true (q2_12)
                              have q107 : x11_2 < (l2.length : Int) := of_decide_eq_true (q2_12)
                              obtain ⟨ad107, e107, hx107_0⟩ := Kd.at_string HR2.out x11_2 p107 q107
                              have hw107_0 := hx107_0
                              obtain rfl : ad105 = ad107 := (by injection e107)
                              replace hx107_0 := (HB.out.cell (World.block_lt_of_cell? w _ hx107_0)).trans hx107_0
                              replace p107 := eq_true p107
                              replace q107 := eq_true q107
                              refine start_ (n := 10) (S := fun w' => w'.cell? ⟨gb104, 0, none⟩ = some (.int .u32 a0) ∧ w'.cell? ⟨gb104, 1, none⟩ = some (.int .i64 a1) ∧ w'.cell? ⟨gb104, 2, none⟩ = some (u105002) ∧ w'.cell? ⟨gb104, 3, none⟩ = some (u105003) ∧ w'.cell? ⟨gb104, 4, none⟩ = some (.int .i64 0) ∧ w'.cell? ⟨gb104, 5, none⟩ = some (.slice none 0 0) ∧ w'.cell? ⟨gb104, 6, none⟩ = some (.slice none 0 0) ∧ w'.cell? ⟨gb104, 7, none⟩ = some (.slice none 0 0) ∧ w'.cell? ⟨gb104, 8, none⟩ = some (u105008) ∧ w'.cell? ⟨gb104, 9, none⟩ = some (u105009) ∧ w'.cell? ⟨gb104, 10, none⟩ = some (.int .i64 0) ∧ w'.cell? ⟨gb104, 11, none⟩ = some (.int .i64 0) ∧ w'.cell? ⟨gb104, 12, none⟩ = some (.int .i64 0) ∧ w'.cell? (ad105.add (x11_2).toNat) = some (.string (rdOf ByteArray.empty l2 x11_2))) (ds := [9]) #[false, false, false, false, false, false, false, false, false, false] (by kernel_rfl) rfl rfl ⟨(blk_cell BK104.out 0).trans rfl, (blk_cell BK104.out 1).trans rfl, (blk_cell BK104.out 2).trans rfl, (blk_cell BK104.out 3).trans rfl, (blk_cell BK104.out 4).trans rfl, (blk_cell BK104.out 5).trans rfl, (blk_cell BK104.out 6).trans rfl, (blk_cell BK104.out 7).trans rfl, (blk_cell BK104.out 8).trans rfl, (blk_cell BK104.out 9).trans rfl, (blk_cell BK104.out 10).trans rfl, (blk_cell BK104.out 11).trans rfl, (blk_cell BK104.out 12).trans rfl, ((HB.out.cell (World.block_lt_of_cell? w _ hw107_0)).trans hw107_0)⟩ (fun hHeld => ?_); refine with_tabW spec_TalkStart.tab9 spec_TalkStart.bits9 (fun HT_ HW_ => ?_)
                              generalize wr.drew = w28 at HO_105002 HO_105003 HO_105008 HO_105009 BK102 BK104 HB hx107_0 hHeld ⊢
                              refine pure_ (i := 0) (N := some 52) (v := ?_) (a' := ?_) #[true, false, false, false, false, false, false, false, false, false] rfl rfl (any_of HT_.out (by kernel_rfl)) (fun _ _ _ h => h) (Or.inl ⟨by rfl, ?_⟩) ?_ ?_
                              rotate_left
                              · intro w'
                                go_simp
                                with_reducible rfl
                              rotate_left
                              · simp only [Act.put, List.setIfInBounds_toArray, List.set_cons_zero, List.set_cons_succ, i64_w, i32_w, u32_w, u64_w]
                                rfl
                              refine pure_ (i := 2) (N := some 54) (v := ?_) (a' := ?_) #[true, false, true, false, false, false, false, false, false, false] rfl rfl (any_of HT_.out (by kernel_rfl)) (fun _ _ _ h => h) (Or.inl ⟨by rfl, ?_⟩) ?_ ?_
                              rotate_left
                              · intro w'
                                go_simp
                                with_reducible rfl
                              rotate_left
                              · simp only [Act.put, List.setIfInBounds_toArray, List.set_cons_zero, List.set_cons_succ, i64_w, i32_w, u32_w, u64_w]
                                rfl
                              refine pure_ (i := 3) (N := some 55) (v := ?_) (a' := ?_) #[true, false, true, true, false, false, false, false, false, false] rfl rfl (any_of HT_.out (by kernel_rfl)) (fun _ _ _ h => h) (Or.inl ⟨by rfl, ?_⟩) ?_ ?_
                              rotate_left
                              · intro w'
                                go_simp
                                with_reducible rfl
                              rotate_left
                              · simp only [Act.put, List.setIfInBounds_toArray, List.set_cons_zero, List.set_cons_succ, i64_w, i32_w, u32_w, u64_w]
                                rfl
                              refine pure_ (i := 4) (N := some 56) (v := ?_) (a' := ?_) #[true, false, true, true, true, false, false, false, false, false] rfl rfl (any_of HT_.out (by kernel_rfl)) (fun _ _ _ h => h) (Or.inl ⟨by rfl, ?_⟩) ?_ ?_
                              rotate_left
                              · intro w'
                                go_simp
                                with_reducible rfl
                              rotate_left
                              · simp only [Act.put, List.setIfInBounds_toArray, List.set_cons_zero, List.set_cons_succ, i64_w, i32_w, u32_w, u64_w]
                                rfl
                              refine take_ (i := 1) (N := some 53) (v := ?_) (a' := ?_) #[true, true, true, true, true, false, false, false, false, false] rfl rfl (take_ofW HT_.out HW_.out (by kernel_rfl)) (fun _ _ _ h => h) (Or.inl ⟨by rfl, ?_⟩) hHeld ?_ ?_
                              rotate_left
                              · rintro w' ⟨s0, s1, s2, s3, s4, s5, s6, s7, s8, s9, s10, s11, s12, s13⟩
                                go_simp
                                with_reducible rfl
                              rotate_left
                              · simp only [Act.put, List.setIfInBounds_toArray, List.set_cons_zero, List.set_cons_succ, i64_w, i32_w, u32_w, u64_w]
                                rfl
                              refine take_ (i := 5) (N := some 57) (v := ?_) (a' := ?_) #[true, true, true, true, true, true, false, false, false, false] rfl rfl (take_ofW HT_.out HW_.out (by kernel_rfl)) (fun _ _ _ h => h) (Or.inl ⟨by rfl, ?_⟩) hHeld ?_ ?_
                              rotate_left
                              · rintro w' ⟨s0, s1, s2, s3, s4, s5, s6, s7, s8, s9, s10, s11, s12, s13⟩
                                go_simp
                                with_reducible rfl
                              rotate_left
                              · simp only [Act.put, List.setIfInBounds_toArray, List.set_cons_zero, List.set_cons_succ, i64_w, i32_w, u32_w, u64_w]
                                rfl
                              refine one_ (i := 6) (N := some 58) #[true, true, true, true, true, true, true, false, false, false] rfl rfl (one_of HT_.out (by kernel_rfl)) (by decide) (fun K hK => ?_)
                              refine value_ (w1 := ?_) (v := ?_) (by rfl) rfl ?_ ?_
                              rotate_left 2
                              · go_simp
                                constructor
                                · rfl
                                · rfl
                              refine hK.out _ _ ⟨(blk_cell (blk_alloc BK104.out _) 0).trans rfl, (blk_cell (blk_alloc BK104.out _) 1).trans rfl, (blk_cell (blk_alloc BK104.out _) 2).trans rfl, (blk_cell (blk_alloc BK104.out _) 3).trans rfl, (blk_cell (blk_alloc BK104.out _) 4).trans rfl, (blk_cell (blk_alloc BK104.out _) 5).trans rfl, (blk_cell (blk_alloc BK104.out _) 6).trans rfl, (blk_cell (blk_alloc BK104.out _) 7).trans rfl, (blk_cell (blk_alloc BK104.out _) 8).trans rfl, (blk_cell (blk_alloc BK104.out _) 9).trans rfl, (blk_cell (blk_alloc BK104.out _) 10).trans rfl, (blk_cell (blk_alloc BK104.out _) 11).trans rfl, (blk_cell (blk_alloc BK104.out _) 12).trans rfl, (World.cell?_alloc_lt _ _ _ (World.block_lt_of_cell? _ _ (((HB.out.cell (World.block_lt_of_cell? w _ hw107_0)).trans hw107_0)))).trans (((HB.out.cell (World.block_lt_of_cell? w _ hw107_0)).trans hw107_0))⟩ (fun hHeld => ?_)
                              clear hK K
                              refine norm_ (a' := ?_) ?_ ?_
                              rotate_left
                              · show Act.put _ (some 58) _ = _
                                simp only [Act.put, List.setIfInBounds_toArray, List.set_cons_zero, List.set_cons_succ, i64_w, i32_w, u32_w, u64_w]
                                rfl
                              refine one_ (i := 7) (N := some 59) #[true, true, true, true, true, true, true, true, false, false] rfl rfl (one_of HT_.out (by kernel_rfl)) (by decide) (fun K hK => ?_)
                              refine Kd.R_append_step Kd.string (w0 := w) w.heap.size (by rfl) (.tmp 53) (.tmp 58) 23 9 (.string ⟨#[]⟩) 16 rfl Try.underlying23 info9 rfl (by decide) (by omega) u105002 x105002_2 (rdOf ByteArray.empty l2 x11_2) [.string (rdOf ByteArray.empty l2 x11_2)] (fun k_ => some k_ ≠ (u105003 : Value).ownBlock ∧ some k_ ≠ (u105008 : Value).ownBlock) (fun _ => False) rfl rfl ?aP (fun _ hk => hk.elim) ?aF ?aO ?aB ?aS ?aL ?_
                              (case aP => exact rfl)
                              (case aB => exact (q2_4))
                              (case aF => exact (fun k_ hk => ⟨Kd.fresh' (Kd.R_lt (by (with_reducible repeat (first | apply Kd.R_alloc | apply Kd.R_drewN | apply Kd.R_drew)); exact HO_105003.out)) k_ hk, Kd.fresh' (Kd.R_lt (by (with_reducible repeat (first | apply Kd.R_alloc | apply Kd.R_drewN | apply Kd.R_drew)); exact HO_105008.out)) k_ hk⟩))
                              (case aO => exact (by (with_reducible repeat (first | apply Kd.R_alloc | apply Kd.R_drewN | apply Kd.R_drew)); exact HO_105002.out))
                              (case aS => exact (below_size (q2_4)))
                              (case aL => have := LMc24.out; omega)
                              intro v109 w29 ho hb hg hat
                              rw [← Ny108.out] at ho
                              have n0_ := Aside0.mk (Kd.R_after (ok := (fun k_ => some k_ ≠ (u105008 : Value).ownBlock)) (by (with_reducible repeat (first | apply Kd.R_alloc | apply Kd.R_drewN | apply Kd.R_drew)); exact Kd.R_mono HO_105003.out (fun _ hk => ⟨hk.2, hk.1⟩)) hg hat)
                              have n1_ := Aside0.mk (Kd.R_after (ok := (fun k_ => some k_ ≠ (u105003 : Value).ownBlock)) (by (with_reducible repeat (first | apply Kd.R_alloc | apply Kd.R_drewN | apply Kd.R_drew)); exact Kd.R_mono HO_105008.out (fun _ hk => ⟨hk.2, hk.1⟩)) hg hat)
                              have n2_ := Aside0.mk (Kd.R_over' (by (with_reducible repeat (first | apply Kd.R_alloc | apply Kd.R_drewN | apply Kd.R_drew)); exact HO_105009.out) (Kd.R_typed (by (with_reducible repeat (first | apply Kd.R_alloc | apply Kd.R_drewN | apply Kd.R_drew)); exact HO_105002.out)) (by decide) hg)
                              have n3_ := Aside0.mk (blk_grown (g := gb102) (o := .cells #[.int .u32 x103000_2, .int .i64 x103001_2, .slice none 0 0, .slice none 0 0, .int .i64 x103004_2, .slice none 0 0, .slice none 0 0, .slice none 0 0, .slice none 0 0, .slice none 0 0, .int .i64 x103010_2, .int .i64 x103011_2, .int .i64 x103012_2] 44 (0, 0)) (q2_10) hg (Kd.R_ne HO_105002.out BK102.out (by decide)))
                              have n4_ := Aside0.mk (blk_grown (g := gb104) (o := .cells #[.int .u32 a0, .int .i64 a1, u105002, u105003, .int .i64 0, .slice none 0 0, .slice none 0 0, .slice none 0 0, u105008, u105009, .int .i64 0, .int .i64 0, .int .i64 0] 44 (0, 0)) (by (with_reducible repeat (first | refine blk_drewN ?_ _ | refine blk_drew ?_ | refine blk_alloc ?_ _)); exact BK104.out) hg (Kd.R_ne HO_105002.out BK104.out (by decide)))
                              have n5_ := Aside0.mk (hb)
                              have n6_ := Aside0.mk (ho)
                              clear HO_105003
                              clear HO_105008
                              clear HO_105009
                              clear BK102
                              clear BK104
                              clear HB
                              clear HO_105002
                              have HO_105003 := n0_
                              have HO_105008 := n1_
                              have HO_105009 := n2_
                              have BK102 := n3_
                              have BK104 := n4_
                              have HB := n5_
                              have HO110 := n6_
                              clear n0_ n1_ n2_ n3_ n4_ n5_ n6_
                              clear ho hb hg hat
                              obtain ⟨Ao30, co30, eo30⟩ := Kd.R_slice HO110.out
                              (first | subst eo30 | (injection eo30 with f1_ f2_ f3_; have f4_ := f1_.symm; have f5_ := f3_.symm; clear f1_ f2_ f3_; subst f4_; subst f5_))
                              refine hK.out _ _ ⟨(blk_cell BK104.out 0).trans rfl, (blk_cell BK104.out 1).trans rfl, (blk_cell BK104.out 2).trans rfl, (blk_cell BK104.out 3).trans rfl, (blk_cell BK104.out 4).trans rfl, (blk_cell BK104.out 5).trans rfl, (blk_cell BK104.out 6).trans rfl, (blk_cell BK104.out 7).trans rfl, (blk_cell BK104.out 8).trans rfl, (blk_cell BK104.out 9).trans rfl, (blk_cell BK104.out 10).trans rfl, (blk_cell BK104.out 11).trans rfl, (blk_cell BK104.out 12).trans rfl, ((HB.out.cell (World.block_lt_of_cell? w _ hw107_0)).trans hw107_0)⟩ (fun hHeld => ?_)
                              clear hK K
                              refine norm_ (a' := ?_) ?_ ?_
                              rotate_left
                              · show Act.put _ (some 59) _ = _
                                simp only [Act.put, List.setIfInBounds_toArray, List.set_cons_zero, List.set_cons_succ, i64_w, i32_w, u32_w, u64_w]
                                rfl
                              refine pure_ (i := 8) (N := some 60) (v := ?_) (a' := ?_) #[true, true, true, true, true, true, true, true, true, false] rfl rfl (any_of HT_.out (by kernel_rfl)) (fun _ _ _ h => h) (Or.inl ⟨by rfl, ?_⟩) ?_ ?_
                              rotate_left
                              · intro w'
                                go_simp
                                with_reducible rfl
                              rotate_left
                              · simp only [Act.put, List.setIfInBounds_toArray, List.set_cons_zero, List.set_cons_succ, i64_w, i32_w, u32_w, u64_w]
                                rfl
                              refine last_ (i := 9) (N := none) #[true, true, true, true, true, true, true, true, true, true] rfl rfl (one_of HT_.out (by kernel_rfl)) (by decide) (fun K hK => ?_)
                              have hs31 : w29.cell? ⟨gb104, 2, none⟩ = some (u105002) := (blk_cell BK104.out 2).trans rfl
                              have hfs31 := blk_frozen BK104.out 2
                              have hns31_0 := NB102_104.out
                              have hms31_0 := NB104_102.out
                              refine skip_ (w1 := ?_) (by rfl) rfl ?_ ?_
                              rotate_left
                              · go_simp
                                rfl
                              refine hK.out _ _ ?_
                              clear hK K
                              refine done_ (done_of HT_.out (by kernel_rfl)) ?_
                              try go_wp2
                              have n0_ : Aside0 (Kd.R Kd.string 9 (w29.setCell ⟨gb104, 2, none⟩ (.slice Ao30 y108.length co30)) w.heap.size (fun k_ => some k_ ≠ (u105008 : Value).ownBlock ∧ some k_ ≠ (.slice Ao30 y108.length co30 : Value).ownBlock) u105003 x105003_2) := ⟨by (with_reducible repeat (first | apply Kd.R_alloc | apply Kd.R_drewN | apply Kd.R_drew)); exact Kd.R_mono (Kd.R_far (p := ⟨gb104, 2, none⟩) (Kd.R_types HO_105003.out BK104.out (by decide)) (fun _ hk => hk.2) (.slice Ao30 y108.length co30)) (fun _ hk => ⟨hk.1.1, hk.1.2⟩)⟩
                              have n1_ : Aside0 (Kd.R Kd.string 9 (w29.setCell ⟨gb104, 2, none⟩ (.slice Ao30 y108.length co30)) w.heap.size (fun k_ => some k_ ≠ (u105003 : Value).ownBlock ∧ some k_ ≠ (.slice Ao30 y108.length co30 : Value).ownBlock) u105008 x105008_2) := ⟨by (with_reducible repeat (first | apply Kd.R_alloc | apply Kd.R_drewN | apply Kd.R_drew)); exact Kd.R_mono (Kd.R_far (p := ⟨gb104, 2, none⟩) (Kd.R_types HO_105008.out BK104.out (by decide)) (fun _ hk => hk.2) (.slice Ao30 y108.length co30)) (fun _ hk => ⟨hk.1.1, hk.1.2⟩)⟩
                              have n2_ : Aside0 (Kd.R Kd.bool 4 (w29.setCell ⟨gb104, 2, none⟩ (.slice Ao30 y108.length co30)) w.heap.size (fun _ => True) u105009 x105009_2) := ⟨by (with_reducible repeat (first | apply Kd.R_alloc | apply Kd.R_drewN | apply Kd.R_drew)); exact Kd.R_mono (Kd.R_far (p := ⟨gb104, 2, none⟩) (Kd.R_types HO_105009.out BK104.out (by decide)) (fun _ hk => hk.2) (.slice Ao30 y108.length co30)) (fun _ hk => trivial)⟩
                              have n3_ : Aside0 (Kd.R Kd.string 9 (w29.setCell ⟨gb104, 2, none⟩ (.slice Ao30 y108.length co30)) w.heap.size (fun k_ => some k_ ≠ (u105003 : Value).ownBlock ∧ some k_ ≠ (u105008 : Value).ownBlock) (.slice Ao30 y108.length co30) y108) := ⟨by (with_reducible repeat (first | apply Kd.R_alloc | apply Kd.R_drewN | apply Kd.R_drew)); exact Kd.R_mono (Kd.R_far (p := ⟨gb104, 2, none⟩) (Kd.R_types HO110.out BK104.out (by decide)) (fun _ hk => hk.2) (.slice Ao30 y108.length co30)) (fun _ hk => ⟨hk.1.1, hk.1.2⟩)⟩
                              have n4_ : Aside0 ((w29.setCell ⟨gb104, 2, none⟩ (.slice Ao30 y108.length co30)).heap[gb102]? = some (.cells #[.int .u32 x103000_2, .int .i64 x103001_2, .slice none 0 0, .slice none 0 0, .int .i64 x103004_2, .slice none 0 0, .slice none 0 0, .slice none 0 0, .slice none 0 0, .slice none 0 0, .int .i64 x103010_2, .int .i64 x103011_2, .int .i64 x103012_2] 44 (0, 0))) := ⟨q2_3⟩
                              have n5_ : Aside0 ((w29.setCell ⟨gb104, 2, none⟩ (.slice Ao30 y108.length co30)).heap[gb104]? = some (.cells #[.int .u32 a0, .int .i64 a1, .slice Ao30 y108.length co30, u105003, .int .i64 0, .slice none 0 0, .slice none 0 0, .slice none 0 0, u105008, u105009, .int .i64 0, .int .i64 0, .int .i64 0] 44 (0, 0))) := ⟨by (with_reducible repeat (first | refine blk_drewN ?_ _ | refine blk_drew ?_ | refine blk_alloc ?_ _)); refine blk_put (cs := #[.int .u32 a0, .int .i64 a1, u105002, u105003, .int .i64 0, .slice none 0 0, .slice none 0 0, .slice none 0 0, u105008, u105009, .int .i64 0, .int .i64 0, .int .i64 0]) ?_ 2 _ rfl; (with_reducible repeat (first | refine blk_drewN ?_ _ | refine blk_drew ?_ | refine blk_alloc ?_ _)); exact BK104.out⟩
                              have n6_ : Aside0 (Below w.heap.size w (w29.setCell ⟨gb104, 2, none⟩ (.slice Ao30 y108.length co30))) := ⟨q2_4⟩
                              (try clear HO_105003)
                              (try clear HO_105008)
                              (try clear HO_105009)
                              (try clear HO110)
                              (try clear BK102)
                              (try clear BK104)
                              (try clear HB)
                              generalize (w29.setCell ⟨gb104, 2, none⟩ (.slice Ao30 y108.length co30)) = w32 at n0_ n1_ n2_ n3_ n4_ n5_ n6_ ⊢
                              have HO_105003 := n0_
                              have HO_105008 := n1_
                              have HO_105009 := n2_
                              have HO110 := n3_
                              have BK102 := n4_
                              have BK104 := n5_
                              have HB := n6_
                              clear n0_ n1_ n2_ n3_ n4_ n5_ n6_
                              have n0_ := Aside0.mk (Kd.R_drew HO_105003.out)
                              have n1_ := Aside0.mk (Kd.R_drew HO_105008.out)
                              have n2_ := Aside0.mk (Kd.R_drew HO_105009.out)
                              have n3_ := Aside0.mk (Kd.R_drew HO110.out)
                              have n4_ := Aside0.mk (blk_drew BK102.out)
                              have n5_ := Aside0.mk (blk_drew BK104.out)
                              have n6_ := Aside0.mk (below_drew1 HB.out)
                              clear HO_105003
                              clear HO_105008
                              clear HO_105009
                              clear HO110
                              clear BK102
                              clear BK104
                              clear HB
                              have HO_105003 := n0_
                              have HO_105008 := n1_
                              have HO_105009 := n2_
                              have HO110 := n3_
                              have BK102 := n4_
                              have BK104 := n5_
                              have HB := n6_
                              clear n0_ n1_ n2_ n3_ n4_ n5_ n6_
                              have p111 : 0 ≤ (x11_2 : Int) := of_decide_eq_true (q2_12)
                              have q111 : x11_2 < (l3.length : Int) := of_decide_eq_true (q2_12)
                              obtain ⟨ad111, e111, hx111_0⟩ := Kd.at_string HR3.out x11_2 p111 q111
                              have hw111_0 := hx111_0
                              obtain rfl : ad106 = ad111 := (by injection e111)
                              replace hx111_0 := (HB.out.cell (World.block_lt_of_cell? w _ hx111_0)).trans hx111_0
                              replace p111 := eq_true p111
                              replace q111 := eq_true q111
                              refine start_ (n := 10) (S := fun w' => w'.cell? ⟨gb104, 0, none⟩ = some (.int .u32 a0) ∧ w'.cell? ⟨gb104, 1, none⟩ = some (.int .i64 a1) ∧ w'.cell? ⟨gb104, 2, none⟩ = some (.slice Ao30 y108.length co30) ∧ w'.cell? ⟨gb104, 3, none⟩ = some (u105003) ∧ w'.cell? ⟨gb104, 4, none⟩ = some (.int .i64 0) ∧ w'.cell? ⟨gb104, 5, none⟩ = some (.slice none 0 0) ∧ w'.cell? ⟨gb104, 6, none⟩ = some (.slice none 0 0) ∧ w'.cell? ⟨gb104, 7, none⟩ = some (.slice none 0 0) ∧ w'.cell? ⟨gb104, 8, none⟩ = some (u105008) ∧ w'.cell? ⟨gb104, 9, none⟩ = some (u105009) ∧ w'.cell? ⟨gb104, 10, none⟩ = some (.int .i64 0) ∧ w'.cell? ⟨gb104, 11, none⟩ = some (.int .i64 0) ∧ w'.cell? ⟨gb104, 12, none⟩ = some (.int .i64 0) ∧ w'.cell? (ad106.add (x11_2).toNat) = some (.string (rdOf ByteArray.empty l3 x11_2))) (ds := [9]) #[false, false, false, false, false, false, false, false, false, false] (by kernel_rfl) rfl rfl ⟨(blk_cell BK104.out 0).trans rfl, (blk_cell BK104.out 1).trans rfl, (blk_cell BK104.out 2).trans rfl, (blk_cell BK104.out 3).trans rfl, (blk_cell BK104.out 4).trans rfl, (blk_cell BK104.out 5).trans rfl, (blk_cell BK104.out 6).trans rfl, (blk_cell BK104.out 7).trans rfl, (blk_cell BK104.out 8).trans rfl, (blk_cell BK104.out 9).trans rfl, (blk_cell BK104.out 10).trans rfl, (blk_cell BK104.out 11).trans rfl, (blk_cell BK104.out 12).trans rfl, ((HB.out.cell (World.block_lt_of_cell? w _ hw111_0)).trans hw111_0)⟩ (fun hHeld => ?_); refine with_tabW spec_TalkStart.tab10 spec_TalkStart.bits10 (fun HT_ HW_ => ?_)
                              generalize w32.drew = w33 at HO_105003 HO_105008 HO_105009 HO110 BK102 BK104 HB hx111_0 hHeld ⊢
                              refine pure_ (i := 0) (N := some 61) (v := ?_) (a' := ?_) #[true, false, false, false, false, false, false, false, false, false] rfl rfl (any_of HT_.out (by kernel_rfl)) (fun _ _ _ h => h) (Or.inl ⟨by rfl, ?_⟩) ?_ ?_
                              rotate_left
                              · intro w'
                                go_simp
                                with_reducible rfl
                              rotate_left
                              · simp only [Act.put, List.setIfInBounds_toArray, List.set_cons_zero, List.set_cons_succ, i64_w, i32_w, u32_w, u64_w]
                                rfl
                              refine pure_ (i := 2) (N := some 63) (v := ?_) (a' := ?_) #[true, false, true, false, false, false, false, false, false, false] rfl rfl (any_of HT_.out (by kernel_rfl)) (fun _ _ _ h => h) (Or.inl ⟨by rfl, ?_⟩) ?_ ?_
                              rotate_left
                              · intro w'
                                go_simp
                                with_reducible rfl
                              rotate_left
                              · simp only [Act.put, List.setIfInBounds_toArray, List.set_cons_zero, List.set_cons_succ, i64_w, i32_w, u32_w, u64_w]
                                rfl
                              refine pure_ (i := 3) (N := some 64) (v := ?_) (a' := ?_) #[true, false, true, true, false, false, false, false, false, false] rfl rfl (any_of HT_.out (by kernel_rfl)) (fun _ _ _ h => h) (Or.inl ⟨by rfl, ?_⟩) ?_ ?_
                              rotate_left
                              · intro w'
                                go_simp
                                with_reducible rfl
                              rotate_left
                              · simp only [Act.put, List.setIfInBounds_toArray, List.set_cons_zero, List.set_cons_succ, i64_w, i32_w, u32_w, u64_w]
                                rfl
                              refine pure_ (i := 4) (N := some 65) (v := ?_) (a' := ?_) #[true, false, true, true, true, false, false, false, false, false] rfl rfl (any_of HT_.out (by kernel_rfl)) (fun _ _ _ h => h) (Or.inl ⟨by rfl, ?_⟩) ?_ ?_
                              rotate_left
                              · intro w'
                                go_simp
                                with_reducible rfl
                              rotate_left
                              · simp only [Act.put, List.setIfInBounds_toArray, List.set_cons_zero, List.set_cons_succ, i64_w, i32_w, u32_w, u64_w]
                                rfl
                              refine take_ (i := 1) (N := some 62) (v := ?_) (a' := ?_) #[true, true, true, true, true, false, false, false, false, false] rfl rfl (take_ofW HT_.out HW_.out (by kernel_rfl)) (fun _ _ _ h => h) (Or.inl ⟨by rfl, ?_⟩) hHeld ?_ ?_
                              rotate_left
                              · rintro w' ⟨s0, s1, s2, s3, s4, s5, s6, s7, s8, s9, s10, s11, s12, s13⟩
                                go_simp
                                with_reducible rfl
                              rotate_left
                              · simp only [Act.put, List.setIfInBounds_toArray, List.set_cons_zero, List.set_cons_succ, i64_w, i32_w, u32_w, u64_w]
                                rfl
                              refine take_ (i := 5) (N := some 66) (v := ?_) (a' := ?_) #[true, true, true, true, true, true, false, false, false, false] rfl rfl (take_ofW HT_.out HW_.out (by kernel_rfl)) (fun _ _ _ h => h) (Or.inl ⟨by rfl, ?_⟩) hHeld ?_ ?_
                              rotate_left
                              · rintro w' ⟨s0, s1, s2, s3, s4, s5, s6, s7, s8, s9, s10, s11, s12, s13⟩
                                go_simp
                                with_reducible rfl
                              rotate_left
                              · simp only [Act.put, List.setIfInBounds_toArray, List.set_cons_zero, List.set_cons_succ, i64_w, i32_w, u32_w, u64_w]
                                rfl
                              refine one_ (i := 6) (N := some 67) #[true, true, true, true, true, true, true, false, false, false] rfl rfl (one_of HT_.out (by kernel_rfl)) (by decide) (fun K hK => ?_)
                              refine value_ (w1 := ?_) (v := ?_) (by rfl) rfl ?_ ?_
                              rotate_left 2
                              · go_simp
                                constructor
                                · rfl
                                · rfl
                              refine hK.out _ _ ⟨(blk_cell (blk_alloc BK104.out _) 0).trans rfl, (blk_cell (blk_alloc BK104.out _) 1).trans rfl, (blk_cell (blk_alloc BK104.out _) 2).trans rfl, (blk_cell (blk_alloc BK104.out _) 3).trans rfl, (blk_cell (blk_alloc BK104.out _) 4).trans rfl, (blk_cell (blk_alloc BK104.out _) 5).trans rfl, (blk_cell (blk_alloc BK104.out _) 6).trans rfl, (blk_cell (blk_alloc BK104.out _) 7).trans rfl, (blk_cell (blk_alloc BK104.out _) 8).trans rfl, (blk_cell (blk_alloc BK104.out _) 9).trans rfl, (blk_cell (blk_alloc BK104.out _) 10).trans rfl, (blk_cell (blk_alloc BK104.out _) 11).trans rfl, (blk_cell (blk_alloc BK104.out _) 12).trans rfl, (World.cell?_alloc_lt _ _ _ (World.block_lt_of_cell? _ _ (((HB.out.cell (World.block_lt_of_cell? w _ hw111_0)).trans hw111_0)))).trans (((HB.out.cell (World.block_lt_of_cell? w _ hw111_0)).trans hw111_0))⟩ (fun hHeld => ?_)
                              clear hK K
                              refine norm_ (a' := ?_) ?_ ?_
                              rotate_left
                              · show Act.put _ (some 67) _ = _
                                simp only [Act.put, List.setIfInBounds_toArray, List.set_cons_zero, List.set_cons_succ, i64_w, i32_w, u32_w, u64_w]
                                rfl
                              refine one_ (i := 7) (N := some 68) #[true, true, true, true, true, true, true, true, false, false] rfl rfl (one_of HT_.out (by kernel_rfl)) (by decide) (fun K hK => ?_)
                              refine Kd.R_append_step Kd.string (w0 := w) w.heap.size (by rfl) (.tmp 62) (.tmp 67) 23 9 (.string ⟨#[]⟩) 16 rfl Try.underlying23 info9 rfl (by decide) (by omega) u105003 x105003_2 (rdOf ByteArray.empty l3 x11_2) [.string (rdOf ByteArray.empty l3 x11_2)] (fun k_ => some k_ ≠ (u105008 : Value).ownBlock ∧ some k_ ≠ (.slice Ao30 y108.length co30 : Value).ownBlock) (fun _ => False) rfl rfl ?aP (fun _ hk => hk.elim) ?aF ?aO ?aB ?aS ?aL ?_
                              (case aP => exact rfl)
                              (case aB => exact (q2_4))
                              (case aF => exact (fun k_ hk => ⟨Kd.fresh' (Kd.R_lt (by (with_reducible repeat (first | apply Kd.R_alloc | apply Kd.R_drewN | apply Kd.R_drew)); exact HO_105008.out)) k_ hk, Kd.fresh' (Kd.R_lt (by (with_reducible repeat (first | apply Kd.R_alloc | apply Kd.R_drewN | apply Kd.R_drew)); exact HO110.out)) k_ hk⟩))
                              (case aO => exact (by (with_reducible repeat (first | apply Kd.R_alloc | apply Kd.R_drewN | apply Kd.R_drew)); exact HO_105003.out))
                              (case aS => exact (below_size (q2_4)))
                              (case aL => have := LMc25.out; omega)
                              intro v113 w34 ho hb hg hat
                              rw [← Ny112.out] at ho
                              have n0_ := Aside0.mk (Kd.R_after (ok := (fun k_ => some k_ ≠ (.slice Ao30 y108.length co30 : Value).ownBlock)) (by (with_reducible repeat (first | apply Kd.R_alloc | apply Kd.R_drewN | apply Kd.R_drew)); exact Kd.R_mono HO_105008.out (fun _ hk => ⟨hk.2, hk.1⟩)) hg hat)
                              have n1_ := Aside0.mk (Kd.R_over' (by (with_reducible repeat (first | apply Kd.R_alloc | apply Kd.R_drewN | apply Kd.R_drew)); exact HO_105009.out) (Kd.R_typed (by (with_reducible repeat (first | apply Kd.R_alloc | apply Kd.R_drewN | apply Kd.R_drew)); exact HO_105003.out)) (by decide) hg)
                              have n2_ := Aside0.mk (blk_grown (g := gb102) (o := .cells #[.int .u32 x103000_2, .int .i64 x103001_2, .slice none 0 0, .slice none 0 0, .int .i64 x103004_2, .slice none 0 0, .slice none 0 0, .slice none 0 0, .slice none 0 0, .slice none 0 0, .int .i64 x103010_2, .int .i64 x103011_2, .int .i64 x103012_2] 44 (0, 0)) (q2_10) hg (Kd.R_ne HO_105003.out BK102.out (by decide)))
                              have n3_ := Aside0.mk (blk_grown (g := gb104) (o := .cells #[.int .u32 a0, .int .i64 a1, .slice Ao30 y108.length co30, u105003, .int .i64 0, .slice none 0 0, .slice none 0 0, .slice none 0 0, u105008, u105009, .int .i64 0, .int .i64 0, .int .i64 0] 44 (0, 0)) (by (with_reducible repeat (first | refine blk_drewN ?_ _ | refine blk_drew ?_ | refine blk_alloc ?_ _)); exact BK104.out) hg (Kd.R_ne HO_105003.out BK104.out (by decide)))
                              have n4_ := Aside0.mk (Kd.R_after (ok := (fun k_ => some k_ ≠ (u105008 : Value).ownBlock)) (by (with_reducible repeat (first | apply Kd.R_alloc | apply Kd.R_drewN | apply Kd.R_drew)); exact Kd.R_mono HO110.out (fun _ hk => ⟨hk.2, hk.1⟩)) hg hat)
                              have n5_ := Aside0.mk (hb)
                              have n6_ := Aside0.mk (ho)
                              clear HO_105008
                              clear HO_105009
                              clear BK102
                              clear BK104
                              clear HO110
                              clear HB
                              clear HO_105003
                              have HO_105008 := n0_
                              have HO_105009 := n1_
                              have BK102 := n2_
                              have BK104 := n3_
                              have HO110 := n4_
                              have HB := n5_
                              have HO114 := n6_
                              clear n0_ n1_ n2_ n3_ n4_ n5_ n6_
                              clear ho hb hg hat
                              obtain ⟨Ao35, co35, eo35⟩ := Kd.R_slice HO114.out
                              (first | subst eo35 | (injection eo35 with f1_ f2_ f3_; have f4_ := f1_.symm; have f5_ := f3_.symm; clear f1_ f2_ f3_; subst f4_; subst f5_))
                              refine hK.out _ _ ⟨(blk_cell BK104.out 0).trans rfl, (blk_cell BK104.out 1).trans rfl, (blk_cell BK104.out 2).trans rfl, (blk_cell BK104.out 3).trans rfl, (blk_cell BK104.out 4).trans rfl, (blk_cell BK104.out 5).trans rfl, (blk_cell BK104.out 6).trans rfl, (blk_cell BK104.out 7).trans rfl, (blk_cell BK104.out 8).trans rfl, (blk_cell BK104.out 9).trans rfl, (blk_cell BK104.out 10).trans rfl, (blk_cell BK104.out 11).trans rfl, (blk_cell BK104.out 12).trans rfl, ((HB.out.cell (World.block_lt_of_cell? w _ hw111_0)).trans hw111_0)⟩ (fun hHeld => ?_)
                              clear hK K
                              refine norm_ (a' := ?_) ?_ ?_
                              rotate_left
                              · show Act.put _ (some 68) _ = _
                                simp only [Act.put, List.setIfInBounds_toArray, List.set_cons_zero, List.set_cons_succ, i64_w, i32_w, u32_w, u64_w]
                                rfl
                              refine pure_ (i := 8) (N := some 69) (v := ?_) (a' := ?_) #[true, true, true, true, true, true, true, true, true, false] rfl rfl (any_of HT_.out (by kernel_rfl)) (fun _ _ _ h => h) (Or.inl ⟨by rfl, ?_⟩) ?_ ?_
                              rotate_left
                              · intro w'
                                go_simp
                                with_reducible rfl
                              rotate_left
                              · simp only [Act.put, List.setIfInBounds_toArray, List.set_cons_zero, List.set_cons_succ, i64_w, i32_w, u32_w, u64_w]
                                rfl
                              refine last_ (i := 9) (N := none) #[true, true, true, true, true, true, true, true, true, true] rfl rfl (one_of HT_.out (by kernel_rfl)) (by decide) (fun K hK => ?_)
                              have hs36 : w34.cell? ⟨gb104, 3, none⟩ = some (u105003) := (blk_cell BK104.out 3).trans rfl
                              have hfs36 := blk_frozen BK104.out 3
                              have hns36_0 := NB102_104.out
                              have hms36_0 := NB104_102.out
                              refine skip_ (w1 := ?_) (by rfl) rfl ?_ ?_
                              rotate_left
                              · go_simp
                                rfl
                              refine hK.out _ _ ?_
                              clear hK K
                              refine done_ (done_of HT_.out (by kernel_rfl)) ?_
                              have hnb37 := NB104_102.out
                              have hnc37 := NB102_104.out
                              have hcz38_0 : w34.cell? ⟨gb104, 0, none⟩ = some (.int .u32 a0) := (blk_cell BK104.out 0).trans rfl
                              have hcz38_1 : w34.cell? ⟨gb104, 1, none⟩ = some (.int .i64 a1) := (blk_cell BK104.out 1).trans rfl
                              have hcz38_2 : w34.cell? ⟨gb104, 2, none⟩ = some (.slice Ao30 y108.length co30) := (blk_cell BK104.out 2).trans rfl
                              have hcz38_3 : w34.cell? ⟨gb104, 3, none⟩ = some (u105003) := (blk_cell BK104.out 3).trans rfl
                              have hcz38_4 : w34.cell? ⟨gb104, 4, none⟩ = some (.int .i64 0) := (blk_cell BK104.out 4).trans rfl
                              have hcz38_5 : w34.cell? ⟨gb104, 5, none⟩ = some (.slice none 0 0) := (blk_cell BK104.out 5).trans rfl
                              have hcz38_6 : w34.cell? ⟨gb104, 6, none⟩ = some (.slice none 0 0) := (blk_cell BK104.out 6).trans rfl
                              have hcz38_7 : w34.cell? ⟨gb104, 7, none⟩ = some (.slice none 0 0) := (blk_cell BK104.out 7).trans rfl
                              have hcz38_8 : w34.cell? ⟨gb104, 8, none⟩ = some (u105008) := (blk_cell BK104.out 8).trans rfl
                              have hcz38_9 : w34.cell? ⟨gb104, 9, none⟩ = some (u105009) := (blk_cell BK104.out 9).trans rfl
                              have hcz38_10 : w34.cell? ⟨gb104, 10, none⟩ = some (.int .i64 0) := (blk_cell BK104.out 10).trans rfl
                              have hcz38_11 : w34.cell? ⟨gb104, 11, none⟩ = some (.int .i64 0) := (blk_cell BK104.out 11).trans rfl
                              have hcz38_12 : w34.cell? ⟨gb104, 12, none⟩ = some (.int .i64 0) := (blk_cell BK104.out 12).trans rfl
                              have hfz38_0 := blk_frozen BK104.out 0
                              have hfz38_1 := blk_frozen BK104.out 1
                              have hfz38_2 := blk_frozen BK104.out 2
                              have hfz38_3 := blk_frozen BK104.out 3
                              have hfz38_4 := blk_frozen BK104.out 4
                              have hfz38_5 := blk_frozen BK104.out 5
                              have hfz38_6 := blk_frozen BK104.out 6
                              have hfz38_7 := blk_frozen BK104.out 7
                              have hfz38_8 := blk_frozen BK104.out 8
                              have hfz38_9 := blk_frozen BK104.out 9
                              have hfz38_10 := blk_frozen BK104.out 10
                              have hfz38_11 := blk_frozen BK104.out 11
                              have hfz38_12 := blk_frozen BK104.out 12
                              try go_wp2_with (first | ((with_reducible refine gate_builtin (b := .append) (xs := #[.tmp 71, .tmp 72]) rfl ?_); (try (refine gate_guard (by rfl) ?_; dsimp only)); at_builtin; refine Kd.R_append Kd.string (w0 := w) w.heap.size rfl (.tmp 71) (.tmp 72) 23 9 (.string ⟨#[]⟩) 16 rfl Try.underlying23 info9 rfl (by decide) (by omega) u105008 x105008_2 (⟨#[]⟩ : ByteArray) [.string (⟨#[]⟩ : ByteArray)] (fun k_ => some k_ ≠ (.slice Ao30 y108.length co30 : Value).ownBlock ∧ some k_ ≠ (.slice Ao35 y112.length co35 : Value).ownBlock) (fun _ => False) rfl (by first | (go_simp; done) | (go_simp; rfl)) ?aP (fun _ hk => hk.elim) ?aF ?aO ?aB ?aS ?aL ?_; (case aP => exact rfl); (case aB => exact (q2_4)); (case aF => exact (fun k_ hk => ⟨Kd.fresh' (Kd.R_lt (by (with_reducible repeat (first | apply Kd.R_alloc | apply Kd.R_drewN | apply Kd.R_drew)); exact (Kd.R_mono (Kd.R_far (p := ⟨gb104, 3, none⟩) (Kd.R_types HO110.out BK104.out (by decide)) (fun _ hk => hk.2) (.slice Ao35 y112.length co35)) (fun _ h_ => h_.1)))) k_ hk, Kd.fresh' (Kd.R_lt (by (with_reducible repeat (first | apply Kd.R_alloc | apply Kd.R_drewN | apply Kd.R_drew)); exact (Kd.R_mono (Kd.R_far (p := ⟨gb104, 3, none⟩) (Kd.R_types HO114.out BK104.out (by decide)) (fun _ hk => hk.2) (.slice Ao35 y112.length co35)) (fun _ h_ => h_.1)))) k_ hk⟩)); (case aO => exact (by (with_reducible repeat (first | apply Kd.R_alloc | apply Kd.R_drewN | apply Kd.R_drew)); exact Kd.R_mono (Kd.R_far (p := ⟨gb104, 3, none⟩) (Kd.R_types HO_105008.out BK104.out (by decide)) (fun _ hk => hk.2) (.slice Ao35 y112.length co35)) (fun _ hk => ⟨hk.1.1, hk.1.2⟩))); (case aS => exact (below_size (q2_4))); (case aL => have := LMc26.out; omega); intro v116 w39 ho hb hg hat; rw [← Ny115.out] at ho; have n0_ := Aside0.mk (Kd.R_over' (by (with_reducible repeat (first | apply Kd.R_alloc | apply Kd.R_drewN | apply Kd.R_drew)); exact (Kd.R_mono (Kd.R_far (p := ⟨gb104, 3, none⟩) (Kd.R_types HO_105009.out BK104.out (by decide)) (fun _ hk => hk.2) (.slice Ao35 y112.length co35)) (fun _ h_ => h_.1))) (Kd.R_typed (by (with_reducible repeat (first | apply Kd.R_alloc | apply Kd.R_drewN | apply Kd.R_drew)); exact (Kd.R_mono (Kd.R_far (p := ⟨gb104, 3, none⟩) (Kd.R_types HO_105008.out BK104.out (by decide)) (fun _ hk => hk.2) (.slice Ao35 y112.length co35)) (fun _ h_ => h_.1)))) (by decide) hg); have n1_ := Aside0.mk (blk_grown (g := gb102) (o := .cells #[.int .u32 x103000_2, .int .i64 x103001_2, .slice none 0 0, .slice none 0 0, .int .i64 x103004_2, .slice none 0 0, .slice none 0 0, .slice none 0 0, .slice none 0 0, .slice none 0 0, .int .i64 x103010_2, .int .i64 x103011_2, .int .i64 x103012_2] 44 (0, 0)) (q2_3) hg (Kd.R_ne HO_105008.out BK102.out (by decide))); have n2_ := Aside0.mk (blk_grown (g := gb104) (o := .cells #[.int .u32 a0, .int .i64 a1, .slice Ao30 y108.length co30, .slice Ao35 y112.length co35, .int .i64 0, .slice none 0 0, .slice none 0 0, .slice none 0 0, u105008, u105009, .int .i64 0, .int .i64 0, .int .i64 0] 44 (0, 0)) (by (with_reducible repeat (first | refine blk_drewN ?_ _ | refine blk_drew ?_ | refine blk_alloc ?_ _)); refine blk_put (cs := #[.int .u32 a0, .int .i64 a1, .slice Ao30 y108.length co30, u105003, .int .i64 0, .slice none 0 0, .slice none 0 0, .slice none 0 0, u105008, u105009, .int .i64 0, .int .i64 0, .int .i64 0]) ?_ 3 _ rfl; (with_reducible repeat (first | refine blk_drewN ?_ _ | refine blk_drew ?_ | refine blk_alloc ?_ _)); exact BK104.out) hg (Kd.R_ne HO_105008.out BK104.out (by decide))); have n3_ := Aside0.mk (Kd.R_after (ok := (fun k_ => some k_ ≠ (.slice Ao35 y112.length co35 : Value).ownBlock)) (by (with_reducible repeat (first | apply Kd.R_alloc | apply Kd.R_drewN | apply Kd.R_drew)); exact Kd.R_mono (Kd.R_far (p := ⟨gb104, 3, none⟩) (Kd.R_types HO110.out BK104.out (by decide)) (fun _ hk => hk.2) (.slice Ao35 y112.length co35)) (fun _ hk => ⟨hk.1.2, hk.1.1⟩)) hg hat); have n4_ := Aside0.mk (Kd.R_after (ok := (fun k_ => some k_ ≠ (.slice Ao30 y108.length co30 : Value).ownBlock)) (by (with_reducible repeat (first | apply Kd.R_alloc | apply Kd.R_drewN | apply Kd.R_drew)); exact Kd.R_mono (Kd.R_far (p := ⟨gb104, 3, none⟩) (Kd.R_types HO114.out BK104.out (by decide)) (fun _ hk => hk.2) (.slice Ao35 y112.length co35)) (fun _ hk => ⟨hk.1.2, hk.1.1⟩)) hg hat); have n5_ := Aside0.mk (hb); have n6_ := Aside0.mk (ho); clear HO_105009; clear BK102; clear BK104; clear HO110; clear HO114; clear HB; clear HO_105008; have HO_105009 := n0_; have BK102 := n1_; have BK104 := n2_; have HO110 := n3_; have HO114 := n4_; have HB := n5_; have HO117 := n6_; clear n0_ n1_ n2_ n3_ n4_ n5_ n6_; clear ho hb hg hat; obtain ⟨Ao40, co40, eo40⟩ := Kd.R_slice HO117.out; subst eo40; have hcz41_0 : w39.cell? ⟨gb104, 0, none⟩ = some (.int .u32 a0) := (blk_cell BK104.out 0).trans rfl; have hcz41_1 : w39.cell? ⟨gb104, 1, none⟩ = some (.int .i64 a1) := (blk_cell BK104.out 1).trans rfl; have hcz41_2 : w39.cell? ⟨gb104, 2, none⟩ = some (.slice Ao30 y108.length co30) := (blk_cell BK104.out 2).trans rfl; have hcz41_3 : w39.cell? ⟨gb104, 3, none⟩ = some (.slice Ao35 y112.length co35) := (blk_cell BK104.out 3).trans rfl; have hcz41_4 : w39.cell? ⟨gb104, 4, none⟩ = some (.int .i64 0) := (blk_cell BK104.out 4).trans rfl; have hcz41_5 : w39.cell? ⟨gb104, 5, none⟩ = some (.slice none 0 0) := (blk_cell BK104.out 5).trans rfl; have hcz41_6 : w39.cell? ⟨gb104, 6, none⟩ = some (.slice none 0 0) := (blk_cell BK104.out 6).trans rfl; have hcz41_7 : w39.cell? ⟨gb104, 7, none⟩ = some (.slice none 0 0) := (blk_cell BK104.out 7).trans rfl; have hcz41_8 : w39.cell? ⟨gb104, 8, none⟩ = some (u105008) := (blk_cell BK104.out 8).trans rfl; have hcz41_9 : w39.cell? ⟨gb104, 9, none⟩ = some (u105009) := (blk_cell BK104.out 9).trans rfl; have hcz41_10 : w39.cell? ⟨gb104, 10, none⟩ = some (.int .i64 0) := (blk_cell BK104.out 10).trans rfl; have hcz41_11 : w39.cell? ⟨gb104, 11, none⟩ = some (.int .i64 0) := (blk_cell BK104.out 11).trans rfl; have hcz41_12 : w39.cell? ⟨gb104, 12, none⟩ = some (.int .i64 0) := (blk_cell BK104.out 12).trans rfl; have hfz41_0 := blk_frozen BK104.out 0; have hfz41_1 := blk_frozen BK104.out 1; have hfz41_2 := blk_frozen BK104.out 2; have hfz41_3 := blk_frozen BK104.out 3; have hfz41_4 := blk_frozen BK104.out 4; have hfz41_5 := blk_frozen BK104.out 5; have hfz41_6 := blk_frozen BK104.out 6; have hfz41_7 := blk_frozen BK104.out 7; have hfz41_8 := blk_frozen BK104.out 8; have hfz41_9 := blk_frozen BK104.out 9; have hfz41_10 := blk_frozen BK104.out 10; have hfz41_11 := blk_frozen BK104.out 11; have hfz41_12 := blk_frozen BK104.out 12) | ((with_reducible refine gate_builtin (b := .append) (xs := #[.tmp 76, .tmp 77]) rfl ?_); (try (refine gate_guard (by rfl) ?_; dsimp only)); at_builtin; refine Kd.R_append Kd.bool (w0 := w) w.heap.size rfl (.tmp 76) (.tmp 77) 42 4 (.bool false) 1 rfl Try.underlying42 info4 rfl (by decide) (by omega) u105009 x105009_2 false [.bool false] (fun _ => True) (fun _ => False) rfl (by first | (go_simp; done) | (go_simp; rfl)) ?aP (fun _ hk => hk.elim) ?aF ?aO ?aB ?aS ?aL ?_; (case aP => exact rfl); (case aB => exact (q2_4)); (case aF => exact (fun _ _ => trivial)); (case aO => exact (by (with_reducible repeat (first | apply Kd.R_alloc | apply Kd.R_drewN | apply Kd.R_drew)); exact Kd.R_mono (Kd.R_far (p := ⟨gb104, 8, none⟩) (Kd.R_types HO_105009.out BK104.out (by decide)) (fun _ hk => hk.2) (.slice Ao40 y115.length co40)) (fun _ hk => trivial))); (case aS => exact (below_size (q2_4))); (case aL => have := LMc27.out; omega); intro v119 w42 ho hb hg hat; rw [← Ny118.out] at ho; have n0_ := Aside0.mk (blk_grown (g := gb102) (o := .cells #[.int .u32 x103000_2, .int .i64 x103001_2, .slice none 0 0, .slice none 0 0, .int .i64 x103004_2, .slice none 0 0, .slice none 0 0, .slice none 0 0, .slice none 0 0, .slice none 0 0, .int .i64 x103010_2, .int .i64 x103011_2, .int .i64 x103012_2] 44 (0, 0)) (q2_3) hg (Kd.R_ne HO_105009.out BK102.out (by decide))); have n1_ := Aside0.mk (blk_grown (g := gb104) (o := .cells #[.int .u32 a0, .int .i64 a1, .slice Ao30 y108.length co30, .slice Ao35 y112.length co35, .int .i64 0, .slice none 0 0, .slice none 0 0, .slice none 0 0, .slice Ao40 y115.length co40, u105009, .int .i64 0, .int .i64 0, .int .i64 0] 44 (0, 0)) (by (with_reducible repeat (first | refine blk_drewN ?_ _ | refine blk_drew ?_ | refine blk_alloc ?_ _)); refine blk_put (cs := #[.int .u32 a0, .int .i64 a1, .slice Ao30 y108.length co30, .slice Ao35 y112.length co35, .int .i64 0, .slice none 0 0, .slice none 0 0, .slice none 0 0, u105008, u105009, .int .i64 0, .int .i64 0, .int .i64 0]) ?_ 8 _ rfl; (with_reducible repeat (first | refine blk_drewN ?_ _ | refine blk_drew ?_ | refine blk_alloc ?_ _)); exact BK104.out) hg (Kd.R_ne HO_105009.out BK104.out (by decide))); have n2_ := Aside0.mk (Kd.R_over' (by (with_reducible repeat (first | apply Kd.R_alloc | apply Kd.R_drewN | apply Kd.R_drew)); exact (Kd.R_mono (Kd.R_far (p := ⟨gb104, 8, none⟩) (Kd.R_types HO110.out BK104.out (by decide)) (fun _ hk => hk.2) (.slice Ao40 y115.length co40)) (fun _ h_ => h_.1))) (Kd.R_typed (q2_2)) (by decide) hg); have n3_ := Aside0.mk (Kd.R_over' (by (with_reducible repeat (first | apply Kd.R_alloc | apply Kd.R_drewN | apply Kd.R_drew)); exact (Kd.R_mono (Kd.R_far (p := ⟨gb104, 8, none⟩) (Kd.R_types HO114.out BK104.out (by decide)) (fun _ hk => hk.2) (.slice Ao40 y115.length co40)) (fun _ h_ => h_.1))) (Kd.R_typed (q2_2)) (by decide) hg); have n4_ := Aside0.mk (Kd.R_over' (by (with_reducible repeat (first | apply Kd.R_alloc | apply Kd.R_drewN | apply Kd.R_drew)); exact (Kd.R_mono (Kd.R_far (p := ⟨gb104, 8, none⟩) (Kd.R_types HO117.out BK104.out (by decide)) (fun _ hk => hk.2) (.slice Ao40 y115.length co40)) (fun _ h_ => h_.1))) (Kd.R_typed (q2_2)) (by decide) hg); have n5_ := Aside0.mk (hb); have n6_ := Aside0.mk (ho); clear BK102; clear BK104; clear HO110; clear HO114; clear HO117; clear HB; clear HO_105009; have BK102 := n0_; have BK104 := n1_; have HO110 := n2_; have HO114 := n3_; have HO117 := n4_; have HB := n5_; have HO120 := n6_; clear n0_ n1_ n2_ n3_ n4_ n5_ n6_; clear ho hb hg hat; obtain ⟨Ao43, co43, eo43⟩ := Kd.R_slice HO120.out; subst eo43; have hcz44_0 : w42.cell? ⟨gb104, 0, none⟩ = some (.int .u32 a0) := (blk_cell BK104.out 0).trans rfl; have hcz44_1 : w42.cell? ⟨gb104, 1, none⟩ = some (.int .i64 a1) := (blk_cell BK104.out 1).trans rfl; have hcz44_2 : w42.cell? ⟨gb104, 2, none⟩ = some (.slice Ao30 y108.length co30) := (blk_cell BK104.out 2).trans rfl; have hcz44_3 : w42.cell? ⟨gb104, 3, none⟩ = some (.slice Ao35 y112.length co35) := (blk_cell BK104.out 3).trans rfl; have hcz44_4 : w42.cell? ⟨gb104, 4, none⟩ = some (.int .i64 0) := (blk_cell BK104.out 4).trans rfl; have hcz44_5 : w42.cell? ⟨gb104, 5, none⟩ = some (.slice none 0 0) := (blk_cell BK104.out 5).trans rfl; have hcz44_6 : w42.cell? ⟨gb104, 6, none⟩ = some (.slice none 0 0) := (blk_cell BK104.out 6).trans rfl; have hcz44_7 : w42.cell? ⟨gb104, 7, none⟩ = some (.slice none 0 0) := (blk_cell BK104.out 7).trans rfl; have hcz44_8 : w42.cell? ⟨gb104, 8, none⟩ = some (.slice Ao40 y115.length co40) := (blk_cell BK104.out 8).trans rfl; have hcz44_9 : w42.cell? ⟨gb104, 9, none⟩ = some (u105009) := (blk_cell BK104.out 9).trans rfl; have hcz44_10 : w42.cell? ⟨gb104, 10, none⟩ = some (.int .i64 0) := (blk_cell BK104.out 10).trans rfl; have hcz44_11 : w42.cell? ⟨gb104, 11, none⟩ = some (.int .i64 0) := (blk_cell BK104.out 11).trans rfl; have hcz44_12 : w42.cell? ⟨gb104, 12, none⟩ = some (.int .i64 0) := (blk_cell BK104.out 12).trans rfl; have hfz44_0 := blk_frozen BK104.out 0; have hfz44_1 := blk_frozen BK104.out 1; have hfz44_2 := blk_frozen BK104.out 2; have hfz44_3 := blk_frozen BK104.out 3; have hfz44_4 := blk_frozen BK104.out 4; have hfz44_5 := blk_frozen BK104.out 5; have hfz44_6 := blk_frozen BK104.out 6; have hfz44_7 := blk_frozen BK104.out 7; have hfz44_8 := blk_frozen BK104.out 8; have hfz44_9 := blk_frozen BK104.out 9; have hfz44_10 := blk_frozen BK104.out 10; have hfz44_11 := blk_frozen BK104.out 11; have hfz44_12 := blk_frozen BK104.out 12))
                              go_roundg k2
                              case measure => have := HJ4.out; have := HK2.out; omega
                              case rel => exact ⟨(wrap64 (x11_2 + 1)), (x103000_2), (x103001_2), (x103004_2), (x103010_2), (x103011_2), (x103012_2), (y108), (y112), (y115), (y118), (.slice Ao30 y108.length co30), (.slice Ao35 y112.length co35), (.slice Ao40 y115.length co40), (.slice Ao43 y118.length co43), (by first | rfl | (simp; done) | (simp [*]; done)), H', ⟨by have := HJ4.out; have := HK2.out; omega⟩, ⟨by (with_reducible repeat (first | apply Kd.R_alloc | apply Kd.R_drewN | apply Kd.R_drew)); exact Kd.R_mono (Kd.R_far (p := ⟨gb104, 9, none⟩) (Kd.R_types HO110.out BK104.out (by decide)) (fun _ hk => hk.2) (.slice Ao43 y118.length co43)) (fun _ hk => ⟨hk.1.1, hk.1.2⟩)⟩, ⟨by (with_reducible repeat (first | apply Kd.R_alloc | apply Kd.R_drewN | apply Kd.R_drew)); exact Kd.R_mono (Kd.R_far (p := ⟨gb104, 9, none⟩) (Kd.R_types HO114.out BK104.out (by decide)) (fun _ hk => hk.2) (.slice Ao43 y118.length co43)) (fun _ hk => ⟨hk.1.1, hk.1.2⟩)⟩, ⟨by (with_reducible repeat (first | apply Kd.R_alloc | apply Kd.R_drewN | apply Kd.R_drew)); exact Kd.R_mono (Kd.R_far (p := ⟨gb104, 9, none⟩) (Kd.R_types HO117.out BK104.out (by decide)) (fun _ hk => hk.2) (.slice Ao43 y118.length co43)) (fun _ hk => ⟨hk.1.1, hk.1.2⟩)⟩, ⟨by (with_reducible repeat (first | apply Kd.R_alloc | apply Kd.R_drewN | apply Kd.R_drew)); exact Kd.R_mono (Kd.R_far (p := ⟨gb104, 9, none⟩) (Kd.R_types HO120.out BK104.out (by decide)) (fun _ hk => hk.2) (.slice Ao43 y118.length co43)) (fun _ hk => trivial)⟩, ⟨q2_3⟩, ⟨by (with_reducible repeat (first | refine blk_drewN ?_ _ | refine blk_drew ?_ | refine blk_alloc ?_ _)); refine blk_put (cs := #[.int .u32 a0, .int .i64 a1, .slice Ao30 y108.length co30, .slice Ao35 y112.length co35, .int .i64 0, .slice none 0 0, .slice none 0 0, .slice none 0 0, .slice Ao40 y115.length co40, u105009, .int .i64 0, .int .i64 0, .int .i64 0]) ?_ 9 _ rfl; (with_reducible repeat (first | refine blk_drewN ?_ _ | refine blk_drew ?_ | refine blk_alloc ?_ _)); exact BK104.out⟩, ⟨q2_4⟩⟩
                            · rw [if_neg c27] at H
                              exact absurd H (by simp)
                          · rw [if_neg c26] at H
                            exact absurd H (by simp)
                        · rw [if_neg c25] at H
                          exact absurd H (by simp)
                      · rw [if_neg c24] at H
                        exact absurd H (by simp)
                  · rw [if_neg c20] at H
                    exact absurd H (by simp)
              · rw [if_neg c16] at H
                exact absurd H (by simp)
            · rw [if_neg c15] at H
              have c15b0 : decide (x11_2 < (l2.length : Int)) = false := decide_eq_false c15
              clear c15
              simp only [Option.some.injEq, Prod.mk.injEq] at H
              obtain ⟨rfl, rfl, rfl, rfl, rfl, rfl, rfl, rfl, rfl, rfl, rfl, rfl, rfl, rfl⟩ := H
              have hnb45 := NB104_102.out
              have hnc45 := NB102_104.out
              have hcz46_0 : wr.cell? ⟨gb104, 0, none⟩ = some (.int .u32 a0) := (blk_cell BK104.out 0).trans rfl
              have hcz46_1 : wr.cell? ⟨gb104, 1, none⟩ = some (.int .i64 a1) := (blk_cell BK104.out 1).trans rfl
              have hcz46_2 : wr.cell? ⟨gb104, 2, none⟩ = some (u105002) := (blk_cell BK104.out 2).trans rfl
              have hcz46_3 : wr.cell? ⟨gb104, 3, none⟩ = some (u105003) := (blk_cell BK104.out 3).trans rfl
              have hcz46_4 : wr.cell? ⟨gb104, 4, none⟩ = some (.int .i64 0) := (blk_cell BK104.out 4).trans rfl
              have hcz46_5 : wr.cell? ⟨gb104, 5, none⟩ = some (.slice none 0 0) := (blk_cell BK104.out 5).trans rfl
              have hcz46_6 : wr.cell? ⟨gb104, 6, none⟩ = some (.slice none 0 0) := (blk_cell BK104.out 6).trans rfl
              have hcz46_7 : wr.cell? ⟨gb104, 7, none⟩ = some (.slice none 0 0) := (blk_cell BK104.out 7).trans rfl
              have hcz46_8 : wr.cell? ⟨gb104, 8, none⟩ = some (u105008) := (blk_cell BK104.out 8).trans rfl
              have hcz46_9 : wr.cell? ⟨gb104, 9, none⟩ = some (u105009) := (blk_cell BK104.out 9).trans rfl
              have hcz46_10 : wr.cell? ⟨gb104, 10, none⟩ = some (.int .i64 0) := (blk_cell BK104.out 10).trans rfl
              have hcz46_11 : wr.cell? ⟨gb104, 11, none⟩ = some (.int .i64 0) := (blk_cell BK104.out 11).trans rfl
              have hcz46_12 : wr.cell? ⟨gb104, 12, none⟩ = some (.int .i64 0) := (blk_cell BK104.out 12).trans rfl
              have hfz46_0 := blk_frozen BK104.out 0
              have hfz46_1 := blk_frozen BK104.out 1
              have hfz46_2 := blk_frozen BK104.out 2
              have hfz46_3 := blk_frozen BK104.out 3
              have hfz46_4 := blk_frozen BK104.out 4
              have hfz46_5 := blk_frozen BK104.out 5
              have hfz46_6 := blk_frozen BK104.out 6
              have hfz46_7 := blk_frozen BK104.out 7
              have hfz46_8 := blk_frozen BK104.out 8
              have hfz46_9 := blk_frozen BK104.out 9
              have hfz46_10 := blk_frozen BK104.out 10
              have hfz46_11 := blk_frozen BK104.out 11
              have hfz46_12 := blk_frozen BK104.out 12
              have hcz47_0 : wr.cell? ⟨gb102, 0, none⟩ = some (.int .u32 x103000_2) := (blk_cell BK102.out 0).trans rfl
              have hcz47_1 : wr.cell? ⟨gb102, 1, none⟩ = some (.int .i64 x103001_2) := (blk_cell BK102.out 1).trans rfl
              have hcz47_2 : wr.cell? ⟨gb102, 2, none⟩ = some (.slice none 0 0) := (blk_cell BK102.out 2).trans rfl
              have hcz47_3 : wr.cell? ⟨gb102, 3, none⟩ = some (.slice none 0 0) := (blk_cell BK102.out 3).trans rfl
              have hcz47_4 : wr.cell? ⟨gb102, 4, none⟩ = some (.int .i64 x103004_2) := (blk_cell BK102.out 4).trans rfl
              have hcz47_5 : wr.cell? ⟨gb102, 5, none⟩ = some (.slice none 0 0) := (blk_cell BK102.out 5).trans rfl
              have hcz47_6 : wr.cell? ⟨gb102, 6, none⟩ = some (.slice none 0 0) := (blk_cell BK102.out 6).trans rfl
              have hcz47_7 : wr.cell? ⟨gb102, 7, none⟩ = some (.slice none 0 0) := (blk_cell BK102.out 7).trans rfl
              have hcz47_8 : wr.cell? ⟨gb102, 8, none⟩ = some (.slice none 0 0) := (blk_cell BK102.out 8).trans rfl
              have hcz47_9 : wr.cell? ⟨gb102, 9, none⟩ = some (.slice none 0 0) := (blk_cell BK102.out 9).trans rfl
              have hcz47_10 : wr.cell? ⟨gb102, 10, none⟩ = some (.int .i64 x103010_2) := (blk_cell BK102.out 10).trans rfl
              have hcz47_11 : wr.cell? ⟨gb102, 11, none⟩ = some (.int .i64 x103011_2) := (blk_cell BK102.out 11).trans rfl
              have hcz47_12 : wr.cell? ⟨gb102, 12, none⟩ = some (.int .i64 x103012_2) := (blk_cell BK102.out 12).trans rfl
              have hfz47_0 := blk_frozen BK102.out 0
              have hfz47_1 := blk_frozen BK102.out 1
              have hfz47_2 := blk_frozen BK102.out 2
              have hfz47_3 := blk_frozen BK102.out 3
              have hfz47_4 := blk_frozen BK102.out 4
              have hfz47_5 := blk_frozen BK102.out 5
              have hfz47_6 := blk_frozen BK102.out 6
              have hfz47_7 := blk_frozen BK102.out 7
              have hfz47_8 := blk_frozen BK102.out 8
              have hfz47_9 := blk_frozen BK102.out 9
              have hfz47_10 := blk_frozen BK102.out 10
              have hfz47_11 := blk_frozen BK102.out 11
              have hfz47_12 := blk_frozen BK102.out 12
              obtain ⟨Ao48, co48, eo48⟩ := Kd.R_slice HO_105002.out
              subst eo48
              obtain ⟨Ao49, co49, eo49⟩ := Kd.R_slice HO_105003.out
              subst eo49
              obtain ⟨Ao50, co50, eo50⟩ := Kd.R_slice HO_105008.out
              subst eo50
              obtain ⟨Ao51, co51, eo51⟩ := Kd.R_slice HO_105009.out
              subst eo51
              go_wp2
              refine bodyPost_ret (results_ct rfl _ _ gb102 44 #[.int .u32 a0, .int .i64 a1, .slice Ao48 x105002_2.length co48, .slice Ao49 x105003_2.length co49, .int .i64 0, .slice none 0 0, .slice none 0 0, .slice none 0 0, .slice Ao50 x105008_2.length co50, .slice Ao51 x105009_2.length co51, .int .i64 0, .int .i64 0, .int .i64 0] (0, 0) _ rfl (by (with_reducible repeat (first | refine blk_drewN ?_ _ | refine blk_drew ?_ | refine blk_alloc ?_ _)); refine blk_put (cs := #[.int .u32 a0, .int .i64 a1, .slice Ao48 x105002_2.length co48, .slice Ao49 x105003_2.length co49, .int .i64 0, .slice none 0 0, .slice none 0 0, .slice none 0 0, .slice Ao50 x105008_2.length co50, .slice Ao51 x105009_2.length co51, .int .i64 0, .int .i64 0, .int .i64 x103012_2]) ?_ 12 _ rfl; (with_reducible repeat (first | refine blk_drewN ?_ _ | refine blk_drew ?_ | refine blk_alloc ?_ _)); refine blk_put (cs := #[.int .u32 a0, .int .i64 a1, .slice Ao48 x105002_2.length co48, .slice Ao49 x105003_2.length co49, .int .i64 0, .slice none 0 0, .slice none 0 0, .slice none 0 0, .slice Ao50 x105008_2.length co50, .slice Ao51 x105009_2.length co51, .int .i64 0, .int .i64 x103011_2, .int .i64 x103012_2]) ?_ 11 _ rfl; (with_reducible repeat (first | refine blk_drewN ?_ _ | refine blk_drew ?_ | refine blk_alloc ?_ _)); refine blk_put (cs := #[.int .u32 a0, .int .i64 a1, .slice Ao48 x105002_2.length co48, .slice Ao49 x105003_2.length co49, .int .i64 0, .slice none 0 0, .slice none 0 0, .slice none 0 0, .slice Ao50 x105008_2.length co50, .slice Ao51 x105009_2.length co51, .int .i64 x103010_2, .int .i64 x103011_2, .int .i64 x103012_2]) ?_ 10 _ rfl; (with_reducible repeat (first | refine blk_drewN ?_ _ | refine blk_drew ?_ | refine blk_alloc ?_ _)); refine blk_put (cs := #[.int .u32 a0, .int .i64 a1, .slice Ao48 x105002_2.length co48, .slice Ao49 x105003_2.length co49, .int .i64 0, .slice none 0 0, .slice none 0 0, .slice none 0 0, .slice Ao50 x105008_2.length co50, .slice none 0 0, .int .i64 x103010_2, .int .i64 x103011_2, .int .i64 x103012_2]) ?_ 9 _ rfl; (with_reducible repeat (first | refine blk_drewN ?_ _ | refine blk_drew ?_ | refine blk_alloc ?_ _)); refine blk_put (cs := #[.int .u32 a0, .int .i64 a1, .slice Ao48 x105002_2.length co48, .slice Ao49 x105003_2.length co49, .int .i64 0, .slice none 0 0, .slice none 0 0, .slice none 0 0, .slice none 0 0, .slice none 0 0, .int .i64 x103010_2, .int .i64 x103011_2, .int .i64 x103012_2]) ?_ 8 _ rfl; (with_reducible repeat (first | refine blk_drewN ?_ _ | refine blk_drew ?_ | refine blk_alloc ?_ _)); refine blk_put (cs := #[.int .u32 a0, .int .i64 a1, .slice Ao48 x105002_2.length co48, .slice Ao49 x105003_2.length co49, .int .i64 0, .slice none 0 0, .slice none 0 0, .slice none 0 0, .slice none 0 0, .slice none 0 0, .int .i64 x103010_2, .int .i64 x103011_2, .int .i64 x103012_2]) ?_ 7 _ rfl; (with_reducible repeat (first | refine blk_drewN ?_ _ | refine blk_drew ?_ | refine blk_alloc ?_ _)); refine blk_put (cs := #[.int .u32 a0, .int .i64 a1, .slice Ao48 x105002_2.length co48, .slice Ao49 x105003_2.length co49, .int .i64 0, .slice none 0 0, .slice none 0 0, .slice none 0 0, .slice none 0 0, .slice none 0 0, .int .i64 x103010_2, .int .i64 x103011_2, .int .i64 x103012_2]) ?_ 6 _ rfl; (with_reducible repeat (first | refine blk_drewN ?_ _ | refine blk_drew ?_ | refine blk_alloc ?_ _)); refine blk_put (cs := #[.int .u32 a0, .int .i64 a1, .slice Ao48 x105002_2.length co48, .slice Ao49 x105003_2.length co49, .int .i64 0, .slice none 0 0, .slice none 0 0, .slice none 0 0, .slice none 0 0, .slice none 0 0, .int .i64 x103010_2, .int .i64 x103011_2, .int .i64 x103012_2]) ?_ 5 _ rfl; (with_reducible repeat (first | refine blk_drewN ?_ _ | refine blk_drew ?_ | refine blk_alloc ?_ _)); refine blk_put (cs := #[.int .u32 a0, .int .i64 a1, .slice Ao48 x105002_2.length co48, .slice Ao49 x105003_2.length co49, .int .i64 x103004_2, .slice none 0 0, .slice none 0 0, .slice none 0 0, .slice none 0 0, .slice none 0 0, .int .i64 x103010_2, .int .i64 x103011_2, .int .i64 x103012_2]) ?_ 4 _ rfl; (with_reducible repeat (first | refine blk_drewN ?_ _ | refine blk_drew ?_ | refine blk_alloc ?_ _)); refine blk_put (cs := #[.int .u32 a0, .int .i64 a1, .slice Ao48 x105002_2.length co48, .slice none 0 0, .int .i64 x103004_2, .slice none 0 0, .slice none 0 0, .slice none 0 0, .slice none 0 0, .slice none 0 0, .int .i64 x103010_2, .int .i64 x103011_2, .int .i64 x103012_2]) ?_ 3 _ rfl; (with_reducible repeat (first | refine blk_drewN ?_ _ | refine blk_drew ?_ | refine blk_alloc ?_ _)); refine blk_put (cs := #[.int .u32 a0, .int .i64 a1, .slice none 0 0, .slice none 0 0, .int .i64 x103004_2, .slice none 0 0, .slice none 0 0, .slice none 0 0, .slice none 0 0, .slice none 0 0, .int .i64 x103010_2, .int .i64 x103011_2, .int .i64 x103012_2]) ?_ 2 _ rfl; (with_reducible repeat (first | refine blk_drewN ?_ _ | refine blk_drew ?_ | refine blk_alloc ?_ _)); refine blk_put (cs := #[.int .u32 a0, .int .i64 x103001_2, .slice none 0 0, .slice none 0 0, .int .i64 x103004_2, .slice none 0 0, .slice none 0 0, .slice none 0 0, .slice none 0 0, .slice none 0 0, .int .i64 x103010_2, .int .i64 x103011_2, .int .i64 x103012_2]) ?_ 1 _ rfl; (with_reducible repeat (first | refine blk_drewN ?_ _ | refine blk_drew ?_ | refine blk_alloc ?_ _)); refine blk_put (cs := #[.int .u32 x103000_2, .int .i64 x103001_2, .slice none 0 0, .slice none 0 0, .int .i64 x103004_2, .slice none 0 0, .slice none 0 0, .slice none 0 0, .slice none 0 0, .slice none 0 0, .int .i64 x103010_2, .int .i64 x103011_2, .int .i64 x103012_2]) ?_ 0 _ rfl; (with_reducible repeat (first | refine blk_drewN ?_ _ | refine blk_drew ?_ | refine blk_alloc ?_ _)); exact BK102.out) Try.underlying44 rfl (by kernel_rfl)) rfl ?_
              exact ⟨_, _, _, _, _, _, _, q2_11, by (with_reducible repeat (first | apply Kd.R_alloc | apply Kd.R_drewN | apply Kd.R_drew)); exact Kd.R_mono (Kd.R_far (p := ⟨gb102, 12, none⟩) (Kd.R_far (p := ⟨gb102, 11, none⟩) (Kd.R_far (p := ⟨gb102, 10, none⟩) (Kd.R_far (p := ⟨gb102, 9, none⟩) (Kd.R_far (p := ⟨gb102, 8, none⟩) (Kd.R_far (p := ⟨gb102, 7, none⟩) (Kd.R_far (p := ⟨gb102, 6, none⟩) (Kd.R_far (p := ⟨gb102, 5, none⟩) (Kd.R_far (p := ⟨gb102, 4, none⟩) (Kd.R_far (p := ⟨gb102, 3, none⟩) (Kd.R_far (p := ⟨gb102, 2, none⟩) (Kd.R_far (p := ⟨gb102, 1, none⟩) (Kd.R_far (p := ⟨gb102, 0, none⟩) (Kd.R_types HO_105002.out BK102.out (by decide)) (fun _ hk => hk.2) (.int .u32 a0)) (fun _ hk => hk.2) (.int .i64 a1)) (fun _ hk => hk.2) (.slice Ao48 x105002_2.length co48)) (fun _ hk => hk.2) (.slice Ao49 x105003_2.length co49)) (fun _ hk => hk.2) (.int .i64 0)) (fun _ hk => hk.2) (.slice none 0 0)) (fun _ hk => hk.2) (.slice none 0 0)) (fun _ hk => hk.2) (.slice none 0 0)) (fun _ hk => hk.2) (.slice Ao50 x105008_2.length co50)) (fun _ hk => hk.2) (.slice Ao51 x105009_2.length co51)) (fun _ hk => hk.2) (.int .i64 0)) (fun _ hk => hk.2) (.int .i64 0)) (fun _ hk => hk.2) (.int .i64 0)) (fun _ hk => ⟨hk.1.1, hk.1.2⟩), by (with_reducible repeat (first | apply Kd.R_alloc | apply Kd.R_drewN | apply Kd.R_drew)); exact Kd.R_mono (Kd.R_far (p := ⟨gb102, 12, none⟩) (Kd.R_far (p := ⟨gb102, 11, none⟩) (Kd.R_far (p := ⟨gb102, 10, none⟩) (Kd.R_far (p := ⟨gb102, 9, none⟩) (Kd.R_far (p := ⟨gb102, 8, none⟩) (Kd.R_far (p := ⟨gb102, 7, none⟩) (Kd.R_far (p := ⟨gb102, 6, none⟩) (Kd.R_far (p := ⟨gb102, 5, none⟩) (Kd.R_far (p := ⟨gb102, 4, none⟩) (Kd.R_far (p := ⟨gb102, 3, none⟩) (Kd.R_far (p := ⟨gb102, 2, none⟩) (Kd.R_far (p := ⟨gb102, 1, none⟩) (Kd.R_far (p := ⟨gb102, 0, none⟩) (Kd.R_types HO_105003.out BK102.out (by decide)) (fun _ hk => hk.2) (.int .u32 a0)) (fun _ hk => hk.2) (.int .i64 a1)) (fun _ hk => hk.2) (.slice Ao48 x105002_2.length co48)) (fun _ hk => hk.2) (.slice Ao49 x105003_2.length co49)) (fun _ hk => hk.2) (.int .i64 0)) (fun _ hk => hk.2) (.slice none 0 0)) (fun _ hk => hk.2) (.slice none 0 0)) (fun _ hk => hk.2) (.slice none 0 0)) (fun _ hk => hk.2) (.slice Ao50 x105008_2.length co50)) (fun _ hk => hk.2) (.slice Ao51 x105009_2.length co51)) (fun _ hk => hk.2) (.int .i64 0)) (fun _ hk => hk.2) (.int .i64 0)) (fun _ hk => hk.2) (.int .i64 0)) (fun _ hk => ⟨hk.1.1, hk.1.2⟩), q2_7, q2_6, q2_6, by (with_reducible repeat (first | apply Kd.R_alloc | apply Kd.R_drewN | apply Kd.R_drew)); exact Kd.R_mono (Kd.R_far (p := ⟨gb102, 12, none⟩) (Kd.R_far (p := ⟨gb102, 11, none⟩) (Kd.R_far (p := ⟨gb102, 10, none⟩) (Kd.R_far (p := ⟨gb102, 9, none⟩) (Kd.R_far (p := ⟨gb102, 8, none⟩) (Kd.R_far (p := ⟨gb102, 7, none⟩) (Kd.R_far (p := ⟨gb102, 6, none⟩) (Kd.R_far (p := ⟨gb102, 5, none⟩) (Kd.R_far (p := ⟨gb102, 4, none⟩) (Kd.R_far (p := ⟨gb102, 3, none⟩) (Kd.R_far (p := ⟨gb102, 2, none⟩) (Kd.R_far (p := ⟨gb102, 1, none⟩) (Kd.R_far (p := ⟨gb102, 0, none⟩) (Kd.R_types HO_105008.out BK102.out (by decide)) (fun _ hk => hk.2) (.int .u32 a0)) (fun _ hk => hk.2) (.int .i64 a1)) (fun _ hk => hk.2) (.slice Ao48 x105002_2.length co48)) (fun _ hk => hk.2) (.slice Ao49 x105003_2.length co49)) (fun _ hk => hk.2) (.int .i64 0)) (fun _ hk => hk.2) (.slice none 0 0)) (fun _ hk => hk.2) (.slice none 0 0)) (fun _ hk => hk.2) (.slice none 0 0)) (fun _ hk => hk.2) (.slice Ao50 x105008_2.length co50)) (fun _ hk => hk.2) (.slice Ao51 x105009_2.length co51)) (fun _ hk => hk.2) (.int .i64 0)) (fun _ hk => hk.2) (.int .i64 0)) (fun _ hk => hk.2) (.int .i64 0)) (fun _ hk => ⟨hk.1.1, hk.1.2⟩), by (with_reducible repeat (first | apply Kd.R_alloc | apply Kd.R_drewN | apply Kd.R_drew)); exact Kd.R_mono (Kd.R_far (p := ⟨gb102, 12, none⟩) (Kd.R_far (p := ⟨gb102, 11, none⟩) (Kd.R_far (p := ⟨gb102, 10, none⟩) (Kd.R_far (p := ⟨gb102, 9, none⟩) (Kd.R_far (p := ⟨gb102, 8, none⟩) (Kd.R_far (p := ⟨gb102, 7, none⟩) (Kd.R_far (p := ⟨gb102, 6, none⟩) (Kd.R_far (p := ⟨gb102, 5, none⟩) (Kd.R_far (p := ⟨gb102, 4, none⟩) (Kd.R_far (p := ⟨gb102, 3, none⟩) (Kd.R_far (p := ⟨gb102, 2, none⟩) (Kd.R_far (p := ⟨gb102, 1, none⟩) (Kd.R_far (p := ⟨gb102, 0, none⟩) (Kd.R_types HO_105009.out BK102.out (by decide)) (fun _ hk => hk.2) (.int .u32 a0)) (fun _ hk => hk.2) (.int .i64 a1)) (fun _ hk => hk.2) (.slice Ao48 x105002_2.length co48)) (fun _ hk => hk.2) (.slice Ao49 x105003_2.length co49)) (fun _ hk => hk.2) (.int .i64 0)) (fun _ hk => hk.2) (.slice none 0 0)) (fun _ hk => hk.2) (.slice none 0 0)) (fun _ hk => hk.2) (.slice none 0 0)) (fun _ hk => hk.2) (.slice Ao50 x105008_2.length co50)) (fun _ hk => hk.2) (.slice Ao51 x105009_2.length co51)) (fun _ hk => hk.2) (.int .i64 0)) (fun _ hk => hk.2) (.int .i64 0)) (fun _ hk => hk.2) (.int .i64 0)) (fun _ hk => trivial), q2_4⟩

end Go.Proofs.Ytphlmaaplaaopaa.PFnExactTalkStart
