-- PRINTED by print.py (a twelfth state) out of the translation. Not trusted: Lean checks it.
import Derived.Test.YtphlmaaplaaopaaDoorPFnExactAskForx0
namespace Go.Proofs.YtphlmaaplaaopaaDoor.PFnExactAskFor
open Go.RowKit Go.Proofs.YtphlmaaplaaopaaDoorW.PrintWords Go.Proofs.YtphlmaaplaaopaaDoorW.PrintLast Go.Proofs.YtphlmaaplaaopaaDoorW.PrintMore
attribute [local go_sem] max2_int min2_int max_two min_two max_three min_three max_four min_four   -- for this text's walks alone
set_option linter.unusedVariables false
set_option linter.unusedSimpArgs false
open Go.Proofs.YtphlmaaplaaopaaDoorW

/-! ### spec_l01In: function 42 -/
def spec_l01In.f (a0 : Int) (a1 : Int) (a2 : Int) : Option (Bool) := if a0 ≥ a1 then (some (decide (a0 ≤ a2))) else (some false)
set_option maxHeartbeats 8000000 in
set_option maxRecDepth 100000 in
theorem spec_l01In.calls (a0 : Int) (a1 : Int) (a2 : Int) (r : Bool) (w : World) (h : spec_l01In.f a0 a1 a2 = some r) :
    Calls Tryd.prog 42 #[.int .i64 a0, .int .i64 a1, .int .i64 a2] w fun e w' => e = .returned (.bool r) ∧ Drawn0 w w' := by
  have H : (if a0 ≥ a1 then (some (decide (a0 ≤ a2))) else (some false)) = some r := h
  clear h
  by_cases c4 : a0 ≥ a1
  · rw [if_pos c4] at H
    have c4b0 : decide (a1 ≤ a0) = true := decide_eq_true c4
    clear c4
    obtain rfl := Option.some.inj H
    go_enter Tryd.func42, Tryd.ntmps42
    go_wp2
    go_ret
    exact ⟨by first | rfl | (simp; done) | (simp [*]; done), by repeat (first | exact Drawn0.refl _ | apply Drawn0.step)⟩
  · rw [if_neg c4] at H
    have c4b0 : decide (a1 ≤ a0) = false := decide_eq_false c4
    clear c4
    obtain rfl := Option.some.inj H
    go_enter Tryd.func42, Tryd.ntmps42
    go_wp2
    go_ret
    exact ⟨by first | rfl | (simp; done) | (simp [*]; done), by repeat (first | exact Drawn0.refl _ | apply Drawn0.step)⟩

/-! ### spec_l05Blocks: function 72 -/
def spec_l05Blocks.l0 : Nat → ByteArray → Int → List ByteArray → Option (List ByteArray)
  | 0, _, _, _ => none
  | k + 1, x0, x1, x5 => if (x0.size : Int) > x1 then (if 0 ≤ x1 then (if x1 ≤ (x0.size : Int) then (if x5.length < 8796093022208 then (spec_l05Blocks.l0 k (x0.extract (x1 : Int).toNat x0.size) x1 (x5 ++ [x0.extract 0 (x1 : Int).toNat])) else (none)) else (none)) else (none)) else (if (x0.size : Int) > 0 then (if x5.length < 8796093022208 then (some (x5 ++ [x0])) else (none)) else (some x5))
def spec_l05Blocks.f (k : Nat) (a0 : ByteArray) (a1 : Int) : Option (List ByteArray) := spec_l05Blocks.l0 k a0 a1 (([] : List ByteArray))
theorem spec_l05Blocks.mono_l : ∀ k, (∀ y0 y1 y2, LeO (spec_l05Blocks.l0 k y0 y1 y2) (spec_l05Blocks.l0 (k + 1) y0 y1 y2))
  | 0 => fun _ _ _ r h => by simp [spec_l05Blocks.l0] at h
  | k + 1 => by
    have ih0 := spec_l05Blocks.mono_l k
    · intro y0 y1 y2
      unfold spec_l05Blocks.l0
      repeat' first
      | (with_reducible exact ih0 _ _ _)
      | (with_reducible exact LeO.refl _)
      | (with_reducible exact LeO.none _)
      | (with_reducible refine LeO.ite ?_ ?_)
      | (with_reducible refine LeO.bind ?_ (fun _ => ?_))
      | exact ih0 _ _ _
      | exact LeO.none _
      | refine LeO.ite ?_ ?_
      | refine LeO.bind ?_ (fun _ => ?_)
theorem spec_l05Blocks.mono : ∀ a0 a1 k, LeO (spec_l05Blocks.f k a0 a1) (spec_l05Blocks.f (k + 1) a0 a1) := by
  intro a0 a1 k
  have ih0 := spec_l05Blocks.mono_l k
  unfold spec_l05Blocks.f
  repeat' first
      | (with_reducible exact ih0 _ _ _)
      | (with_reducible exact LeO.refl _)
      | (with_reducible exact LeO.none _)
      | (with_reducible refine LeO.ite ?_ ?_)
      | (with_reducible refine LeO.bind ?_ (fun _ => ?_))
      | exact ih0 _ _ _
      | exact LeO.none _
      | refine LeO.ite ?_ ?_
      | refine LeO.bind ?_ (fun _ => ?_)
set_option maxHeartbeats 8000000 in
set_option maxRecDepth 100000 in
theorem spec_l05Blocks.calls (k : Nat) (a0 : ByteArray) (a1 : Int) (r : List ByteArray) (w : World) (h : spec_l05Blocks.f k a0 a1 = some r) :
    Calls Tryd.prog 72 #[.string a0, .int .i64 a1] w fun e w' => ∃ v0_ : Value, e = .returned (v0_) ∧ Kd.R Kd.string 9 w' w.heap.size (fun _ => True) v0_ r ∧ Below w.heap.size w w' := by
  have HB := Aside0.mk (Below.refl w.heap.size w)
  have H : (spec_l05Blocks.l0 k a0 a1 (([] : List ByteArray))) = some r := h
  clear h
  obtain ⟨y101, hy101⟩ : ∃ y_ : List ByteArray, y_ = (([] : List ByteArray)) := ⟨_, rfl⟩
  replace H : (spec_l05Blocks.l0 k a0 a1 y101) = some r := by first | (rw [hy101]; with_reducible exact H) | (have H2_ := (Option.bind_some _ _).symm.trans H; rw [hy101]; with_reducible exact H2_) | (have H2_ := (Option.bind_some _ _).symm.trans H; with_reducible exact H2_) | with_reducible exact H | (rw [hy101]; exact H) | exact H
  have Ny101 := Aside0.mk hy101
  clear hy101
  have H' := Aside0.mk H
  clear H
  go_enter Tryd.func72, Tryd.ntmps72
  go_wp2_with (first | ((with_reducible refine gate_dst (N := 6) rfl ?_); refine Kd.R_lit Kd.string _ 9 ?hg (N := 6) ?hd (xs := ([] : List ByteArray)) (inner := []) (ok := fun _ => True) (okp := fun _ => True) ?hr ?hp (fun _ hk => hk) trivial (Below.refl _ _) (Nat.le_refl _) (by simp) ?_; (case hd => rfl); (case hg => rfl); (case hr => first | (go_simp; done) | (go_simp; rfl)); (case hp => exact (Reps.none _ _)); intro v102 w3 ho4 hb hg_ hnew_; clear hg_ hnew_; (first | rw [← Ny101.out] at ho4 | (simp only [Int.reduceToNat] at ho4; rw [← Ny101.out] at ho4)); have n0_ := Aside0.mk (Kd.R_lower ho4 (below_size (by repeat (first | (with_reducible first | exact HB.out | apply below_alloc | apply pw_below_drewN | apply below_drew1) | exact HB.out)))); have n1_ := Aside0.mk (below_step (by repeat (first | (with_reducible first | exact HB.out | apply below_alloc | apply pw_below_drewN | apply below_drew1) | exact HB.out)) hb); clear HB; have HO103 := n0_; have HB := n1_; clear n0_ n1_; clear hb ho4))
  go_loopg [0, 5] k (fun kq v0 v5 w' => ∃ (x0_1 : ByteArray) (x5_1 : List ByteArray), v0 = .string x0_1 ∧ Aside0 (spec_l05Blocks.l0 kq x0_1 a1 x5_1 = some r) ∧ Aside0 (kq ≤ k) ∧ Aside0 (Kd.R Kd.string 9 w' w.heap.size (fun _ => True) v5 x5_1) ∧ Aside0 (Below w.heap.size w w'))
  case atStart => exact ⟨(a0), (y101), (by first | rfl | (simp; done) | (simp [*]; done)), H', ⟨Nat.le_refl _⟩, ⟨by (with_reducible repeat (first | apply Kd.R_alloc | apply Kd.R_drewN | apply Kd.R_drew)); exact HO103.out⟩, ⟨by repeat (first | (with_reducible first | exact HB.out | apply below_alloc | apply pw_below_drewN | apply below_drew1) | exact HB.out)⟩⟩
  case round =>
    clear H'
    try clear p2
    obtain ⟨x0_1, x5_1, rfl, HA, HK1, HO_5, HB⟩ := hrel
    cases gk with
    | zero => exact absurd HA.out (by simp [spec_l05Blocks.l0])
    | succ k1 =>
      have H := HA.out
      clear HA
      simp only [spec_l05Blocks.l0] at H
      by_cases c5 : (x0_1.size : Int) > a1
      · rw [if_pos c5] at H
        have c5b0 : decide (a1 < (x0_1.size : Int)) = true := decide_eq_true c5
        clear c5
        by_cases c6 : 0 ≤ a1
        · rw [if_pos c6] at H
          have c6b0 := eq_true c6
          have c6b1 : decide (0 ≤ a1) = true := decide_eq_true c6
          clear c6
          by_cases c7 : a1 ≤ (x0_1.size : Int)
          · rw [if_pos c7] at H
            have c7b0 := eq_true c7
            have c7b1 : decide (a1 ≤ (x0_1.size : Int)) = true := decide_eq_true c7
            clear c7
            by_cases c8 : x5_1.length < 8796093022208
            · rw [if_pos c8] at H
              have LMc8 := Aside0.mk c8
              clear c8
              obtain ⟨y104, hy104⟩ : ∃ y_ : List ByteArray, y_ = (x5_1 ++ [x0_1.extract 0 (a1 : Int).toNat]) := ⟨_, rfl⟩
              replace H : (spec_l05Blocks.l0 k1 (x0_1.extract (a1 : Int).toNat x0_1.size) a1 y104) = some r := by first | (rw [hy104]; with_reducible exact H) | (have H2_ := (Option.bind_some _ _).symm.trans H; rw [hy104]; with_reducible exact H2_) | (have H2_ := (Option.bind_some _ _).symm.trans H; with_reducible exact H2_) | with_reducible exact H | (rw [hy104]; exact H) | exact H
              have Ny104 := Aside0.mk hy104
              clear hy104
              have c9b0 := eq_true (of_decide_eq_true (by first | (with_reducible assumption) | assumption) : 0 ≤ a1)
              have c10b0 := eq_true (of_decide_eq_true (by first | (with_reducible assumption) | assumption) : a1 ≤ (x0_1.size : Int))
              have H' := Aside0.mk H
              clear H
              go_wp2_with (first | ((with_reducible refine gate_builtin (b := .append) (xs := #[.tmp 11, .tmp 15]) rfl ?_); at_builtin; refine Kd.R_append Kd.string (w0 := w) w.heap.size rfl (.tmp 11) (.tmp 15) 24 9 (.string ⟨#[]⟩) 16 rfl Tryd.underlying24 info9 rfl (by decide) (by omega) u5 x5_1 (x0_1.extract 0 (a1 : Int).toNat) [.string (x0_1.extract 0 (a1 : Int).toNat)] (fun _ => True) (fun _ => False) rfl rfl ?aP (fun _ hk => hk.elim) ?aF ?aO ?aB ?aS ?aL ?_; (case aP => exact rfl); (case aB => exact (by repeat (first | (with_reducible first | exact HB.out | apply below_alloc | apply pw_below_drewN | apply below_drew1) | exact HB.out))); (case aF => exact (fun _ _ => trivial)); (case aO => exact (by (with_reducible repeat (first | apply Kd.R_alloc | apply Kd.R_drewN | apply Kd.R_drew)); exact HO_5.out)); (case aS => exact (below_size (by repeat (first | (with_reducible first | exact HB.out | apply below_alloc | apply pw_below_drewN | apply below_drew1) | exact HB.out)))); (case aL => have := LMc8.out; omega); intro v105 w11 ho hb hg hat; rw [← Ny104.out] at ho; have n0_ := Aside0.mk (hb); have n1_ := Aside0.mk (ho); clear HB; clear HO_5; have HB := n0_; have HO106 := n1_; clear n0_ n1_; clear ho hb hg hat))
              go_roundg k1
              case measure => have := HK1.out; omega
              case rel => exact ⟨(x0_1.extract (a1 : Int).toNat x0_1.size), (y104), (by first | rfl | (simp; done) | (simp [*]; done)), H', ⟨by have := HK1.out; omega⟩, ⟨by (with_reducible repeat (first | apply Kd.R_alloc | apply Kd.R_drewN | apply Kd.R_drew)); exact HO106.out⟩, ⟨by repeat (first | (with_reducible first | exact HB.out | apply below_alloc | apply pw_below_drewN | apply below_drew1) | exact HB.out)⟩⟩
            · rw [if_neg c8] at H
              exact absurd H (by simp)
          · rw [if_neg c7] at H
            exact absurd H (by simp)
        · rw [if_neg c6] at H
          exact absurd H (by simp)
      · rw [if_neg c5] at H
        have c5b0 : decide (a1 < (x0_1.size : Int)) = false := decide_eq_false c5
        clear c5
        by_cases c12 : (x0_1.size : Int) > 0
        · rw [if_pos c12] at H
          have c12b0 : decide (0 < (x0_1.size : Int)) = true := decide_eq_true c12
          have c12b1 : decide (0 < x0_1.size) = true := decide_eq_true (by omega)
          clear c12
          by_cases c13 : x5_1.length < 8796093022208
          · rw [if_pos c13] at H
            have LMc13 := Aside0.mk c13
            clear c13
            obtain ⟨y107, hy107⟩ : ∃ y_ : List ByteArray, y_ = (x5_1 ++ [x0_1]) := ⟨_, rfl⟩
            replace H : (some y107) = some r := by first | (rw [hy107]; with_reducible exact H) | (have H2_ := (Option.bind_some _ _).symm.trans H; rw [hy107]; with_reducible exact H2_) | (have H2_ := (Option.bind_some _ _).symm.trans H; with_reducible exact H2_) | with_reducible exact H | (rw [hy107]; exact H) | exact H
            have Ny107 := Aside0.mk hy107
            clear hy107
            obtain rfl := Option.some.inj H
            go_wp2_with (first | ((with_reducible refine gate_builtin (b := .append) (xs := #[.tmp 23, .tmp 25]) rfl ?_); at_builtin; refine Kd.R_append Kd.string (w0 := w) w.heap.size rfl (.tmp 23) (.tmp 25) 24 9 (.string ⟨#[]⟩) 16 rfl Tryd.underlying24 info9 rfl (by decide) (by omega) u5 x5_1 x0_1 [.string x0_1] (fun _ => True) (fun _ => False) rfl rfl ?aP (fun _ hk => hk.elim) ?aF ?aO ?aB ?aS ?aL ?_; (case aP => exact rfl); (case aB => exact (by repeat (first | (with_reducible first | exact HB.out | apply below_alloc | apply pw_below_drewN | apply below_drew1) | exact HB.out))); (case aF => exact (fun _ _ => trivial)); (case aO => exact (by (with_reducible repeat (first | apply Kd.R_alloc | apply Kd.R_drewN | apply Kd.R_drew)); exact HO_5.out)); (case aS => exact (below_size (by repeat (first | (with_reducible first | exact HB.out | apply below_alloc | apply pw_below_drewN | apply below_drew1) | exact HB.out)))); (case aL => have := LMc13.out; omega); intro v108 w14 ho hb hg hat; rw [← Ny107.out] at ho; have n0_ := Aside0.mk (hb); have n1_ := Aside0.mk (ho); clear HB; clear HO_5; have HB := n0_; have HO109 := n1_; clear n0_ n1_; clear ho hb hg hat))
            go_ret
            exact ⟨_, by first | rfl | (simp [errW_none, errW_some] <;> rfl) | (simp [*, errW_none, errW_some] <;> rfl), by (with_reducible repeat (first | apply Kd.R_alloc | apply Kd.R_drewN | apply Kd.R_drew)); exact HO109.out, by repeat (first | (with_reducible first | exact HB.out | apply below_alloc | apply pw_below_drewN | apply below_drew1) | exact HB.out)⟩
          · rw [if_neg c13] at H
            exact absurd H (by simp)
        · rw [if_neg c12] at H
          have c12b0 : decide (0 < (x0_1.size : Int)) = false := decide_eq_false c12
          have c12b1 : decide (0 < x0_1.size) = false := decide_eq_false (by omega)
          clear c12
          obtain rfl := Option.some.inj H
          go_wp2
          go_ret
          exact ⟨_, by first | rfl | (simp [errW_none, errW_some] <;> rfl) | (simp [*, errW_none, errW_some] <;> rfl), by (with_reducible repeat (first | apply Kd.R_alloc | apply Kd.R_drewN | apply Kd.R_drew)); exact HO_5.out, by repeat (first | (with_reducible first | exact HB.out | apply below_alloc | apply pw_below_drewN | apply below_drew1) | exact HB.out)⟩

/-! ### spec_l03Pair: function 128 -/
def spec_l03Pair.f (a0 : Int) (a1 : Int) : Option (Int) := some ((wrap64 ((wrap64 ((Int.tmod (wrap64 ((Int.tmod a1 65536) + 65536)) 65536) * 65536)) + (Int.tmod (wrap64 ((Int.tmod a0 65536) + 65536)) 65536))) % 4294967296)
set_option maxHeartbeats 8000000 in
set_option maxRecDepth 100000 in
theorem spec_l03Pair.calls (a0 : Int) (a1 : Int) (r : Int) (w : World) (h : spec_l03Pair.f a0 a1 = some r) :
    Calls Tryd.prog 128 #[.int .i64 a0, .int .i64 a1] w fun e w' => e = .returned (.int .u32 r) ∧ Drawn0 w w' := by
  have H : (some ((wrap64 ((wrap64 ((Int.tmod (wrap64 ((Int.tmod a1 65536) + 65536)) 65536) * 65536)) + (Int.tmod (wrap64 ((Int.tmod a0 65536) + 65536)) 65536))) % 4294967296)) = some r := h
  clear h
  obtain rfl := Option.some.inj H
  go_enter Tryd.func128, Tryd.ntmps128
  go_wp2
  go_ret
  exact ⟨by first | rfl | (simp; done) | (simp [*]; done), by repeat (first | exact Drawn0.refl _ | apply Drawn0.step)⟩

/-! ### spec_WeakOf: function 73 -/
def spec_WeakOf.l0 : Nat → ByteArray → Int → Int → Int → Option (Int)
  | 0, _, _, _, _ => none
  | k + 1, x0, x3, x4, x5 => if x5 < (x0.size : Int) then (if 0 ≤ x5 then (spec_WeakOf.l0 k x0 (wrap64 (x3 + (wrap64 (bt x0 x5)))) (wrap64 (x4 + (wrap64 ((wrap64 ((x0.size : Int) - x5)) * (wrap64 (bt x0 x5)))))) (wrap64 (x5 + 1))) else (none)) else ((spec_l03Pair.f x3 x4).bind fun t110 => (some t110))
def spec_WeakOf.f (k : Nat) (a0 : ByteArray) : Option (Int) := if (a0.size : Int) > 20000 then (some 0) else (spec_WeakOf.l0 k a0 0 0 0)
theorem spec_WeakOf.mono_l : ∀ k, (∀ y0 y1 y2 y3, LeO (spec_WeakOf.l0 k y0 y1 y2 y3) (spec_WeakOf.l0 (k + 1) y0 y1 y2 y3))
  | 0 => fun _ _ _ _ r h => by simp [spec_WeakOf.l0] at h
  | k + 1 => by
    have ih0 := spec_WeakOf.mono_l k
    · intro y0 y1 y2 y3
      unfold spec_WeakOf.l0
      repeat' first
      | (with_reducible exact ih0 _ _ _ _)
      | (with_reducible exact LeO.refl _)
      | (with_reducible exact LeO.none _)
      | (with_reducible refine LeO.ite ?_ ?_)
      | (with_reducible refine LeO.bind ?_ (fun _ => ?_))
      | exact ih0 _ _ _ _
      | exact LeO.none _
      | refine LeO.ite ?_ ?_
      | refine LeO.bind ?_ (fun _ => ?_)
theorem spec_WeakOf.mono : ∀ a0 k, LeO (spec_WeakOf.f k a0) (spec_WeakOf.f (k + 1) a0) := by
  intro a0 k
  have ih0 := spec_WeakOf.mono_l k
  unfold spec_WeakOf.f
  repeat' first
      | (with_reducible exact ih0 _ _ _ _)
      | (with_reducible exact LeO.refl _)
      | (with_reducible exact LeO.none _)
      | (with_reducible refine LeO.ite ?_ ?_)
      | (with_reducible refine LeO.bind ?_ (fun _ => ?_))
      | exact ih0 _ _ _ _
      | exact LeO.none _
      | refine LeO.ite ?_ ?_
      | refine LeO.bind ?_ (fun _ => ?_)
set_option maxHeartbeats 8000000 in
set_option maxRecDepth 100000 in
theorem spec_WeakOf.calls (k : Nat) (a0 : ByteArray) (r : Int) (w : World) (h : spec_WeakOf.f k a0 = some r) :
    Calls Tryd.prog 73 #[.string a0] w fun e w' => e = .returned (.int .u32 r) ∧ Drawn0 w w' := by
  have H : (if (a0.size : Int) > 20000 then (some 0) else (spec_WeakOf.l0 k a0 0 0 0)) = some r := h
  clear h
  by_cases c2 : (a0.size : Int) > 20000
  · rw [if_pos c2] at H
    have c2b0 : decide (20000 < (a0.size : Int)) = true := decide_eq_true c2
    have c2b1 : decide (20000 < a0.size) = true := decide_eq_true (by omega)
    clear c2
    obtain rfl := Option.some.inj H
    go_enter Tryd.func73, Tryd.ntmps73
    go_wp2
    go_ret
    exact ⟨by first | rfl | (simp; done) | (simp [*]; done), by repeat (first | exact Drawn0.refl _ | apply Drawn0.step)⟩
  · rw [if_neg c2] at H
    have c2b0 : decide (20000 < (a0.size : Int)) = false := decide_eq_false c2
    have c2b1 : decide (20000 < a0.size) = false := decide_eq_false (by omega)
    clear c2
    have H' := Aside0.mk H
    clear H
    go_enter Tryd.func73, Tryd.ntmps73
    go_wp2
    go_loopg [3, 4, 5] k (fun kq v3 v4 v5 w' => ∃ (x3_1 : Int) (x4_1 : Int) (x5_1 : Int), v3 = .int .i64 x3_1 ∧ v4 = .int .i64 x4_1 ∧ v5 = .int .i64 x5_1 ∧ Aside0 (spec_WeakOf.l0 kq a0 x3_1 x4_1 x5_1 = some r) ∧ Aside0 (kq ≤ k) ∧ Drawn0 w w')
    case atStart => exact ⟨(0), (0), (0), (by first | rfl | (simp; done) | (simp [*]; done)), (by first | rfl | (simp; done) | (simp [*]; done)), (by first | rfl | (simp; done) | (simp [*]; done)), H', ⟨Nat.le_refl _⟩, by repeat (first | exact Drawn0.refl _ | apply Drawn0.step)⟩
    case round =>
      clear H'
      try clear c2
      try clear c2b0
      try clear c2b1
      try clear p2
      obtain ⟨x3_1, x4_1, x5_1, rfl, rfl, rfl, HA, HK1, ⟨m1, rfl⟩⟩ := hrel
      cases gk with
      | zero => exact absurd HA.out (by simp [spec_WeakOf.l0])
      | succ k1 =>
        have H := HA.out
        clear HA
        simp only [spec_WeakOf.l0] at H
        by_cases c3 : x5_1 < (a0.size : Int)
        · rw [if_pos c3] at H
          have c3b0 : decide (x5_1 < (a0.size : Int)) = true := decide_eq_true c3
          clear c3
          by_cases c4 : 0 ≤ x5_1
          · rw [if_pos c4] at H
            have c4b0 : decide (0 ≤ x5_1) = true := decide_eq_true c4
            clear c4
            have H' := Aside0.mk H
            clear H
            have p5 : 0 ≤ (x5_1 : Int) := of_decide_eq_true (by first | (with_reducible assumption) | assumption)
            have q5 : x5_1 < (a0.size : Int) := of_decide_eq_true (by first | (with_reducible assumption) | assumption)
            have hx5 := bt_at a0 x5_1
            replace p5 := eq_true p5
            replace q5 := eq_true q5
            have p6 : 0 ≤ (x5_1 : Int) := of_decide_eq_true (by first | (with_reducible assumption) | assumption)
            have q6 : x5_1 < (a0.size : Int) := of_decide_eq_true (by first | (with_reducible assumption) | assumption)
            have hx6 := bt_at a0 x5_1
            replace p6 := eq_true p6
            replace q6 := eq_true q6
            go_wp2
            go_roundg k1
            case measure => have := HK1.out; omega
            case rel => exact ⟨(wrap64 (x3_1 + (wrap64 (bt a0 x5_1)))), (wrap64 (x4_1 + (wrap64 ((wrap64 ((a0.size : Int) - x5_1)) * (wrap64 (bt a0 x5_1)))))), (wrap64 (x5_1 + 1)), (by first | rfl | (simp; done) | (simp [*]; done)), (by first | rfl | (simp; done) | (simp [*]; done)), (by first | rfl | (simp; done) | (simp [*]; done)), H', ⟨by have := HK1.out; omega⟩, by repeat (first | exact Drawn0.refl _ | apply Drawn0.step)⟩
          · rw [if_neg c4] at H
            exact absurd H (by simp)
        · rw [if_neg c3] at H
          have c3b0 : decide (x5_1 < (a0.size : Int)) = false := decide_eq_false c3
          clear c3
          replace H := Option.bind_eq_some_iff.mp H
          obtain ⟨t110, A70, H⟩ := H
          replace H : (some t110) = some r := H
          have A7 := Aside0.mk A70
          clear A70
          obtain rfl := Option.some.inj H
          go_wp2_with (first | ((with_reducible refine gate_callee (f := 128) rfl ?_); refine goesL_ (some 34) rfl rfl Tryd.func128 (by kernel_rfl) rfl #[.int .i64 x3_1, .int .i64 x4_1] rfl (by (try simp only [List.map_toArray, List.map_cons, List.map_nil]); first | done | rfl | (simp only [List.length_drop, List.length_take]; rfl)) ?_; (with_reducible refine (spec_l03Pair.calls x3_1 x4_1 t110 _ A7.out).mono ?_); rintro e w' ⟨rfl, ⟨nd, rfl⟩⟩; refine ⟨_, rfl, ?_⟩))
          go_ret
          exact ⟨by first | rfl | (simp; done) | (simp [*]; done), by repeat (first | exact Drawn0.refl _ | apply Drawn0.step)⟩

/-! ### spec_PadStrong: function 114 (told by hand) -/
set_option maxHeartbeats 4000000 in
set_option maxRecDepth 100000 in
theorem spec_PadStrong.calls' (s : ByteArray) (w : World) (hs : s.size ≤ 20000) :
    Calls Tryd.prog 114 #[.string s] w fun e w' => (∃ v, e = .returned v ∧ At.T 5 w' w.heap.size v ((XS.padRow s (XS.padK s.size) ++ XS.le 8 (8 * s.size)).map fun x => .int .u8 x)) ∧ Below w.heap.size w w' := by
  have HSZ := Aside0.mk (show s.size ≤ maxLen from by simp only [maxLen]; omega)
  have HSs := Aside0.mk hs
  have h20 : (s.size : Int) ≤ 20000 := by omega
  clear hs
  go_enter Tryd.func114, Tryd.ntmps114
  go_wp2_with (first | ((with_reducible refine gate_dst (N := 11) rfl ?_); refine At.T_conv w.heap.size 5 rfl (N := 11) rfl 9 44 _ rfl s rfl Tryd.underlying9 Tryd.underlying44 Tryd.underlying5 HSZ.out (Below.refl _ _) (Nat.le_refl _) ?_; intro v6 w6 hT hb; rw [At.bytes_vals] at hT; obtain ⟨g6, c6, hv6, _⟩ := At.T_cell hT; rw [List.length_map] at hv6; subst hv6; have HT6 := Aside0.mk hT; have HB6 := Aside0.mk hb; clear hT hb) | ((with_reducible refine gate_builtin (b := .append) (xs := #[.tmp 11, .tmp 12]) rfl ?_); at_builtin; refine At.T_append w.heap.size rfl (.tmp 11) (.tmp 12) 44 5 rfl Tryd.underlying44 (by kernel_rfl) _ ((bytesOf s).map fun x => .int .u8 x) [.int .u8 128] rfl rfl (by intro u hu; obtain rfl := List.mem_singleton.1 hu; rfl) HT6.out HB6.out HB6.out.size ?hl ?_; (case hl => rw [List.length_map]; simp only [bytesOf_length, XS.padRow_length, List.length_append, XS.le_length, List.length_singleton]; have := HSs.out; have := XS.padK_lt s.size; omega); intro vA wA hT hb))
  have HTa := Aside0.mk (show At.T 5 wA w.heap.size vA ((XS.padRow s 0).map fun x => .int .u8 x) by simpa [XS.padRow] using hT)
  have HBa := Aside0.mk hb
  clear hT hb HT6 HB6
  go_loopw [3] (fun v3 wr => ∃ j : Nat, j ≤ XS.padK s.size ∧ Aside0 (At.T 5 wr w.heap.size v3 ((XS.padRow s j).map fun x => .int .u8 x)) ∧ Aside0 (Below w.heap.size w wr)) (fun v3 _ => s.size + 1 + XS.padK s.size - At.slen v3)
  case atStart => exact ⟨0, Nat.zero_le _, HTa, HBa⟩
  case round =>
    clear HTa HBa
    obtain ⟨j, hj, HTx, HBx⟩ := hrel
    obtain ⟨gx, cx, hvx, _⟩ := At.T_cell HTx.out
    obtain ⟨L, hL⟩ : ∃ L, L = s.size + 1 + j := ⟨_, rfl⟩
    rw [List.length_map, XS.padRow_length, ← hL] at hvx
    subst hvx
    have HL := Aside0.mk hL
    clear hL
    by_cases hlt : j < XS.padK s.size
    · have hne : ((L : Int) % 64 != 56) = true := by rw [bne_iff_ne]; have := XS.padK_ne s.size j hlt; have := HL.out; omega
      go_wp2_with (first | ((with_reducible refine gate_builtin (b := .append) (xs := #[.tmp 18, .tmp 19]) rfl ?_); at_builtin; refine At.T_append w.heap.size rfl (.tmp 18) (.tmp 19) 44 5 rfl Tryd.underlying44 (by kernel_rfl) _ ((XS.padRow s j).map fun x => .int .u8 x) [.int .u8 0] rfl rfl (by intro u hu; obtain rfl := List.mem_singleton.1 hu; rfl) HTx.out HBx.out HBx.out.size ?hl ?_; (case hl => rw [List.length_map]; simp only [bytesOf_length, XS.padRow_length, List.length_append, XS.le_length, List.length_singleton]; have := HSs.out; have := XS.padK_lt s.size; omega); intro vA wA hT hb))
      have hT' : At.T 5 wA w.heap.size vA ((XS.padRow s (j + 1)).map fun x => .int .u8 x) := by rw [← XS.padRow_snoc, List.map_append]; exact hT
      have hsl := At.T_slen hT'
      rw [List.length_map, XS.padRow_length] at hsl
      have HSl := Aside0.mk hsl
      have HTn := Aside0.mk hT'
      have HBn := Aside0.mk hb
      clear hT hT' hsl hb hne
      go_roundw
      case rel => exact ⟨j + 1, hlt, HTn, HBn⟩
      case measure => rw [HSl.out]; show _ < s.size + 1 + XS.padK s.size - L; have := HL.out; omega
    · obtain rfl : j = XS.padK s.size := by omega
      have hne : ((L : Int) % 64 != 56) = false := by rw [bne_eq_false_iff_eq]; have := XS.padK_eq s.size; have := HL.out; omega
      go_wp2
      clear hne
      rename_i wo
      go_loopw [3, 4, 5] (fun v3 v4 v5 ws => ∃ i b : Nat, i ≤ 8 ∧ v5 = .int .i64 i ∧ v4 = .int .i64 b ∧ b ≤ 160000 ∧ Aside0 (b = 8 * s.size / 256 ^ i) ∧ Aside0 (At.T 5 ws w.heap.size v3 ((XS.padRow s (XS.padK s.size) ++ XS.le i (8 * s.size)).map fun x => .int .u8 x)) ∧ Aside0 (Below w.heap.size w ws)) (fun _ _ v5 _ => 8 - (intOf v5).toNat)
      case atStart => exact ⟨0, 8 * s.size, by decide, rfl, by go_num, by have := HSs.out; omega, ⟨by simp⟩, by simpa [XS.le] using HTx, HBx⟩
      case round =>
        clear HTx HBx
        obtain ⟨i, b, hi, rfl, rfl, hb8, HBb, HTy, HBy⟩ := hrel
        obtain ⟨gx, cx, hvx, _⟩ := At.T_cell HTy.out
        obtain ⟨L, hL⟩ : ∃ L, L = s.size + 1 + XS.padK s.size + i := ⟨_, rfl⟩
        rw [List.length_map, List.length_append, XS.padRow_length, XS.le_length, ← hL] at hvx
        subst hvx
        clear hL
        by_cases hlt : i < 8
        · go_wp2_with (first | ((with_reducible refine gate_builtin (b := .append) (xs := #[.tmp 28, .tmp 32]) rfl ?_); at_builtin; refine At.T_append w.heap.size rfl (.tmp 28) (.tmp 32) 44 5 rfl Tryd.underlying44 (by kernel_rfl) _ ((XS.padRow s (XS.padK s.size) ++ XS.le i (8 * s.size)).map fun x => .int .u8 x) [.int .u8 ((b : Int) % 256)] rfl rfl (by intro u hu; obtain rfl := List.mem_singleton.1 hu; rfl) HTy.out HBy.out HBy.out.size ?hl ?_; (case hl => rw [List.length_map]; simp only [bytesOf_length, XS.padRow_length, List.length_append, XS.le_length, List.length_singleton]; have := HSs.out; have := XS.padK_lt s.size; omega); intro vA wA hT hb))
          have e : (b : Int) % 256 = ((8 * s.size / 256 ^ i % 256 : Nat) : Int) := by rw [HBb.out]; rfl
          rw [e] at hT
          have hT' : At.T 5 wA w.heap.size vA ((XS.padRow s (XS.padK s.size) ++ XS.le (i + 1) (8 * s.size)).map fun x => .int .u8 x) := by
            rw [show XS.le (i + 1) (8 * s.size) = XS.le i (8 * s.size) ++ [((8 * s.size / 256 ^ i % 256 : Nat) : Int)] from rfl, ← List.append_assoc, List.map_append]
            exact hT
          have HTn := Aside0.mk hT'
          have HBn := Aside0.mk hb
          have HBc := Aside0.mk (show b / 256 = 8 * s.size / 256 ^ (i + 1) by rw [HBb.out, Nat.div_div_eq_div_mul, Nat.pow_succ])
          clear hT hT' hb e
          go_roundw
          case rel => exact ⟨i + 1, b / 256, hlt, by go_num, by go_num, by omega, HBc, HTn, HBn⟩
          case measure => simp [intOf]; omega
        · obtain rfl : i = 8 := by omega
          go_wp2
          go_ret
          exact ⟨⟨_, rfl, HTy.out⟩, HBy.out⟩


/-! ### spec_GetWord: function 161 -/
def spec_GetWord.f (l0 : List Int) : Option (Int × Bool) := if (l0.length : Int) = 4 then (if 0 < (l0.length : Int) then (if 1 < (l0.length : Int) then (if 2 < (l0.length : Int) then (if 3 < (l0.length : Int) then (some ((wrap64 ((wrap64 ((wrap64 ((wrap64 (rd l0 0)) + (wrap64 (256 * (wrap64 (rd l0 1)))))) + (wrap64 (65536 * (wrap64 (rd l0 2)))))) + (wrap64 (16777216 * (wrap64 (rd l0 3)))))) % 4294967296, true)) else (none)) else (none)) else (none)) else (none)) else (some (0, false))
set_option maxHeartbeats 8000000 in
set_option maxRecDepth 100000 in
theorem spec_GetWord.calls (A0 : Option Addr) (c0 : Nat) (l0 : List Int) (r1 : Int) (r2 : Bool) (w : World) (hr0 : Kd.C (Kd.int .u8) w A0 l0.length l0) (hc0 : l0.length ≤ c0) (h : spec_GetWord.f l0 = some (r1, r2)) :
    Calls Tryd.prog 161 #[.slice A0 l0.length c0] w fun e w' => e = .returned (.tuple #[.int .u32 r1, .bool r2]) ∧ Drawn0 w w' := by
  have HR0 := Aside0.mk hr0
  have HC0 := Aside0.mk hc0
  clear hr0 hc0
  have H : (if (l0.length : Int) = 4 then (if 0 < (l0.length : Int) then (if 1 < (l0.length : Int) then (if 2 < (l0.length : Int) then (if 3 < (l0.length : Int) then (some ((wrap64 ((wrap64 ((wrap64 ((wrap64 (rd l0 0)) + (wrap64 (256 * (wrap64 (rd l0 1)))))) + (wrap64 (65536 * (wrap64 (rd l0 2)))))) + (wrap64 (16777216 * (wrap64 (rd l0 3)))))) % 4294967296, true)) else (none)) else (none)) else (none)) else (none)) else (some (0, false))) = some (r1, r2) := h
  clear h
  by_cases c2 : (l0.length : Int) = 4
  · rw [if_pos c2] at H
    have c2b0 : ((l0.length : Int) == 4) = true := beq_iff_eq.mpr c2
    have c2b1 : ((l0.length : Int) != 4) = false := bne_eq_false_iff_eq.mpr c2
    clear c2
    by_cases c3 : 0 < (l0.length : Int)
    · rw [if_pos c3] at H
      have c3b0 : decide (0 < (l0.length : Int)) = true := decide_eq_true c3
      have c3b1 : decide (0 < l0.length) = true := decide_eq_true (by omega)
      clear c3
      by_cases c4 : 1 < (l0.length : Int)
      · rw [if_pos c4] at H
        have c4b0 : decide (1 < (l0.length : Int)) = true := decide_eq_true c4
        have c4b1 : decide (1 < l0.length) = true := decide_eq_true (by omega)
        clear c4
        by_cases c5 : 2 < (l0.length : Int)
        · rw [if_pos c5] at H
          have c5b0 : decide (2 < (l0.length : Int)) = true := decide_eq_true c5
          have c5b1 : decide (2 < l0.length) = true := decide_eq_true (by omega)
          clear c5
          by_cases c6 : 3 < (l0.length : Int)
          · rw [if_pos c6] at H
            have c6b0 : decide (3 < (l0.length : Int)) = true := decide_eq_true c6
            have c6b1 : decide (3 < l0.length) = true := decide_eq_true (by omega)
            clear c6
            simp only [Option.some.injEq, Prod.mk.injEq] at H
            obtain ⟨rfl, rfl⟩ := H
            have p111 : 0 ≤ (0 : Int) := (by omega)
            have q111 : 0 < (l0.length : Int) := of_decide_eq_true (by first | (with_reducible assumption) | assumption)
            obtain ⟨ad111, e111, hx111_0⟩ := Kd.at_int HR0.out 0 p111 q111
            cases e111
            have qi111 : (0 < l0.length) = True := eq_true (by omega)
            (try rw [show ((0 : Int)).toNat = 0 from rfl] at hx111_0)
            (try rw [Addr.add_zero'] at hx111_0)
            replace p111 := eq_true p111
            replace q111 := eq_true q111
            have p112 : 0 ≤ (1 : Int) := (by omega)
            have q112 : 1 < (l0.length : Int) := of_decide_eq_true (by first | (with_reducible assumption) | assumption)
            obtain ⟨ad112, e112, hx112_0⟩ := Kd.at_int HR0.out 1 p112 q112
            obtain rfl : ad111 = ad112 := (by injection e112)
            (try simp only [show (1 : Int).toNat = 1 from rfl, Nat.reduceMul, Nat.reduceEqDiff, Go.Addr.add, ↓reduceIte] at hx112_0)
            have qi112 : (1 < l0.length) = True := eq_true (by omega)
            (try rw [show ((1 : Int)).toNat = 1 from rfl] at hx112_0)
            replace p112 := eq_true p112
            replace q112 := eq_true q112
            have p113 : 0 ≤ (2 : Int) := (by omega)
            have q113 : 2 < (l0.length : Int) := of_decide_eq_true (by first | (with_reducible assumption) | assumption)
            obtain ⟨ad113, e113, hx113_0⟩ := Kd.at_int HR0.out 2 p113 q113
            obtain rfl : ad111 = ad113 := (by injection e113)
            (try simp only [show (2 : Int).toNat = 2 from rfl, Nat.reduceMul, Nat.reduceEqDiff, Go.Addr.add, ↓reduceIte] at hx113_0)
            have qi113 : (2 < l0.length) = True := eq_true (by omega)
            (try rw [show ((2 : Int)).toNat = 2 from rfl] at hx113_0)
            replace p113 := eq_true p113
            replace q113 := eq_true q113
            have p114 : 0 ≤ (3 : Int) := (by omega)
            have q114 : 3 < (l0.length : Int) := of_decide_eq_true (by first | (with_reducible assumption) | assumption)
            obtain ⟨ad114, e114, hx114_0⟩ := Kd.at_int HR0.out 3 p114 q114
            obtain rfl : ad111 = ad114 := (by injection e114)
            (try simp only [show (3 : Int).toNat = 3 from rfl, Nat.reduceMul, Nat.reduceEqDiff, Go.Addr.add, ↓reduceIte] at hx114_0)
            have qi114 : (3 < l0.length) = True := eq_true (by omega)
            (try rw [show ((3 : Int)).toNat = 3 from rfl] at hx114_0)
            replace p114 := eq_true p114
            replace q114 := eq_true q114
            go_enter Tryd.func161, Tryd.ntmps161
            go_wp2
            repeat (go_quiet (fail); try go_wp2)
            go_ret2
            exact ⟨by first | rfl | (simp; done) | (simp [*]; done), by repeat (first | exact Drawn0.refl _ | apply Drawn0.step)⟩
          · rw [if_neg c6] at H
            exact absurd H (by simp)
        · rw [if_neg c5] at H
          exact absurd H (by simp)
      · rw [if_neg c4] at H
        exact absurd H (by simp)
    · rw [if_neg c3] at H
      exact absurd H (by simp)
  · rw [if_neg c2] at H
    have c2b0 : ((l0.length : Int) == 4) = false := beq_eq_false_iff_ne.mpr c2
    have c2b1 : ((l0.length : Int) != 4) = true := bne_iff_ne.mpr c2
    simp only [Option.some.injEq, Prod.mk.injEq] at H
    obtain ⟨rfl, rfl⟩ := H
    go_enter Tryd.func161, Tryd.ntmps161
    go_wp2
    repeat (go_quiet (fail); try go_wp2)
    go_ret2
    exact ⟨by first | rfl | (simp; done) | (simp [*]; done), by repeat (first | exact Drawn0.refl _ | apply Drawn0.step)⟩

/-! ### spec_l04K: function 162 -/
def spec_l04K.f (a0 : Int) : Option (Int) := (some (([3614090360, 3905402710, 606105819, 3250441966, 4118548399, 1200080426, 2821735955, 4249261313, 1770035416, 2336552879, 4294925233, 2304563134, 1804603682, 4254626195, 2792965006, 1236535329, 4129170786, 3225465664, 643717713, 3921069994, 3593408605, 38016083, 3634488961, 3889429448, 568446438, 3275163606, 4107603335, 1163531501, 2850285829, 4243563512, 1735328473, 2368359562, 4294588738, 2272392833, 1839030562, 4259657740, 2763975236, 1272893353, 4139469664, 3200236656, 681279174, 3936430074, 3572445317, 76029189, 3654602809, 3873151461, 530742520, 3299628645, 4096336452, 1126891415, 2878612391, 4237533241, 1700485571, 2399980690, 4293915773, 2240044497, 1873313359, 4264355552, 2734768916, 1309151649, 4149444226, 3174756917, 718787259, 3951481745] : List Int) : List Int)).bind fun y115 => (if 0 ≤ a0 then (if a0 < (y115.length : Int) then (some (rd y115 a0)) else (none)) else (none))
set_option maxHeartbeats 8000000 in
set_option maxRecDepth 100000 in
theorem spec_l04K.calls (a0 : Int) (r : Int) (w : World) (h : spec_l04K.f a0 = some r) :
    Calls Tryd.prog 162 #[.int .i64 a0] w fun e w' => e = .returned (.int .u32 r) ∧ Below w.heap.size w w' := by
  have HB := Aside0.mk (Below.refl w.heap.size w)
  have H : ((some (([3614090360, 3905402710, 606105819, 3250441966, 4118548399, 1200080426, 2821735955, 4249261313, 1770035416, 2336552879, 4294925233, 2304563134, 1804603682, 4254626195, 2792965006, 1236535329, 4129170786, 3225465664, 643717713, 3921069994, 3593408605, 38016083, 3634488961, 3889429448, 568446438, 3275163606, 4107603335, 1163531501, 2850285829, 4243563512, 1735328473, 2368359562, 4294588738, 2272392833, 1839030562, 4259657740, 2763975236, 1272893353, 4139469664, 3200236656, 681279174, 3936430074, 3572445317, 76029189, 3654602809, 3873151461, 530742520, 3299628645, 4096336452, 1126891415, 2878612391, 4237533241, 1700485571, 2399980690, 4293915773, 2240044497, 1873313359, 4264355552, 2734768916, 1309151649, 4149444226, 3174756917, 718787259, 3951481745] : List Int) : List Int)).bind fun y115 => (if 0 ≤ a0 then (if a0 < (y115.length : Int) then (some (rd y115 a0)) else (none)) else (none))) = some r := h
  clear h
  obtain ⟨y115, hy115⟩ : ∃ y_ : List Int, y_ = (([3614090360, 3905402710, 606105819, 3250441966, 4118548399, 1200080426, 2821735955, 4249261313, 1770035416, 2336552879, 4294925233, 2304563134, 1804603682, 4254626195, 2792965006, 1236535329, 4129170786, 3225465664, 643717713, 3921069994, 3593408605, 38016083, 3634488961, 3889429448, 568446438, 3275163606, 4107603335, 1163531501, 2850285829, 4243563512, 1735328473, 2368359562, 4294588738, 2272392833, 1839030562, 4259657740, 2763975236, 1272893353, 4139469664, 3200236656, 681279174, 3936430074, 3572445317, 76029189, 3654602809, 3873151461, 530742520, 3299628645, 4096336452, 1126891415, 2878612391, 4237533241, 1700485571, 2399980690, 4293915773, 2240044497, 1873313359, 4264355552, 2734768916, 1309151649, 4149444226, 3174756917, 718787259, 3951481745] : List Int)) := ⟨_, rfl⟩
  replace H : (if 0 ≤ a0 then (if a0 < (y115.length : Int) then (some (rd y115 a0)) else (none)) else (none)) = some r := by first | (rw [hy115]; with_reducible exact H) | (have H2_ := (Option.bind_some _ _).symm.trans H; rw [hy115]; with_reducible exact H2_) | (have H2_ := (Option.bind_some _ _).symm.trans H; with_reducible exact H2_) | with_reducible exact H | (rw [hy115]; exact H) | exact H
  have Ny115 := Aside0.mk hy115
  clear hy115
  by_cases c2 : 0 ≤ a0
  · rw [if_pos c2] at H
    have c2b0 : decide (0 ≤ a0) = true := decide_eq_true c2
    clear c2
    by_cases c3 : a0 < (y115.length : Int)
    · rw [if_pos c3] at H
      have c3b0 : decide (a0 < (y115.length : Int)) = true := decide_eq_true c3
      clear c3
      obtain rfl := Option.some.inj H
      go_enter Tryd.func162, Tryd.ntmps162
      go_wp2_with (first | ((with_reducible refine gate_dst (N := 4) rfl ?_); refine Kd.R_lit (Kd.int .u32) _ 22 ?hg (N := 4) ?hd (xs := ([3614090360, 3905402710, 606105819, 3250441966, 4118548399, 1200080426, 2821735955, 4249261313, 1770035416, 2336552879, 4294925233, 2304563134, 1804603682, 4254626195, 2792965006, 1236535329, 4129170786, 3225465664, 643717713, 3921069994, 3593408605, 38016083, 3634488961, 3889429448, 568446438, 3275163606, 4107603335, 1163531501, 2850285829, 4243563512, 1735328473, 2368359562, 4294588738, 2272392833, 1839030562, 4259657740, 2763975236, 1272893353, 4139469664, 3200236656, 681279174, 3936430074, 3572445317, 76029189, 3654602809, 3873151461, 530742520, 3299628645, 4096336452, 1126891415, 2878612391, 4237533241, 1700485571, 2399980690, 4293915773, 2240044497, 1873313359, 4264355552, 2734768916, 1309151649, 4149444226, 3174756917, 718787259, 3951481745] : List Int)) (inner := [.int .u32 3614090360, .int .u32 3905402710, .int .u32 606105819, .int .u32 3250441966, .int .u32 4118548399, .int .u32 1200080426, .int .u32 2821735955, .int .u32 4249261313, .int .u32 1770035416, .int .u32 2336552879, .int .u32 4294925233, .int .u32 2304563134, .int .u32 1804603682, .int .u32 4254626195, .int .u32 2792965006, .int .u32 1236535329, .int .u32 4129170786, .int .u32 3225465664, .int .u32 643717713, .int .u32 3921069994, .int .u32 3593408605, .int .u32 38016083, .int .u32 3634488961, .int .u32 3889429448, .int .u32 568446438, .int .u32 3275163606, .int .u32 4107603335, .int .u32 1163531501, .int .u32 2850285829, .int .u32 4243563512, .int .u32 1735328473, .int .u32 2368359562, .int .u32 4294588738, .int .u32 2272392833, .int .u32 1839030562, .int .u32 4259657740, .int .u32 2763975236, .int .u32 1272893353, .int .u32 4139469664, .int .u32 3200236656, .int .u32 681279174, .int .u32 3936430074, .int .u32 3572445317, .int .u32 76029189, .int .u32 3654602809, .int .u32 3873151461, .int .u32 530742520, .int .u32 3299628645, .int .u32 4096336452, .int .u32 1126891415, .int .u32 2878612391, .int .u32 4237533241, .int .u32 1700485571, .int .u32 2399980690, .int .u32 4293915773, .int .u32 2240044497, .int .u32 1873313359, .int .u32 4264355552, .int .u32 2734768916, .int .u32 1309151649, .int .u32 4149444226, .int .u32 3174756917, .int .u32 718787259, .int .u32 3951481745]) (ok := fun _ => True) (okp := fun _ => True) ?hr ?hp (fun _ hk => hk) trivial (Below.refl _ _) (Nat.le_refl _) (by simp) ?_; (case hd => rfl); (case hg => rfl); (case hr => first | (go_simp; done) | (go_simp; rfl)); (case hp => exact (Reps.one (show Kd.M (Kd.int .u32) _ _ _ 3614090360 [.int .u32 3614090360] from rfl) (Reps.one (show Kd.M (Kd.int .u32) _ _ _ 3905402710 [.int .u32 3905402710] from rfl) (Reps.one (show Kd.M (Kd.int .u32) _ _ _ 606105819 [.int .u32 606105819] from rfl) (Reps.one (show Kd.M (Kd.int .u32) _ _ _ 3250441966 [.int .u32 3250441966] from rfl) (Reps.one (show Kd.M (Kd.int .u32) _ _ _ 4118548399 [.int .u32 4118548399] from rfl) (Reps.one (show Kd.M (Kd.int .u32) _ _ _ 1200080426 [.int .u32 1200080426] from rfl) (Reps.one (show Kd.M (Kd.int .u32) _ _ _ 2821735955 [.int .u32 2821735955] from rfl) (Reps.one (show Kd.M (Kd.int .u32) _ _ _ 4249261313 [.int .u32 4249261313] from rfl) (Reps.one (show Kd.M (Kd.int .u32) _ _ _ 1770035416 [.int .u32 1770035416] from rfl) (Reps.one (show Kd.M (Kd.int .u32) _ _ _ 2336552879 [.int .u32 2336552879] from rfl) (Reps.one (show Kd.M (Kd.int .u32) _ _ _ 4294925233 [.int .u32 4294925233] from rfl) (Reps.one (show Kd.M (Kd.int .u32) _ _ _ 2304563134 [.int .u32 2304563134] from rfl) (Reps.one (show Kd.M (Kd.int .u32) _ _ _ 1804603682 [.int .u32 1804603682] from rfl) (Reps.one (show Kd.M (Kd.int .u32) _ _ _ 4254626195 [.int .u32 4254626195] from rfl) (Reps.one (show Kd.M (Kd.int .u32) _ _ _ 2792965006 [.int .u32 2792965006] from rfl) (Reps.one (show Kd.M (Kd.int .u32) _ _ _ 1236535329 [.int .u32 1236535329] from rfl) (Reps.one (show Kd.M (Kd.int .u32) _ _ _ 4129170786 [.int .u32 4129170786] from rfl) (Reps.one (show Kd.M (Kd.int .u32) _ _ _ 3225465664 [.int .u32 3225465664] from rfl) (Reps.one (show Kd.M (Kd.int .u32) _ _ _ 643717713 [.int .u32 643717713] from rfl) (Reps.one (show Kd.M (Kd.int .u32) _ _ _ 3921069994 [.int .u32 3921069994] from rfl) (Reps.one (show Kd.M (Kd.int .u32) _ _ _ 3593408605 [.int .u32 3593408605] from rfl) (Reps.one (show Kd.M (Kd.int .u32) _ _ _ 38016083 [.int .u32 38016083] from rfl) (Reps.one (show Kd.M (Kd.int .u32) _ _ _ 3634488961 [.int .u32 3634488961] from rfl) (Reps.one (show Kd.M (Kd.int .u32) _ _ _ 3889429448 [.int .u32 3889429448] from rfl) (Reps.one (show Kd.M (Kd.int .u32) _ _ _ 568446438 [.int .u32 568446438] from rfl) (Reps.one (show Kd.M (Kd.int .u32) _ _ _ 3275163606 [.int .u32 3275163606] from rfl) (Reps.one (show Kd.M (Kd.int .u32) _ _ _ 4107603335 [.int .u32 4107603335] from rfl) (Reps.one (show Kd.M (Kd.int .u32) _ _ _ 1163531501 [.int .u32 1163531501] from rfl) (Reps.one (show Kd.M (Kd.int .u32) _ _ _ 2850285829 [.int .u32 2850285829] from rfl) (Reps.one (show Kd.M (Kd.int .u32) _ _ _ 4243563512 [.int .u32 4243563512] from rfl) (Reps.one (show Kd.M (Kd.int .u32) _ _ _ 1735328473 [.int .u32 1735328473] from rfl) (Reps.one (show Kd.M (Kd.int .u32) _ _ _ 2368359562 [.int .u32 2368359562] from rfl) (Reps.one (show Kd.M (Kd.int .u32) _ _ _ 4294588738 [.int .u32 4294588738] from rfl) (Reps.one (show Kd.M (Kd.int .u32) _ _ _ 2272392833 [.int .u32 2272392833] from rfl) (Reps.one (show Kd.M (Kd.int .u32) _ _ _ 1839030562 [.int .u32 1839030562] from rfl) (Reps.one (show Kd.M (Kd.int .u32) _ _ _ 4259657740 [.int .u32 4259657740] from rfl) (Reps.one (show Kd.M (Kd.int .u32) _ _ _ 2763975236 [.int .u32 2763975236] from rfl) (Reps.one (show Kd.M (Kd.int .u32) _ _ _ 1272893353 [.int .u32 1272893353] from rfl) (Reps.one (show Kd.M (Kd.int .u32) _ _ _ 4139469664 [.int .u32 4139469664] from rfl) (Reps.one (show Kd.M (Kd.int .u32) _ _ _ 3200236656 [.int .u32 3200236656] from rfl) (Reps.one (show Kd.M (Kd.int .u32) _ _ _ 681279174 [.int .u32 681279174] from rfl) (Reps.one (show Kd.M (Kd.int .u32) _ _ _ 3936430074 [.int .u32 3936430074] from rfl) (Reps.one (show Kd.M (Kd.int .u32) _ _ _ 3572445317 [.int .u32 3572445317] from rfl) (Reps.one (show Kd.M (Kd.int .u32) _ _ _ 76029189 [.int .u32 76029189] from rfl) (Reps.one (show Kd.M (Kd.int .u32) _ _ _ 3654602809 [.int .u32 3654602809] from rfl) (Reps.one (show Kd.M (Kd.int .u32) _ _ _ 3873151461 [.int .u32 3873151461] from rfl) (Reps.one (show Kd.M (Kd.int .u32) _ _ _ 530742520 [.int .u32 530742520] from rfl) (Reps.one (show Kd.M (Kd.int .u32) _ _ _ 3299628645 [.int .u32 3299628645] from rfl) (Reps.one (show Kd.M (Kd.int .u32) _ _ _ 4096336452 [.int .u32 4096336452] from rfl) (Reps.one (show Kd.M (Kd.int .u32) _ _ _ 1126891415 [.int .u32 1126891415] from rfl) (Reps.one (show Kd.M (Kd.int .u32) _ _ _ 2878612391 [.int .u32 2878612391] from rfl) (Reps.one (show Kd.M (Kd.int .u32) _ _ _ 4237533241 [.int .u32 4237533241] from rfl) (Reps.one (show Kd.M (Kd.int .u32) _ _ _ 1700485571 [.int .u32 1700485571] from rfl) (Reps.one (show Kd.M (Kd.int .u32) _ _ _ 2399980690 [.int .u32 2399980690] from rfl) (Reps.one (show Kd.M (Kd.int .u32) _ _ _ 4293915773 [.int .u32 4293915773] from rfl) (Reps.one (show Kd.M (Kd.int .u32) _ _ _ 2240044497 [.int .u32 2240044497] from rfl) (Reps.one (show Kd.M (Kd.int .u32) _ _ _ 1873313359 [.int .u32 1873313359] from rfl) (Reps.one (show Kd.M (Kd.int .u32) _ _ _ 4264355552 [.int .u32 4264355552] from rfl) (Reps.one (show Kd.M (Kd.int .u32) _ _ _ 2734768916 [.int .u32 2734768916] from rfl) (Reps.one (show Kd.M (Kd.int .u32) _ _ _ 1309151649 [.int .u32 1309151649] from rfl) (Reps.one (show Kd.M (Kd.int .u32) _ _ _ 4149444226 [.int .u32 4149444226] from rfl) (Reps.one (show Kd.M (Kd.int .u32) _ _ _ 3174756917 [.int .u32 3174756917] from rfl) (Reps.one (show Kd.M (Kd.int .u32) _ _ _ 718787259 [.int .u32 718787259] from rfl) (Reps.one (show Kd.M (Kd.int .u32) _ _ _ 3951481745 [.int .u32 3951481745] from rfl) (Reps.none _ _)))))))))))))))))))))))))))))))))))))))))))))))))))))))))))))))))); intro v116 w4 ho5 hb hg_ hnew_; clear hg_ hnew_; (first | rw [← Ny115.out] at ho5 | (simp only [Int.reduceToNat] at ho5; rw [← Ny115.out] at ho5)); have n0_ := Aside0.mk (Kd.R_lower ho5 (below_size (by repeat (first | (with_reducible first | exact HB.out | apply below_alloc | apply pw_below_drewN | apply below_drew1) | exact HB.out)))); have n1_ := Aside0.mk (below_step (by repeat (first | (with_reducible first | exact HB.out | apply below_alloc | apply pw_below_drewN | apply below_drew1) | exact HB.out)) hb); clear HB; have HO117 := n0_; have HB := n1_; clear n0_ n1_; clear hb ho5; obtain ⟨Ao6, co6, eo6⟩ := Kd.R_slice HO117.out; subst eo6; have p118 : 0 ≤ (a0 : Int) := of_decide_eq_true (by first | (with_reducible assumption) | assumption); have q118 : a0 < (y115.length : Int) := of_decide_eq_true (by first | (with_reducible assumption) | assumption); obtain ⟨ad118, e118, hx118_0⟩ := Kd.at_int (Kd.R_reads' HO117.out).2.2 a0 p118 q118; cases e118; replace p118 := eq_true p118; replace q118 := eq_true q118))
      go_ret
      exact ⟨by first | rfl | (simp [errW_none, errW_some] <;> rfl) | (simp [*, errW_none, errW_some] <;> rfl), by repeat (first | (with_reducible first | exact HB.out | apply below_alloc | apply pw_below_drewN | apply below_drew1) | exact HB.out)⟩
    · rw [if_neg c3] at H
      exact absurd H (by simp)
  · rw [if_neg c2] at H
    exact absurd H (by simp)

/-! ### spec_l04S: function 163 -/
def spec_l04S.f (a0 : Int) : Option (Int) := (some (([7, 12, 17, 22, 5, 9, 14, 20, 4, 11, 16, 23, 6, 10, 15, 21] : List Int) : List Int)).bind fun y119 => (if 0 ≤ (wrap64 ((wrap64 (4 * (wrap64 (Int.tdiv a0 16)))) + (Int.tmod a0 4))) then (if (wrap64 ((wrap64 (4 * (wrap64 (Int.tdiv a0 16)))) + (Int.tmod a0 4))) < (y119.length : Int) then (some (rd y119 (wrap64 ((wrap64 (4 * (wrap64 (Int.tdiv a0 16)))) + (Int.tmod a0 4))))) else (none)) else (none))
set_option maxHeartbeats 8000000 in
set_option maxRecDepth 100000 in
theorem spec_l04S.calls (a0 : Int) (r : Int) (w : World) (h : spec_l04S.f a0 = some r) :
    Calls Tryd.prog 163 #[.int .i64 a0] w fun e w' => e = .returned (.int .i64 r) ∧ Below w.heap.size w w' := by
  have HB := Aside0.mk (Below.refl w.heap.size w)
  have H : ((some (([7, 12, 17, 22, 5, 9, 14, 20, 4, 11, 16, 23, 6, 10, 15, 21] : List Int) : List Int)).bind fun y119 => (if 0 ≤ (wrap64 ((wrap64 (4 * (wrap64 (Int.tdiv a0 16)))) + (Int.tmod a0 4))) then (if (wrap64 ((wrap64 (4 * (wrap64 (Int.tdiv a0 16)))) + (Int.tmod a0 4))) < (y119.length : Int) then (some (rd y119 (wrap64 ((wrap64 (4 * (wrap64 (Int.tdiv a0 16)))) + (Int.tmod a0 4))))) else (none)) else (none))) = some r := h
  clear h
  obtain ⟨y119, hy119⟩ : ∃ y_ : List Int, y_ = (([7, 12, 17, 22, 5, 9, 14, 20, 4, 11, 16, 23, 6, 10, 15, 21] : List Int)) := ⟨_, rfl⟩
  replace H : (if 0 ≤ (wrap64 ((wrap64 (4 * (wrap64 (Int.tdiv a0 16)))) + (Int.tmod a0 4))) then (if (wrap64 ((wrap64 (4 * (wrap64 (Int.tdiv a0 16)))) + (Int.tmod a0 4))) < (y119.length : Int) then (some (rd y119 (wrap64 ((wrap64 (4 * (wrap64 (Int.tdiv a0 16)))) + (Int.tmod a0 4))))) else (none)) else (none)) = some r := by first | (rw [hy119]; with_reducible exact H) | (have H2_ := (Option.bind_some _ _).symm.trans H; rw [hy119]; with_reducible exact H2_) | (have H2_ := (Option.bind_some _ _).symm.trans H; with_reducible exact H2_) | with_reducible exact H | (rw [hy119]; exact H) | exact H
  have Ny119 := Aside0.mk hy119
  clear hy119
  obtain ⟨ji2, hji2⟩ : ∃ j_ : Int, (wrap64 ((wrap64 (4 * (wrap64 (Int.tdiv a0 16)))) + (Int.tmod a0 4))) = j_ := ⟨_, rfl⟩
  replace H : (if 0 ≤ (ji2) then (if (ji2) < (y119.length : Int) then (some (rd y119 (ji2))) else (none)) else (none)) = some r := by first | (rw [hji2] at H; exact H) | (simp only [hji2] at H ⊢; exact H)
  have hji2w : (IntKind.i64.wrap ((wrap64 (4 * (wrap64 (Int.tdiv a0 16)))) + (Int.tmod a0 4))) = ji2 := (i64_w _).trans hji2
  by_cases c3 : 0 ≤ (ji2)
  · rw [if_pos c3] at H
    have c3b0 : decide (0 ≤ (ji2)) = true := decide_eq_true c3
    clear c3
    by_cases c4 : (ji2) < (y119.length : Int)
    · rw [if_pos c4] at H
      have c4b0 : decide ((ji2) < (y119.length : Int)) = true := decide_eq_true c4
      clear c4
      obtain rfl := Option.some.inj H
      go_enter Tryd.func163, Tryd.ntmps163
      go_wp2_with (first | ((with_reducible refine gate_dst (N := 4) rfl ?_); refine Kd.R_lit (Kd.int .i64) _ 3 ?hg (N := 4) ?hd (xs := ([7, 12, 17, 22, 5, 9, 14, 20, 4, 11, 16, 23, 6, 10, 15, 21] : List Int)) (inner := [.int .i64 7, .int .i64 12, .int .i64 17, .int .i64 22, .int .i64 5, .int .i64 9, .int .i64 14, .int .i64 20, .int .i64 4, .int .i64 11, .int .i64 16, .int .i64 23, .int .i64 6, .int .i64 10, .int .i64 15, .int .i64 21]) (ok := fun _ => True) (okp := fun _ => True) ?hr ?hp (fun _ hk => hk) trivial (Below.refl _ _) (Nat.le_refl _) (by simp) ?_; (case hd => rfl); (case hg => rfl); (case hr => first | (go_simp; done) | (go_simp; rfl)); (case hp => exact (Reps.one (show Kd.M (Kd.int .i64) _ _ _ 7 [.int .i64 7] from rfl) (Reps.one (show Kd.M (Kd.int .i64) _ _ _ 12 [.int .i64 12] from rfl) (Reps.one (show Kd.M (Kd.int .i64) _ _ _ 17 [.int .i64 17] from rfl) (Reps.one (show Kd.M (Kd.int .i64) _ _ _ 22 [.int .i64 22] from rfl) (Reps.one (show Kd.M (Kd.int .i64) _ _ _ 5 [.int .i64 5] from rfl) (Reps.one (show Kd.M (Kd.int .i64) _ _ _ 9 [.int .i64 9] from rfl) (Reps.one (show Kd.M (Kd.int .i64) _ _ _ 14 [.int .i64 14] from rfl) (Reps.one (show Kd.M (Kd.int .i64) _ _ _ 20 [.int .i64 20] from rfl) (Reps.one (show Kd.M (Kd.int .i64) _ _ _ 4 [.int .i64 4] from rfl) (Reps.one (show Kd.M (Kd.int .i64) _ _ _ 11 [.int .i64 11] from rfl) (Reps.one (show Kd.M (Kd.int .i64) _ _ _ 16 [.int .i64 16] from rfl) (Reps.one (show Kd.M (Kd.int .i64) _ _ _ 23 [.int .i64 23] from rfl) (Reps.one (show Kd.M (Kd.int .i64) _ _ _ 6 [.int .i64 6] from rfl) (Reps.one (show Kd.M (Kd.int .i64) _ _ _ 10 [.int .i64 10] from rfl) (Reps.one (show Kd.M (Kd.int .i64) _ _ _ 15 [.int .i64 15] from rfl) (Reps.one (show Kd.M (Kd.int .i64) _ _ _ 21 [.int .i64 21] from rfl) (Reps.none _ _)))))))))))))))))); intro v120 w5 ho6 hb hg_ hnew_; clear hg_ hnew_; (first | rw [← Ny119.out] at ho6 | (simp only [Int.reduceToNat] at ho6; rw [← Ny119.out] at ho6)); have n0_ := Aside0.mk (Kd.R_lower ho6 (below_size (by repeat (first | (with_reducible first | exact HB.out | apply below_alloc | apply pw_below_drewN | apply below_drew1) | exact HB.out)))); have n1_ := Aside0.mk (below_step (by repeat (first | (with_reducible first | exact HB.out | apply below_alloc | apply pw_below_drewN | apply below_drew1) | exact HB.out)) hb); clear HB; have HO121 := n0_; have HB := n1_; clear n0_ n1_; clear hb ho6; obtain ⟨Ao7, co7, eo7⟩ := Kd.R_slice HO121.out; subst eo7; have p122 : 0 ≤ ((ji2) : Int) := of_decide_eq_true (by first | (with_reducible assumption) | assumption); have q122 : (ji2) < (y119.length : Int) := of_decide_eq_true (by first | (with_reducible assumption) | assumption); obtain ⟨ad122, e122, hx122_0⟩ := Kd.at_int (Kd.R_reads' HO121.out).2.2 (ji2) p122 q122; cases e122; replace p122 := eq_true p122; replace q122 := eq_true q122))
      go_ret
      exact ⟨by first | rfl | (simp [errW_none, errW_some] <;> rfl) | (simp only [← hji2]; first | rfl | (simp [errW_none, errW_some] <;> rfl)) | (simp [*, errW_none, errW_some] <;> rfl), by repeat (first | (with_reducible first | exact HB.out | apply below_alloc | apply pw_below_drewN | apply below_drew1) | exact HB.out)⟩
    · rw [if_neg c4] at H
      exact absurd H (by simp)
  · rw [if_neg c3] at H
    exact absurd H (by simp)

/-! ### spec_MixStrong: function 115 (told by hand) -/
theorem spec_MixStrong.K_all : ((List.range 64).all fun i => decide (spec_l04K.f (i : Int) = some (XS.sines.getD i 0))) = true := by kernel_rfl
theorem spec_MixStrong.S_all : ((List.range 64).all fun i => decide (spec_l04S.f (i : Int) = some (XS.turns.getD (i / 16 * 4 + i % 4) 0)) && decide (0 ≤ XS.turns.getD (i / 16 * 4 + i % 4) 0) && decide (XS.turns.getD (i / 16 * 4 + i % 4) 0 ≤ 31)) = true := by kernel_rfl
set_option maxHeartbeats 4000000 in
set_option maxRecDepth 100000 in
theorem spec_MixStrong.calls' (a b c d : Int) (s : ByteArray) (M : Nat → Int) (w : World) (hs : s.size = 64) (hM : ∀ g, g < 16 → spec_GetWord.f (bytesOf (s.extract (4 * g) (4 * g + 4))) = some (M g, true)) :
    Calls Tryd.prog 115 #[.agg #[.int .u32 a, .int .u32 b, .int .u32 c, .int .u32 d], .string s] w fun e w' => (∃ p q r t, (p, q, r, t) = XS.mix M (a, b, c, d) ∧ e = .returned (.agg #[.int .u32 p, .int .u32 q, .int .u32 r, .int .u32 t])) ∧ Below w.heap.size w w' := by
  have HS := Aside0.mk hs
  have hl64 : ((s.size : Int) != 64) = false := by rw [bne_eq_false_iff_eq]; omega
  clear hs
  have HM := Aside0.mk hM
  clear hM
  go_enter Tryd.func115, Tryd.ntmps115
  go_wp2
  clear hl64
  go_quiet (fail)
  go_wp2
  have hB : Below w.heap.size w (((w.alloc (.cells #[.int .u32 a, .int .u32 b, .int .u32 c, .int .u32 d] 138)).alloc (.cells #[.int .u32 0, .int .u32 0, .int .u32 0, .int .u32 0] 138)).drewN nq) := by have h := ((Below.refl w.heap.size w).alloc (Nat.le_refl _) (.cells #[.int .u32 a, .int .u32 b, .int .u32 c, .int .u32 d] 138)).alloc (by simp) (.cells #[.int .u32 0, .int .u32 0, .int .u32 0, .int .u32 0] 138); exact h.trans (Drawn0.below ⟨nq, rfl⟩ |>.mono h.size)
  have hb1 : (((w.alloc (.cells #[.int .u32 a, .int .u32 b, .int .u32 c, .int .u32 d] 138)).alloc (.cells #[.int .u32 0, .int .u32 0, .int .u32 0, .int .u32 0] 138)).drewN nq).heap[w.heap.size]? = some (.cells #[.int .u32 a, .int .u32 b, .int .u32 c, .int .u32 d] 138) := blk_drewN (blk_alloc (heap_alloc_new w _) _) nq
  have hb2 : (((w.alloc (.cells #[.int .u32 a, .int .u32 b, .int .u32 c, .int .u32 d] 138)).alloc (.cells #[.int .u32 0, .int .u32 0, .int .u32 0, .int .u32 0] 138)).drewN nq).heap[w.heap.size + 1]? = some (.cells #[.int .u32 0, .int .u32 0, .int .u32 0, .int .u32 0] 138) := blk_drewN (by have := heap_alloc_new (w.alloc (.cells #[.int .u32 a, .int .u32 b, .int .u32 c, .int .u32 d] 138)) (.cells #[.int .u32 0, .int .u32 0, .int .u32 0, .int .u32 0] 138); simpa using this) nq
  generalize (((w.alloc (.cells #[.int .u32 a, .int .u32 b, .int .u32 c, .int .u32 d] 138)).alloc (.cells #[.int .u32 0, .int .u32 0, .int .u32 0, .int .u32 0] 138)).drewN nq) = w1 at hB hb1 hb2 ⊢
  have HB := Aside0.mk hB
  have HX := Aside0.mk hb1
  have HY := Aside0.mk hb2
  clear hB hb1 hb2
  go_loopw [5, 6, 7, 8, 9] (fun v5 v6 v7 v8 v9 wr => ∃ (i : Nat) (p q r t : Int), i ≤ 64 ∧ v9 = .int .i64 i ∧ v5 = .int .u32 p ∧ v6 = .int .u32 q ∧ v7 = .int .u32 r ∧ v8 = .int .u32 t ∧ Aside0 (Below w1.heap.size w1 wr) ∧ Aside0 (XS.iter M i (a, b, c, d) = (p, q, r, t))) (fun _ _ _ _ v9 _ => 64 - (intOf v9).toNat)
  case atStart => exact ⟨0, a, b, c, d, Nat.zero_le _, rfl, rfl, rfl, rfl, rfl, ⟨Below.refl _ _⟩, ⟨rfl⟩⟩
  case round =>
    obtain ⟨i, p, q, r, t, hi, rfl, rfl, rfl, rfl, rfl, HD, HI⟩ := hrel
    by_cases hlt : i < 64
    · obtain ⟨σ, hσ⟩ : ∃ σ, σ = XS.sines.getD i 0 := ⟨_, rfl⟩
      obtain ⟨τ, hτ⟩ : ∃ τ, τ = XS.turns.getD (i / 16 * 4 + i % 4) 0 := ⟨_, rfl⟩
      have HKK := Aside0.mk (show spec_l04K.f (i : Int) = some σ by have h := List.all_eq_true.1 spec_MixStrong.K_all i (List.mem_range.2 hlt); rw [hσ]; exact of_decide_eq_true h)
      have hS := List.all_eq_true.1 spec_MixStrong.S_all i (List.mem_range.2 hlt)
      simp only [Bool.and_eq_true, decide_eq_true_eq] at hS
      rw [← hτ] at hS
      have HSS := Aside0.mk hS.1.1
      have t0 : 0 ≤ τ := hS.1.2
      have t1 : τ ≤ 31 := hS.2
      have Hσ := Aside0.mk hσ
      have Hτ := Aside0.mk hτ
      clear hσ hτ hS
      have hM1 := Aside0.mk (HM.out (XS.fG i) (XS.fG_lt i hlt))
      by_cases h0 : i < 16
      · skip
        have hf := Aside0.mk (show XS.fF i q r t = _ from if_pos h0)
        have hg := Aside0.mk (show XS.fG i = i from if_pos h0)
        have hγ16 : i < 16 := h0
        rw [hg.out] at hM1
        go_upto_region 20 with (fail)
        have e4 : 4 * (i : Int) + 4 ≤ s.size := by have := HS.out; omega
        have HX4 := Aside0.mk (show (s.extract (4 * i) (4 * i + 4)).size ≤ 9223372036854775807 by rw [ByteArray.size_extract]; have := HS.out; omega)
        go_wp2_with (first | ((with_reducible refine gate_dst (N := 87) rfl ?_); refine Cw.R_conv wr.heap.size 5 rfl (N := 87) rfl 9 44 _ rfl (s.extract (4 * i) (4 * i + 4)) rfl Tryd.underlying9 Tryd.underlying44 Tryd.underlying5 HX4.out (Below.refl _ _) (Nat.le_refl _) ?_; intro v7 w7 hcv hb7; obtain ⟨A7, c7, rfl⟩ := Cw.R_slice hcv; obtain ⟨_, hc7, hC7⟩ := Cw.R_reads' hcv; have HC7 := Aside0.mk hC7; have Hc7 := Aside0.mk hc7; have HB7 := Aside0.mk hb7; clear hcv hb7 hc7 hC7) | ((with_reducible refine gate_callee (f := 161) rfl ?_); refine goesL_ (some 88) rfl rfl Tryd.func161 (by kernel_rfl) rfl #[.slice A7 (bytesOf (s.extract (4 * i) (4 * i + 4))).length c7] rfl (by (try simp only [List.map_toArray, List.map_cons, List.map_nil]); first | done | rfl) ?_; (with_reducible refine (spec_GetWord.calls A7 c7 _ (M i) true _ HC7.out Hc7.out hM1.out).mono ?_); rintro e w8 ⟨rfl, hd8⟩; refine ⟨_, rfl, ?_⟩; have HB8 := Aside0.mk (below_step HB7.out hd8.below); clear hd8) | ((with_reducible refine gate_callee (f := 162) rfl ?_); refine goesL_ (some 95) rfl rfl Tryd.func162 (by kernel_rfl) rfl #[.int .i64 (i : Int)] rfl (by (try simp only [List.map_toArray, List.map_cons, List.map_nil]); first | done | rfl) ?_; (with_reducible refine (spec_l04K.calls (i : Int) σ _ HKK.out).mono ?_); rintro e w9 ⟨rfl, hd9⟩; refine ⟨_, rfl, ?_⟩; have HB9 := Aside0.mk (below_step HB8.out hd9); clear hd9) | ((with_reducible refine gate_callee (f := 163) rfl ?_); refine goesL_ (some 100) rfl rfl Tryd.func163 (by kernel_rfl) rfl #[.int .i64 (i : Int)] rfl (by (try simp only [List.map_toArray, List.map_cons, List.map_nil]); first | done | rfl) ?_; (with_reducible refine (spec_l04S.calls (i : Int) τ _ HSS.out).mono ?_); rintro e w10 ⟨rfl, hd10⟩; refine ⟨_, rfl, ?_⟩; have HB10 := Aside0.mk (below_step HB9.out hd10); clear hd10))
        have HB11 := Aside0.mk (HB10.out)
        clear e4
        go_roundw
        case rel => exact ⟨i + 1, t, _, q, r, by omega, by go_num, rfl, rfl, rfl, rfl, ⟨below_step HD.out HB11.out⟩, ⟨by rw [show XS.iter M (i + 1) (a, b, c, d) = XS.step M i (XS.iter M i (a, b, c, d)) from rfl, HI.out]; unfold XS.step XS.rt; rw [hf.out, hg.out, ← Hσ.out, ← Hτ.out, XS.shl_ _ _ t1, XS.shr_ _ _ t0] <;> simp only [Int.emod_add_emod, XS.not32]⟩⟩
        case measure => simp [intOf]; omega
      by_cases h1 : i < 32
      · skip
        have hf := Aside0.mk (show XS.fF i q r t = _ from (if_neg h0).trans (if_pos h1))
        obtain ⟨γ, hγ⟩ : ∃ γ : Nat, γ = XS.fG i := ⟨_, rfl⟩
        have hg := Aside0.mk (show XS.fG i = γ from hγ.symm)
        have hγ16 : γ < 16 := by rw [hγ]; exact XS.fG_lt i hlt
        have hgi := Aside0.mk (show (5 * (i : Int) + 1) % 16 = (γ : Int) by rw [hγ, show XS.fG i = (5 * i + 1) % 16 from (if_neg h0).trans (if_pos h1)]; omega)
        rw [← hγ] at hM1
        clear hγ
        go_upto_region 20 with (fail)
        simp only [hgi.out]
        have e4 : 4 * (γ : Int) + 4 ≤ s.size := by have := HS.out; omega
        have HX4 := Aside0.mk (show (s.extract (4 * γ) (4 * γ + 4)).size ≤ 9223372036854775807 by rw [ByteArray.size_extract]; have := HS.out; omega)
        go_wp2_with (first | ((with_reducible refine gate_dst (N := 87) rfl ?_); refine Cw.R_conv wr.heap.size 5 rfl (N := 87) rfl 9 44 _ rfl (s.extract (4 * γ) (4 * γ + 4)) rfl Tryd.underlying9 Tryd.underlying44 Tryd.underlying5 HX4.out (Below.refl _ _) (Nat.le_refl _) ?_; intro v7 w7 hcv hb7; obtain ⟨A7, c7, rfl⟩ := Cw.R_slice hcv; obtain ⟨_, hc7, hC7⟩ := Cw.R_reads' hcv; have HC7 := Aside0.mk hC7; have Hc7 := Aside0.mk hc7; have HB7 := Aside0.mk hb7; clear hcv hb7 hc7 hC7) | ((with_reducible refine gate_callee (f := 161) rfl ?_); refine goesL_ (some 88) rfl rfl Tryd.func161 (by kernel_rfl) rfl #[.slice A7 (bytesOf (s.extract (4 * γ) (4 * γ + 4))).length c7] rfl (by (try simp only [List.map_toArray, List.map_cons, List.map_nil]); first | done | rfl) ?_; (with_reducible refine (spec_GetWord.calls A7 c7 _ (M γ) true _ HC7.out Hc7.out hM1.out).mono ?_); rintro e w8 ⟨rfl, hd8⟩; refine ⟨_, rfl, ?_⟩; have HB8 := Aside0.mk (below_step HB7.out hd8.below); clear hd8) | ((with_reducible refine gate_callee (f := 162) rfl ?_); refine goesL_ (some 95) rfl rfl Tryd.func162 (by kernel_rfl) rfl #[.int .i64 (i : Int)] rfl (by (try simp only [List.map_toArray, List.map_cons, List.map_nil]); first | done | rfl) ?_; (with_reducible refine (spec_l04K.calls (i : Int) σ _ HKK.out).mono ?_); rintro e w9 ⟨rfl, hd9⟩; refine ⟨_, rfl, ?_⟩; have HB9 := Aside0.mk (below_step HB8.out hd9); clear hd9) | ((with_reducible refine gate_callee (f := 163) rfl ?_); refine goesL_ (some 100) rfl rfl Tryd.func163 (by kernel_rfl) rfl #[.int .i64 (i : Int)] rfl (by (try simp only [List.map_toArray, List.map_cons, List.map_nil]); first | done | rfl) ?_; (with_reducible refine (spec_l04S.calls (i : Int) τ _ HSS.out).mono ?_); rintro e w10 ⟨rfl, hd10⟩; refine ⟨_, rfl, ?_⟩; have HB10 := Aside0.mk (below_step HB9.out hd10); clear hd10))
        have HB11 := Aside0.mk (HB10.out)
        clear e4
        go_roundw
        case rel => exact ⟨i + 1, t, _, q, r, by omega, by go_num, rfl, rfl, rfl, rfl, ⟨below_step HD.out HB11.out⟩, ⟨by rw [show XS.iter M (i + 1) (a, b, c, d) = XS.step M i (XS.iter M i (a, b, c, d)) from rfl, HI.out]; unfold XS.step XS.rt; rw [hf.out, hg.out, ← Hσ.out, ← Hτ.out, XS.shl_ _ _ t1, XS.shr_ _ _ t0] <;> simp only [Int.emod_add_emod, XS.not32]⟩⟩
        case measure => simp [intOf]; omega
      by_cases h2 : i < 48
      · skip
        have hf := Aside0.mk (show XS.fF i q r t = _ from (if_neg h0).trans ((if_neg h1).trans (if_pos h2)))
        obtain ⟨γ, hγ⟩ : ∃ γ : Nat, γ = XS.fG i := ⟨_, rfl⟩
        have hg := Aside0.mk (show XS.fG i = γ from hγ.symm)
        have hγ16 : γ < 16 := by rw [hγ]; exact XS.fG_lt i hlt
        have hgi := Aside0.mk (show (3 * (i : Int) + 5) % 16 = (γ : Int) by rw [hγ, show XS.fG i = (3 * i + 5) % 16 from (if_neg h0).trans ((if_neg h1).trans (if_pos h2))]; omega)
        rw [← hγ] at hM1
        clear hγ
        go_upto_region 20 with (fail)
        simp only [hgi.out]
        have e4 : 4 * (γ : Int) + 4 ≤ s.size := by have := HS.out; omega
        have HX4 := Aside0.mk (show (s.extract (4 * γ) (4 * γ + 4)).size ≤ 9223372036854775807 by rw [ByteArray.size_extract]; have := HS.out; omega)
        go_wp2_with (first | ((with_reducible refine gate_dst (N := 87) rfl ?_); refine Cw.R_conv wr.heap.size 5 rfl (N := 87) rfl 9 44 _ rfl (s.extract (4 * γ) (4 * γ + 4)) rfl Tryd.underlying9 Tryd.underlying44 Tryd.underlying5 HX4.out (Below.refl _ _) (Nat.le_refl _) ?_; intro v7 w7 hcv hb7; obtain ⟨A7, c7, rfl⟩ := Cw.R_slice hcv; obtain ⟨_, hc7, hC7⟩ := Cw.R_reads' hcv; have HC7 := Aside0.mk hC7; have Hc7 := Aside0.mk hc7; have HB7 := Aside0.mk hb7; clear hcv hb7 hc7 hC7) | ((with_reducible refine gate_callee (f := 161) rfl ?_); refine goesL_ (some 88) rfl rfl Tryd.func161 (by kernel_rfl) rfl #[.slice A7 (bytesOf (s.extract (4 * γ) (4 * γ + 4))).length c7] rfl (by (try simp only [List.map_toArray, List.map_cons, List.map_nil]); first | done | rfl) ?_; (with_reducible refine (spec_GetWord.calls A7 c7 _ (M γ) true _ HC7.out Hc7.out hM1.out).mono ?_); rintro e w8 ⟨rfl, hd8⟩; refine ⟨_, rfl, ?_⟩; have HB8 := Aside0.mk (below_step HB7.out hd8.below); clear hd8) | ((with_reducible refine gate_callee (f := 162) rfl ?_); refine goesL_ (some 95) rfl rfl Tryd.func162 (by kernel_rfl) rfl #[.int .i64 (i : Int)] rfl (by (try simp only [List.map_toArray, List.map_cons, List.map_nil]); first | done | rfl) ?_; (with_reducible refine (spec_l04K.calls (i : Int) σ _ HKK.out).mono ?_); rintro e w9 ⟨rfl, hd9⟩; refine ⟨_, rfl, ?_⟩; have HB9 := Aside0.mk (below_step HB8.out hd9); clear hd9) | ((with_reducible refine gate_callee (f := 163) rfl ?_); refine goesL_ (some 100) rfl rfl Tryd.func163 (by kernel_rfl) rfl #[.int .i64 (i : Int)] rfl (by (try simp only [List.map_toArray, List.map_cons, List.map_nil]); first | done | rfl) ?_; (with_reducible refine (spec_l04S.calls (i : Int) τ _ HSS.out).mono ?_); rintro e w10 ⟨rfl, hd10⟩; refine ⟨_, rfl, ?_⟩; have HB10 := Aside0.mk (below_step HB9.out hd10); clear hd10))
        have HB11 := Aside0.mk (HB10.out)
        clear e4
        go_roundw
        case rel => exact ⟨i + 1, t, _, q, r, by omega, by go_num, rfl, rfl, rfl, rfl, ⟨below_step HD.out HB11.out⟩, ⟨by rw [show XS.iter M (i + 1) (a, b, c, d) = XS.step M i (XS.iter M i (a, b, c, d)) from rfl, HI.out]; unfold XS.step XS.rt; rw [hf.out, hg.out, ← Hσ.out, ← Hτ.out, XS.shl_ _ _ t1, XS.shr_ _ _ t0] <;> simp only [Int.emod_add_emod, XS.not32]⟩⟩
        case measure => simp [intOf]; omega
      · skip
        have hf := Aside0.mk (show XS.fF i q r t = _ from (if_neg h0).trans ((if_neg h1).trans (if_neg h2)))
        obtain ⟨γ, hγ⟩ : ∃ γ : Nat, γ = XS.fG i := ⟨_, rfl⟩
        have hg := Aside0.mk (show XS.fG i = γ from hγ.symm)
        have hγ16 : γ < 16 := by rw [hγ]; exact XS.fG_lt i hlt
        have hgi := Aside0.mk (show 7 * (i : Int) % 16 = (γ : Int) by rw [hγ, show XS.fG i = 7 * i % 16 from (if_neg h0).trans ((if_neg h1).trans (if_neg h2))]; omega)
        rw [← hγ] at hM1
        clear hγ
        go_upto_region 20 with (fail)
        simp only [hgi.out]
        have e4 : 4 * (γ : Int) + 4 ≤ s.size := by have := HS.out; omega
        have HX4 := Aside0.mk (show (s.extract (4 * γ) (4 * γ + 4)).size ≤ 9223372036854775807 by rw [ByteArray.size_extract]; have := HS.out; omega)
        go_wp2_with (first | ((with_reducible refine gate_dst (N := 87) rfl ?_); refine Cw.R_conv wr.heap.size 5 rfl (N := 87) rfl 9 44 _ rfl (s.extract (4 * γ) (4 * γ + 4)) rfl Tryd.underlying9 Tryd.underlying44 Tryd.underlying5 HX4.out (Below.refl _ _) (Nat.le_refl _) ?_; intro v7 w7 hcv hb7; obtain ⟨A7, c7, rfl⟩ := Cw.R_slice hcv; obtain ⟨_, hc7, hC7⟩ := Cw.R_reads' hcv; have HC7 := Aside0.mk hC7; have Hc7 := Aside0.mk hc7; have HB7 := Aside0.mk hb7; clear hcv hb7 hc7 hC7) | ((with_reducible refine gate_callee (f := 161) rfl ?_); refine goesL_ (some 88) rfl rfl Tryd.func161 (by kernel_rfl) rfl #[.slice A7 (bytesOf (s.extract (4 * γ) (4 * γ + 4))).length c7] rfl (by (try simp only [List.map_toArray, List.map_cons, List.map_nil]); first | done | rfl) ?_; (with_reducible refine (spec_GetWord.calls A7 c7 _ (M γ) true _ HC7.out Hc7.out hM1.out).mono ?_); rintro e w8 ⟨rfl, hd8⟩; refine ⟨_, rfl, ?_⟩; have HB8 := Aside0.mk (below_step HB7.out hd8.below); clear hd8) | ((with_reducible refine gate_callee (f := 162) rfl ?_); refine goesL_ (some 95) rfl rfl Tryd.func162 (by kernel_rfl) rfl #[.int .i64 (i : Int)] rfl (by (try simp only [List.map_toArray, List.map_cons, List.map_nil]); first | done | rfl) ?_; (with_reducible refine (spec_l04K.calls (i : Int) σ _ HKK.out).mono ?_); rintro e w9 ⟨rfl, hd9⟩; refine ⟨_, rfl, ?_⟩; have HB9 := Aside0.mk (below_step HB8.out hd9); clear hd9) | ((with_reducible refine gate_callee (f := 163) rfl ?_); refine goesL_ (some 100) rfl rfl Tryd.func163 (by kernel_rfl) rfl #[.int .i64 (i : Int)] rfl (by (try simp only [List.map_toArray, List.map_cons, List.map_nil]); first | done | rfl) ?_; (with_reducible refine (spec_l04S.calls (i : Int) τ _ HSS.out).mono ?_); rintro e w10 ⟨rfl, hd10⟩; refine ⟨_, rfl, ?_⟩; have HB10 := Aside0.mk (below_step HB9.out hd10); clear hd10))
        have HB11 := Aside0.mk (HB10.out)
        clear e4
        go_roundw
        case rel => exact ⟨i + 1, t, _, q, r, by omega, by go_num, rfl, rfl, rfl, rfl, ⟨below_step HD.out HB11.out⟩, ⟨by rw [show XS.iter M (i + 1) (a, b, c, d) = XS.step M i (XS.iter M i (a, b, c, d)) from rfl, HI.out]; unfold XS.step XS.rt; rw [hf.out, hg.out, ← Hσ.out, ← Hτ.out, XS.shl_ _ _ t1, XS.shr_ _ _ t0] <;> simp only [Int.emod_add_emod, XS.not32]⟩⟩
        case measure => simp [intOf]; omega
    · obtain rfl : i = 64 := by omega
      have hX := Aside0.mk (blk_below HX.out HD.out)
      have hY := Aside0.mk (blk_below HY.out HD.out)
      have hx0 := (blk_cell hX.out 0).trans rfl
      have hx1 := (blk_cell hX.out 1).trans rfl
      have hx2 := (blk_cell hX.out 2).trans rfl
      have hx3 := (blk_cell hX.out 3).trans rfl
      have hy0 := (blk_cell hY.out 0).trans rfl
      have hy1 := (blk_cell hY.out 1).trans rfl
      have hy2 := (blk_cell hY.out 2).trans rfl
      have hy3 := (blk_cell hY.out 3).trans rfl
      have hz0 := blk_frozen hY.out 0
      have hz1 := blk_frozen hY.out 1
      have hz2 := blk_frozen hY.out 2
      have hz3 := blk_frozen hY.out 3
      go_wp2
      have hBw := below_step HB.out HD.out
      refine bodyPost_ret (XS.results_c rfl _ _ (w.heap.size + 1) 138 #[.int .u32 ((a + p) % 4294967296), .int .u32 ((b + q) % 4294967296), .int .u32 ((c + r) % 4294967296), .int .u32 ((d + t) % 4294967296)] (0, 0) _ rfl (blk_put (blk_put (blk_put (blk_put hY.out 0 _ rfl) 1 _ rfl) 2 _ rfl) 3 _ rfl) Tryd.underlying138 rfl (by kernel_rfl)) rfl ?_
      refine ⟨⟨_, _, _, _, ?_, rfl⟩, (((hBw.setCell (by simp) _).setCell (by simp) _).setCell (by simp) _).setCell (by simp) _⟩
      unfold XS.mix
      rw [HI.out]


/-! ### spec_PutWord: function 116 -/
def spec_PutWord.f (a0 : Int) : Option (List Int) := some (([(Int.tmod (wrap64 (a0)) 256) % 256, (Int.tmod (wrap64 (Int.tdiv (wrap64 (a0)) 256)) 256) % 256, (Int.tmod (wrap64 (Int.tdiv (wrap64 (a0)) 65536)) 256) % 256, (wrap64 (Int.tdiv (wrap64 (a0)) 16777216)) % 256] : List Int))
set_option maxHeartbeats 8000000 in
set_option maxRecDepth 100000 in
theorem spec_PutWord.calls (a0 : Int) (r : List Int) (w : World) (h : spec_PutWord.f a0 = some r) :
    Calls Tryd.prog 116 #[.int .u32 a0] w fun e w' => ∃ v0_ : Value, e = .returned (v0_) ∧ Kd.R (Kd.int .u8) 5 w' w.heap.size (fun _ => True) v0_ r ∧ Below w.heap.size w w' := by
  have HB := Aside0.mk (Below.refl w.heap.size w)
  have H : (some (([(Int.tmod (wrap64 (a0)) 256) % 256, (Int.tmod (wrap64 (Int.tdiv (wrap64 (a0)) 256)) 256) % 256, (Int.tmod (wrap64 (Int.tdiv (wrap64 (a0)) 65536)) 256) % 256, (wrap64 (Int.tdiv (wrap64 (a0)) 16777216)) % 256] : List Int))) = some r := h
  clear h
  obtain ⟨y123, hy123⟩ : ∃ y_ : List Int, y_ = (([(Int.tmod (wrap64 (a0)) 256) % 256, (Int.tmod (wrap64 (Int.tdiv (wrap64 (a0)) 256)) 256) % 256, (Int.tmod (wrap64 (Int.tdiv (wrap64 (a0)) 65536)) 256) % 256, (wrap64 (Int.tdiv (wrap64 (a0)) 16777216)) % 256] : List Int)) := ⟨_, rfl⟩
  replace H : (some y123) = some r := by first | (rw [hy123]; with_reducible exact H) | (have H2_ := (Option.bind_some _ _).symm.trans H; rw [hy123]; with_reducible exact H2_) | (have H2_ := (Option.bind_some _ _).symm.trans H; with_reducible exact H2_) | with_reducible exact H | (rw [hy123]; exact H) | exact H
  have Ny123 := Aside0.mk hy123
  clear hy123
  obtain rfl := Option.some.inj H
  go_enter Tryd.func116, Tryd.ntmps116
  go_wp2_with (first | ((with_reducible refine gate_dst (N := 20) rfl ?_); refine Kd.R_lit (Kd.int .u8) _ 5 ?hg (N := 20) ?hd (xs := ([(Int.tmod (wrap64 (a0)) 256) % 256, (Int.tmod (wrap64 (Int.tdiv (wrap64 (a0)) 256)) 256) % 256, (Int.tmod (wrap64 (Int.tdiv (wrap64 (a0)) 65536)) 256) % 256, (wrap64 (Int.tdiv (wrap64 (a0)) 16777216)) % 256] : List Int)) (inner := [.int .u8 ((Int.tmod (wrap64 (a0)) 256) % 256), .int .u8 ((Int.tmod (wrap64 (Int.tdiv (wrap64 (a0)) 256)) 256) % 256), .int .u8 ((Int.tmod (wrap64 (Int.tdiv (wrap64 (a0)) 65536)) 256) % 256), .int .u8 ((wrap64 (Int.tdiv (wrap64 (a0)) 16777216)) % 256)]) (ok := fun _ => True) (okp := fun _ => True) ?hr ?hp (fun _ hk => hk) trivial (Below.refl _ _) (Nat.le_refl _) (by simp) ?_; (case hd => rfl); (case hg => rfl); (case hr => first | (go_simp; done) | (go_simp; rfl)); (case hp => exact (Reps.one (show Kd.M (Kd.int .u8) _ _ _ ((Int.tmod (wrap64 (a0)) 256) % 256) [.int .u8 ((Int.tmod (wrap64 (a0)) 256) % 256)] from rfl) (Reps.one (show Kd.M (Kd.int .u8) _ _ _ ((Int.tmod (wrap64 (Int.tdiv (wrap64 (a0)) 256)) 256) % 256) [.int .u8 ((Int.tmod (wrap64 (Int.tdiv (wrap64 (a0)) 256)) 256) % 256)] from rfl) (Reps.one (show Kd.M (Kd.int .u8) _ _ _ ((Int.tmod (wrap64 (Int.tdiv (wrap64 (a0)) 65536)) 256) % 256) [.int .u8 ((Int.tmod (wrap64 (Int.tdiv (wrap64 (a0)) 65536)) 256) % 256)] from rfl) (Reps.one (show Kd.M (Kd.int .u8) _ _ _ ((wrap64 (Int.tdiv (wrap64 (a0)) 16777216)) % 256) [.int .u8 ((wrap64 (Int.tdiv (wrap64 (a0)) 16777216)) % 256)] from rfl) (Reps.none _ _)))))); intro v124 w2 ho3 hb hg_ hnew_; clear hg_ hnew_; (first | rw [← Ny123.out] at ho3 | (simp only [Int.reduceToNat] at ho3; rw [← Ny123.out] at ho3)); have n0_ := Aside0.mk (Kd.R_lower ho3 (below_size (by repeat (first | (with_reducible first | exact HB.out | apply below_alloc | apply pw_below_drewN | apply below_drew1) | exact HB.out)))); have n1_ := Aside0.mk (below_step (by repeat (first | (with_reducible first | exact HB.out | apply below_alloc | apply pw_below_drewN | apply below_drew1) | exact HB.out)) hb); clear HB; have HO125 := n0_; have HB := n1_; clear n0_ n1_; clear hb ho3))
  go_ret
  exact ⟨_, by first | rfl | (simp [errW_none, errW_some] <;> rfl) | (simp [*, errW_none, errW_some] <;> rfl), by (with_reducible repeat (first | apply Kd.R_alloc | apply Kd.R_drewN | apply Kd.R_drew)); exact HO125.out, by repeat (first | (with_reducible first | exact HB.out | apply below_alloc | apply pw_below_drewN | apply below_drew1) | exact HB.out)⟩

end Go.Proofs.YtphlmaaplaaopaaDoor.PFnExactAskFor
