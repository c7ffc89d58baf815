-- PRINTED by print.py (a twelfth state) out of the translation. Not trusted: Lean checks it.
import Derived.Test.YtphlmaaplaaopaaPFnExactPutMsgx0
import Derived.Test.YtphlmaaplaaopaaPFnExactPutMsgx7
import Derived.Test.YtphlmaaplaaopaaPFnExactPutMsgx8
namespace Go.Proofs.Ytphlmaaplaaopaa.PFnExactPutMsg
open Go.RowKit Go.Proofs.YtphlmaaplaaopaaW.PrintWords Go.Proofs.YtphlmaaplaaopaaW.PrintLast Go.Proofs.YtphlmaaplaaopaaW.PrintMore
attribute [local go_sem] max2_int min2_int max_two min_two max_three min_three max_four min_four   -- for this text's walks alone
set_option linter.unusedVariables false
set_option linter.unusedSimpArgs false
open Go.Proofs.YtphlmaaplaaopaaW
theorem q9_1 {p : Prop} (h : p := by rw [hg]; exact (below_size (by repeat (first | (with_reducible first | exact HB.out | apply below_alloc | apply pw_below_drewN | apply below_drew1) | exact HB.out)))) : p := h
theorem q9_2 {p : Prop} (h : p := by repeat (first | (with_reducible first | exact HB.out | apply below_alloc | apply pw_below_drewN | apply below_drew1 | refine below_set ?_ GE326.out) | exact HB.out)) : p := h
theorem q9_3 {p : Prop} (h : p := by repeat (first | (with_reducible first | exact HB.out | apply below_alloc | apply pw_below_drewN | apply below_drew1 | refine below_set ?_ GE325.out) | exact HB.out)) : p := h
theorem q9_4 {p : Prop} (h : p := by (try simp only [List.map_toArray, List.map_cons, List.map_nil]); first | done | rfl | (simp only [List.length_drop, List.length_take]; rfl)) : p := h
theorem q9_5 {p : Prop} (h : p := by repeat (first | (with_reducible first | exact HB.out | apply below_alloc | apply pw_below_drewN | apply below_drew1) | exact HB.out)) : p := h
theorem q9_6 {p : Prop} (h : p := by (with_reducible repeat (first | refine blk_drewN ?_ _ | refine blk_drew ?_ | refine blk_alloc ?_ _)); exact BK326.out) : p := h
theorem q9_7 {p : Prop} (h : p := by first | rfl | (simp [errW_none, errW_some] <;> rfl) | (simp [*, errW_none, errW_some] <;> rfl)) : p := h
theorem q9_8 {p : Prop} (h : p := by (try simp only [List.map_toArray, List.map_cons, List.map_nil]); first | done | rfl) : p := h
theorem q9_9 {p : Prop} (h : p := by kernel_rfl) : p := h

/-! ### impl_tokensText: function 41 (told by hand) -/
/-- One token's bytes. -/
def impl_tokensText.tx (t : S103) : Option ByteArray := if t.f0 = 0 then (impl_varText.f (wrap64 (2 * (t.f1.size : Int)))).bind fun v => some (v ++ t.f1) else (impl_varText.f (wrap64 ((wrap64 (2 * t.f3)) + 1))).bind fun v => (impl_varText.f t.f2).bind fun u => some (v ++ u)
def impl_tokensText.go : List S103 → ByteArray → Option ByteArray
  | [], acc => some acc
  | x :: t, acc => (impl_tokensText.tx x).bind fun s => if acc.size + s.size ≤ 140737488355320 ∧ x.f1.size ≤ 140737488355320 then impl_tokensText.go t (acc ++ s) else none
def impl_tokensText.f (l0 : List S103) : Option (ByteArray × Bool) := if 20000 < l0.length then some (⟨#[]⟩, false) else (impl_Token_82.f l0 ()).bind fun t => if t = true then some (⟨#[]⟩, false) else (impl_tokensText.go l0 ⟨#[]⟩).bind fun s => if s.size ≤ 140737488355320 then some (s.push (UInt8.ofNat (0 : Int).toNat), true) else none
theorem impl_tokensText.drop_rd (l : List S103) (i : Nat) (h : i < l.length) : l.drop i = rd_T103 l i :: l.drop (i + 1) := by
  rw [List.drop_eq_getElem_cons h]
  simp [rd_T103, h]
set_option maxHeartbeats 4000000 in
set_option maxRecDepth 100000 in
theorem impl_tokensText.calls (A0 : Option Addr) (c0 : Nat) (l0 : List S103) (r1 : ByteArray) (r2 : Bool) (w : World) (hr0 : Kd.C k103 w A0 l0.length l0) (hc0 : l0.length ≤ c0) (h : impl_tokensText.f l0 = some (r1, r2)) :
    Calls Try.prog 41 #[.slice A0 l0.length c0] w fun e w' => e = .returned (.tuple #[.string r1, .bool r2]) ∧ Below w.heap.size w w' := by
  unfold impl_tokensText.f at h
  by_cases hl : 20000 < l0.length
  · rw [if_pos hl] at h
    obtain ⟨rfl, rfl⟩ := Prod.mk.inj (Option.some.inj h)
    clear h
    have hd : decide (20000 < l0.length) = true := decide_eq_true hl
    have hd2 : decide (20000 < (l0.length : Int)) = true := decide_eq_true (by omega)
    go_enter Try.func41, Try.ntmps41
    go_wp2
    go_ret2
    exact ⟨rfl, Below.refl _ _⟩
  rw [if_neg hl] at h
  have hd : decide (20000 < l0.length) = false := decide_eq_false hl
  have hd2 : decide (20000 < (l0.length : Int)) = false := decide_eq_false (by omega)
  obtain ⟨t, h1, h⟩ := Option.bind_eq_some_iff.mp h
  have H1 := Lib.hid h1
  clear h1
  have HL := Lib.hid (Nat.not_lt.1 hl)
  cases t with
  | true =>
    rw [if_pos rfl] at h
    obtain ⟨rfl, rfl⟩ := Prod.mk.inj (Option.some.inj h)
    clear h
    go_enter Try.func41, Try.ntmps41
    go_wp2_with fail
    refine (impl_Token_82.calls A0 c0 l0 () true w hr0 hc0 H1.out).mono ?_
    rintro e w1 ⟨rfl, hb⟩
    go_wp2
    go_ret2
    exact ⟨rfl, hb⟩
  | false =>
    rw [if_neg (by decide)] at h
    obtain ⟨s, h2, h⟩ := Option.bind_eq_some_iff.mp h
    by_cases hs : s.size ≤ 140737488355320
    · rw [if_pos hs] at h
      obtain ⟨hq1, hq2⟩ := Prod.mk.inj (Option.some.inj h)
      subst hq2
      have HR := Lib.hid hq1
      have HS := Lib.hid hs
      have HG := Lib.hid h2
      clear h h2 hq1 hs
      go_enter Try.func41, Try.ntmps41
      go_wp2_with fail
      refine (impl_Token_82.calls A0 c0 l0 () false w hr0 hc0 H1.out).mono ?_
      rintro e w1 ⟨rfl, hb⟩
      have hr1 := Kd.C_below hr0 hb
      have hW := hb.size
      go_wp2
      obtain ⟨gbl, hgbl⟩ : ∃ g, g = w1.heap.size := ⟨_, rfl⟩
      rw [← hgbl]
      have hI0 : XBuild.IsB (w1.alloc (.cells #[.pointer none, .slice none 0 0] 112)) w.heap.size gbl ⟨#[]⟩ := by rw [hgbl]; exact XBuild.IsB.new w1 w.heap.size hW
      have hB0 : Below w.heap.size w (w1.alloc (.cells #[.pointer none, .slice none 0 0] 112)) := hb.alloc hW _
      clear hgbl
      go_loopw [16] (fun v16 wr => ∃ (i : Nat) (acc : ByteArray), i ≤ l0.length ∧ v16 = .int .i64 i ∧ impl_tokensText.go (l0.drop i) acc = some s ∧ XBuild.IsB wr w.heap.size gbl acc ∧ Below w.heap.size w wr) (fun v16 _ => l0.length - (intOf v16).toNat)
      case atStart => exact ⟨0, ⟨#[]⟩, Nat.zero_le _, rfl, HG.out, hI0, hB0⟩
      case round =>
        clear hI0 hB0
        obtain ⟨i, acc, hi, rfl, hgo, hI, hB⟩ := hrel
        by_cases hlt : i < l0.length
        · obtain ⟨ad, rfl, hx0, hx1, hx2, hx3⟩ := at_T103 hr0 (i : Int) (by omega) (by omega)
          simp only [Int.toNat_natCast] at hx0 hx1 hx2 hx3
          replace hx0 := (hB.cell (World.block_lt_of_cell? w _ hx0)).trans hx0
          replace hx1 := (hB.cell (World.block_lt_of_cell? w _ hx1)).trans hx1
          replace hx2 := (hB.cell (World.block_lt_of_cell? w _ hx2)).trans hx2
          replace hx3 := (hB.cell (World.block_lt_of_cell? w _ hx3)).trans hx3
          have hd3 : decide (i < l0.length) = true := decide_eq_true hlt
          rw [impl_tokensText.drop_rd l0 i hlt] at hgo
          generalize rd_T103 l0 i = x at hx0 hx1 hx2 hx3 hgo
          simp only [impl_tokensText.go] at hgo
          obtain ⟨sx, htx, hgo⟩ := Option.bind_eq_some_iff.mp hgo
          by_cases hsz : acc.size + sx.size ≤ 140737488355320 ∧ x.f1.size ≤ 140737488355320
          rotate_left
          · rw [if_neg hsz] at hgo
            exact absurd hgo (by simp)
          rw [if_pos hsz] at hgo
          have hw3 : IntKind.i64.wrap ((i : Int) + 1) = i + 1 := by rw [IntKind.wrap_i64]; have := HL.out; omega
          have HO := Lib.hid hgo
          clear hgo
          unfold impl_tokensText.tx at htx
          by_cases h0 : x.f0 = 0
          · rw [if_pos h0] at htx
            obtain ⟨v, hv, htx⟩ := Option.bind_eq_some_iff.mp htx
            obtain rfl := Option.some.inj htx
            have HV := Lib.hid hv
            have h0b : (x.f0 == 0) = true := beq_iff_eq.2 h0
            have HN := Lib.hid (show acc.size + (v ++ x.f1).size ≤ 140737488355328 by omega)
            have hcat : (9223372036854775807 < v.size + x.f1.size) = False := eq_false (by have := hsz.1; rw [ByteArray.size_append] at this; omega)
            clear htx hv h0 hsz
            go_wp2_with fail
            have hBK5 : (wr.alloc (.cells #[.int .i64 x.f0, .string x.f1, .int .i64 x.f2, .int .i64 x.f3] 103)).drew.heap[wr.heap.size]? = some (.cells #[.int .i64 x.f0, .string x.f1, .int .i64 x.f2, .int .i64 x.f3] 103) := blk_drew (heap_alloc_new wr _)
            have hI5 : XBuild.IsB (wr.alloc (.cells #[.int .i64 x.f0, .string x.f1, .int .i64 x.f2, .int .i64 x.f3] 103)).drew w.heap.size gbl acc := hI.alloc _
            have hB5 : Below w.heap.size w (wr.alloc (.cells #[.int .i64 x.f0, .string x.f1, .int .i64 x.f2, .int .i64 x.f3] 103)).drew := below_drew1 (hB.alloc hB.size _)
            generalize wr.heap.size = gx at hBK5 ⊢
            refine start_ (n := 9) (S := fun w' => w'.cell? ⟨gx, 1, none⟩ = some (.string x.f1)) (ds := [8]) #[false, false, false, false, false, false, false, false, false] (q9_9) rfl rfl ((blk_cell hBK5 1).trans rfl) (fun hHeld => ?_)
            generalize (wr.alloc (.cells #[.int .i64 x.f0, .string x.f1, .int .i64 x.f2, .int .i64 x.f3] 103)).drew = w5 at hBK5 hI5 hB5 hHeld ⊢
            refine pure_ (i := 0) (N := some 23) (v := ?_) (a' := ?_) #[true, false, false, false, false, false, false, false, false] rfl rfl (q9_9) (fun _ _ _ h => h) (Or.inl ⟨by rfl, ?_⟩) ?_ ?_
            rotate_left
            · intro w'
              go_simp
              with_reducible rfl
            rotate_left
            · simp only [Act.put, List.setIfInBounds_toArray, List.set_cons_zero, List.set_cons_succ, i64_w, i32_w, u32_w, u64_w]
              rfl
            refine pure_ (i := 5) (N := some 28) (v := ?_) (a' := ?_) #[true, false, false, false, false, true, false, false, false] rfl rfl (q9_9) (fun _ _ _ h => h) (Or.inl ⟨by rfl, ?_⟩) ?_ ?_
            rotate_left
            · intro w'
              go_simp
              with_reducible rfl
            rotate_left
            · simp only [Act.put, List.setIfInBounds_toArray, List.set_cons_zero, List.set_cons_succ, i64_w, i32_w, u32_w, u64_w]
              rfl
            refine take_ (i := 1) (N := some 24) (v := ?_) (a' := ?_) #[true, true, false, false, false, true, false, false, false] rfl rfl (q9_9) (fun _ _ _ h => h) (Or.inl ⟨by rfl, ?_⟩) hHeld ?_ ?_
            rotate_left
            · intro w' s0
              go_simp
              with_reducible rfl
            rotate_left
            · simp only [Act.put, List.setIfInBounds_toArray, List.set_cons_zero, List.set_cons_succ, i64_w, i32_w, u32_w, u64_w]
              rfl
            refine pure_ (i := 2) (N := some 25) (v := ?_) (a' := ?_) #[true, true, true, false, false, true, false, false, false] rfl rfl (q9_9) (fun _ _ _ h => h) (Or.inl ⟨by rfl, ?_⟩) ?_ ?_
            rotate_left
            · intro w'
              go_simp
              with_reducible rfl
            rotate_left
            · simp only [Act.put, List.setIfInBounds_toArray, List.set_cons_zero, List.set_cons_succ, i64_w, i32_w, u32_w, u64_w]
              rfl
            refine pure_ (i := 3) (N := some 26) (v := ?_) (a' := ?_) #[true, true, true, true, false, true, false, false, false] rfl rfl (q9_9) (fun _ _ _ h => h) (Or.inl ⟨by rfl, ?_⟩) ?_ ?_
            rotate_left
            · intro w'
              go_simp
              with_reducible rfl
            rotate_left
            · simp only [Act.put, List.setIfInBounds_toArray, List.set_cons_zero, List.set_cons_succ, i64_w, i32_w, u32_w, u64_w]
              rfl
            refine take_ (i := 6) (N := some 29) (v := ?_) (a' := ?_) #[true, true, true, true, false, true, true, false, false] rfl rfl (q9_9) (fun _ _ _ h => h) (Or.inl ⟨by rfl, ?_⟩) hHeld ?_ ?_
            rotate_left
            · intro w' s0
              go_simp
              with_reducible rfl
            rotate_left
            · simp only [Act.put, List.setIfInBounds_toArray, List.set_cons_zero, List.set_cons_succ, i64_w, i32_w, u32_w, u64_w]
              rfl
            refine one_ (i := 4) (N := some 27) #[true, true, true, true, true, true, true, false, false] rfl rfl (q9_9) (by decide) (fun K hK => ?_)
            refine goes_ Try.func86 (q9_9) rfl #[.int .i64 (wrap64 (2 * (x.f1.size : Int)))] (by rfl) rfl rfl (q9_8) ?_
            refine (impl_varText.calls _ v _ HV.out).mono ?_
            rintro e w6 ⟨rfl, hb⟩
            refine ⟨_, rfl, ?_⟩
            have hBK6 := blk_below hBK5 hb
            have hI6 := hI5.below hb
            have hB6 := below_step hB5 hb
            clear hBK5 hI5 hB5 hb
            refine hK.out _ _ ((blk_cell hBK6 1).trans rfl) (fun hHeld => ?_)
            clear hK K
            refine norm_ (a' := ?_) ?_ ?_
            rotate_left
            · show Act.put _ (some 27) _ = _
              simp only [Act.put, List.setIfInBounds_toArray, List.set_cons_zero, List.set_cons_succ, i64_w, i32_w, u32_w, u64_w]
              rfl
            refine pure_ (i := 7) (N := some 30) (v := ?_) (a' := ?_) #[true, true, true, true, true, true, true, true, false] rfl rfl (q9_9) (fun _ _ _ h => h) (Or.inl ⟨by rfl, ?_⟩) ?_ ?_
            rotate_left
            · intro w'
              go_simp
              with_reducible rfl
            rotate_left
            · simp only [Act.put, List.setIfInBounds_toArray, List.set_cons_zero, List.set_cons_succ, i64_w, i32_w, u32_w, u64_w]
              rfl
            refine last_ (i := 8) (N := some 31) #[true, true, true, true, true, true, true, true, true] rfl rfl (q9_9) (by decide) (fun K hK => ?_)
            refine goes_ Try.func85 (q9_9) rfl #[.pointer (some ⟨gbl, 0, none⟩), .string (v ++ x.f1)] (by rfl) rfl rfl (q9_8) ?_
            refine (XBuild.writeString_calls w.heap.size gbl _ (v ++ x.f1) _ hI6 HN.out hB6.size).mono ?_
            rintro e w9 ⟨rfl, h1, h2⟩
            refine ⟨_, rfl, ?_⟩
            have hB9 := hB6.trans h2
            refine hK.out _ _ ?_
            clear hK K
            refine norm_ (a' := ?_) ?_ ?_
            rotate_left
            · show Act.put _ (some 31) _ = _
              simp only [Act.put, List.setIfInBounds_toArray, List.set_cons_zero, List.set_cons_succ, i64_w, i32_w, u32_w, u64_w]
              rfl
            refine done_ (q9_9) ?_
            go_wp2
            go_roundw
            case rel => exact ⟨i + 1, _, by omega, by go_num, HO.out, h1, hB9⟩
            case measure => simp [intOf]; omega
          · rw [if_neg h0] at htx
            obtain ⟨v, hv, htx⟩ := Option.bind_eq_some_iff.mp htx
            obtain ⟨u, hu, htx⟩ := Option.bind_eq_some_iff.mp htx
            obtain rfl := Option.some.inj htx
            have HV := Lib.hid hv
            have HU := Lib.hid hu
            have h0b : (x.f0 == 0) = false := beq_eq_false_iff_ne.2 h0
            have HN := Lib.hid (show acc.size + (v ++ u).size ≤ 140737488355328 by omega)
            have hcat : (9223372036854775807 < v.size + u.size) = False := eq_false (by have := hsz.1; rw [ByteArray.size_append] at this; omega)
            clear htx hv hu h0 hsz
            go_wp2_with fail
            have hBK5 : (wr.alloc (.cells #[.int .i64 x.f0, .string x.f1, .int .i64 x.f2, .int .i64 x.f3] 103)).drew.heap[wr.heap.size]? = some (.cells #[.int .i64 x.f0, .string x.f1, .int .i64 x.f2, .int .i64 x.f3] 103) := blk_drew (heap_alloc_new wr _)
            have hI5 : XBuild.IsB (wr.alloc (.cells #[.int .i64 x.f0, .string x.f1, .int .i64 x.f2, .int .i64 x.f3] 103)).drew w.heap.size gbl acc := hI.alloc _
            have hB5 : Below w.heap.size w (wr.alloc (.cells #[.int .i64 x.f0, .string x.f1, .int .i64 x.f2, .int .i64 x.f3] 103)).drew := below_drew1 (hB.alloc hB.size _)
            generalize wr.heap.size = gx at hBK5 ⊢
            refine start_ (n := 10) (S := fun w' => w'.cell? ⟨gx, 2, none⟩ = some (.int .i64 x.f2) ∧ w'.cell? ⟨gx, 3, none⟩ = some (.int .i64 x.f3)) (ds := [9]) #[false, false, false, false, false, false, false, false, false, false] (q9_9) rfl rfl ⟨(blk_cell hBK5 2).trans rfl, (blk_cell hBK5 3).trans rfl⟩ (fun hHeld => ?_)
            generalize (wr.alloc (.cells #[.int .i64 x.f0, .string x.f1, .int .i64 x.f2, .int .i64 x.f3] 103)).drew = w5 at hBK5 hI5 hB5 hHeld ⊢
            refine pure_ (i := 0) (N := some 32) (v := ?_) (a' := ?_) #[true, false, false, false, false, false, false, false, false, false] rfl rfl (q9_9) (fun _ _ _ h => h) (Or.inl ⟨by rfl, ?_⟩) ?_ ?_
            rotate_left
            · intro w'
              go_simp
              with_reducible rfl
            rotate_left
            · simp only [Act.put, List.setIfInBounds_toArray, List.set_cons_zero, List.set_cons_succ, i64_w, i32_w, u32_w, u64_w]
              rfl
            refine pure_ (i := 5) (N := some 37) (v := ?_) (a' := ?_) #[true, false, false, false, false, true, false, false, false, false] rfl rfl (q9_9) (fun _ _ _ h => h) (Or.inl ⟨by rfl, ?_⟩) ?_ ?_
            rotate_left
            · intro w'
              go_simp
              with_reducible rfl
            rotate_left
            · simp only [Act.put, List.setIfInBounds_toArray, List.set_cons_zero, List.set_cons_succ, i64_w, i32_w, u32_w, u64_w]
              rfl
            refine take_ (i := 1) (N := some 33) (v := ?_) (a' := ?_) #[true, true, false, false, false, true, false, false, false, false] rfl rfl (q9_9) (fun _ _ _ h => h) (Or.inl ⟨by rfl, ?_⟩) hHeld ?_ ?_
            rotate_left
            · rintro w' ⟨s0, s1⟩
              go_simp
              with_reducible rfl
            rotate_left
            · simp only [Act.put, List.setIfInBounds_toArray, List.set_cons_zero, List.set_cons_succ, i64_w, i32_w, u32_w, u64_w]
              rfl
            refine pure_ (i := 2) (N := some 34) (v := ?_) (a' := ?_) #[true, true, true, false, false, true, false, false, false, false] rfl rfl (q9_9) (fun _ _ _ h => h) (Or.inl ⟨by rfl, ?_⟩) ?_ ?_
            rotate_left
            · intro w'
              go_simp
              with_reducible rfl
            rotate_left
            · simp only [Act.put, List.setIfInBounds_toArray, List.set_cons_zero, List.set_cons_succ, i64_w, i32_w, u32_w, u64_w]
              rfl
            refine pure_ (i := 3) (N := some 35) (v := ?_) (a' := ?_) #[true, true, true, true, false, true, false, false, false, false] rfl rfl (q9_9) (fun _ _ _ h => h) (Or.inl ⟨by rfl, ?_⟩) ?_ ?_
            rotate_left
            · intro w'
              go_simp
              with_reducible rfl
            rotate_left
            · simp only [Act.put, List.setIfInBounds_toArray, List.set_cons_zero, List.set_cons_succ, i64_w, i32_w, u32_w, u64_w]
              rfl
            refine take_ (i := 6) (N := some 38) (v := ?_) (a' := ?_) #[true, true, true, true, false, true, true, false, false, false] rfl rfl (q9_9) (fun _ _ _ h => h) (Or.inl ⟨by rfl, ?_⟩) hHeld ?_ ?_
            rotate_left
            · rintro w' ⟨s0, s1⟩
              go_simp
              with_reducible rfl
            rotate_left
            · simp only [Act.put, List.setIfInBounds_toArray, List.set_cons_zero, List.set_cons_succ, i64_w, i32_w, u32_w, u64_w]
              rfl
            refine one_ (i := 4) (N := some 36) #[true, true, true, true, true, true, true, false, false, false] rfl rfl (q9_9) (by decide) (fun K hK => ?_)
            refine goes_ Try.func86 (q9_9) rfl #[.int .i64 (wrap64 ((wrap64 (2 * x.f3)) + 1))] (by rfl) rfl rfl (q9_8) ?_
            refine (impl_varText.calls _ v _ HV.out).mono ?_
            rintro e w6 ⟨rfl, hb⟩
            refine ⟨_, rfl, ?_⟩
            have hBK6 := blk_below hBK5 hb
            have hI6 := hI5.below hb
            have hB6 := below_step hB5 hb
            clear hBK5 hI5 hB5 hb
            refine hK.out _ _ ⟨(blk_cell hBK6 2).trans rfl, (blk_cell hBK6 3).trans rfl⟩ (fun hHeld => ?_)
            clear hK K
            refine norm_ (a' := ?_) ?_ ?_
            rotate_left
            · show Act.put _ (some 36) _ = _
              simp only [Act.put, List.setIfInBounds_toArray, List.set_cons_zero, List.set_cons_succ, i64_w, i32_w, u32_w, u64_w]
              rfl
            refine one_ (i := 7) (N := some 39) #[true, true, true, true, true, true, true, true, false, false] rfl rfl (q9_9) (by decide) (fun K hK => ?_)
            refine goes_ Try.func86 (q9_9) rfl #[.int .i64 x.f2] (by rfl) rfl rfl (q9_8) ?_
            refine (impl_varText.calls _ u _ HU.out).mono ?_
            rintro e w7 ⟨rfl, hb⟩
            refine ⟨_, rfl, ?_⟩
            have hBK7 := blk_below hBK6 hb
            have hI7 := hI6.below hb
            have hB7 := below_step hB6 hb
            clear hBK6 hI6 hB6 hb
            refine hK.out _ _ ⟨(blk_cell hBK7 2).trans rfl, (blk_cell hBK7 3).trans rfl⟩ (fun hHeld => ?_)
            clear hK K
            refine norm_ (a' := ?_) ?_ ?_
            rotate_left
            · show Act.put _ (some 39) _ = _
              simp only [Act.put, List.setIfInBounds_toArray, List.set_cons_zero, List.set_cons_succ, i64_w, i32_w, u32_w, u64_w]
              rfl
            refine pure_ (i := 8) (N := some 40) (v := ?_) (a' := ?_) #[true, true, true, true, true, true, true, true, true, false] rfl rfl (q9_9) (fun _ _ _ h => h) (Or.inl ⟨by rfl, ?_⟩) ?_ ?_
            rotate_left
            · intro w'
              go_simp
              with_reducible rfl
            rotate_left
            · simp only [Act.put, List.setIfInBounds_toArray, List.set_cons_zero, List.set_cons_succ, i64_w, i32_w, u32_w, u64_w]
              rfl
            refine last_ (i := 9) (N := some 41) #[true, true, true, true, true, true, true, true, true, true] rfl rfl (q9_9) (by decide) (fun K hK => ?_)
            refine goes_ Try.func85 (q9_9) rfl #[.pointer (some ⟨gbl, 0, none⟩), .string (v ++ u)] (by rfl) rfl rfl (q9_8) ?_
            refine (XBuild.writeString_calls w.heap.size gbl _ (v ++ u) _ hI7 HN.out hB7.size).mono ?_
            rintro e w9 ⟨rfl, h1, h2⟩
            refine ⟨_, rfl, ?_⟩
            have hB9 := hB7.trans h2
            refine hK.out _ _ ?_
            clear hK K
            refine norm_ (a' := ?_) ?_ ?_
            rotate_left
            · show Act.put _ (some 41) _ = _
              simp only [Act.put, List.setIfInBounds_toArray, List.set_cons_zero, List.set_cons_succ, i64_w, i32_w, u32_w, u64_w]
              rfl
            refine done_ (q9_9) ?_
            go_wp2
            go_roundw
            case rel => exact ⟨i + 1, _, by omega, by go_num, HO.out, h1, hB9⟩
            case measure => simp [intOf]; omega
        · have hil : i = l0.length := by omega
          subst hil
          have hd3 : decide (l0.length < l0.length) = false := decide_eq_false (Nat.lt_irrefl _)
          rw [List.drop_length] at hgo
          obtain rfl := Option.some.inj hgo
          have hacc : acc.size + 1 ≤ 140737488355328 := Nat.le_trans (Nat.add_le_add_right HS.out 1) (by decide)
          have hBs := hB.size
          clear HG H1 hr0 hb
          go_wp2_with fail
          refine (XBuild.writeByte_calls w.heap.size gbl acc 0 _ hI (by decide) (by decide) hacc hBs).mono ?_
          rintro e w2 ⟨rfl, h1, h2⟩
          go_wp2_with fail
          refine (XBuild.string_calls _ _ _ _ h1 (hB.trans h2).size).mono ?_
          rintro e w3 ⟨rfl, h3, h4⟩
          go_wp2
          go_ret2
          exact ⟨by rw [← HR.out]; rfl, (hB.trans h2).trans h4⟩
    · rw [if_neg hs] at h
      exact absurd h (by simp)


/-! ### impl_Sig_isNone: function 42 -/
def impl_Sig_isNone.f (a0_0 : Int) (a0_1 : Int) (l0_2 : List Int) (l0_3 : List ByteArray) : Option (Bool) := if a0_0 = 0 then (if a0_1 = 0 then (if (l0_2.length : Int) = 0 then (some ((l0_3.length : Int) == 0)) else (some false)) else (some false)) else (some false)
set_option maxHeartbeats 8000000 in
set_option maxRecDepth 100000 in
theorem impl_Sig_isNone.calls (a0_0 : Int) (a0_1 : Int) (A0_2 : Option Addr) (c0_2 : Nat) (l0_2 : List Int) (A0_3 : Option Addr) (c0_3 : Nat) (l0_3 : List ByteArray) (r : Bool) (w : World) (hr0_2 : Kd.C (Kd.int .u32) w A0_2 l0_2.length l0_2) (hc0_2 : l0_2.length ≤ c0_2) (hr0_3 : Kd.C Kd.string w A0_3 l0_3.length l0_3) (hc0_3 : l0_3.length ≤ c0_3) (h : impl_Sig_isNone.f a0_0 a0_1 l0_2 l0_3 = some r) :
    Calls Try.prog 42 #[.agg #[.int .i64 a0_0, .int .i64 a0_1, .slice A0_2 l0_2.length c0_2, .slice A0_3 l0_3.length c0_3]] w fun e w' => e = .returned (.bool r) ∧ Below w.heap.size w w' := by
  have hu31 := Try.underlying31
  have HR0_2 := Aside0.mk hr0_2
  have HC0_2 := Aside0.mk hc0_2
  clear hr0_2 hc0_2
  have HR0_3 := Aside0.mk hr0_3
  have HC0_3 := Aside0.mk hc0_3
  clear hr0_3 hc0_3
  have HB := Aside0.mk (Below.refl w.heap.size w)
  have H : (if a0_0 = 0 then (if a0_1 = 0 then (if (l0_2.length : Int) = 0 then (some ((l0_3.length : Int) == 0)) else (some false)) else (some false)) else (some false)) = some r := h
  clear h
  by_cases c2 : a0_0 = 0
  · rw [if_pos c2] at H
    have c2b0 : (a0_0 == 0) = true := beq_iff_eq.mpr c2
    have c2b1 : (a0_0 != 0) = false := bne_eq_false_iff_eq.mpr c2
    clear c2
    by_cases c3 : a0_1 = 0
    · rw [if_pos c3] at H
      have c3b0 : (a0_1 == 0) = true := beq_iff_eq.mpr c3
      have c3b1 : (a0_1 != 0) = false := bne_eq_false_iff_eq.mpr c3
      clear c3
      by_cases c4 : (l0_2.length : Int) = 0
      · rw [if_pos c4] at H
        have c4b0 : ((l0_2.length : Int) == 0) = true := beq_iff_eq.mpr c4
        have c4b1 : ((l0_2.length : Int) != 0) = false := bne_eq_false_iff_eq.mpr c4
        clear c4
        obtain rfl := Option.some.inj H
        go_enter Try.func42, Try.ntmps42
        go_wp2_with (first | ((with_reducible refine gate_dst (N := 1) rfl ?_); (try (refine gate_guard (by rfl) ?_; dsimp only)); refine box_event ?hg (N := 1) ?hd (cs := #[.int .i64 a0_0, .int .i64 a0_1, .slice A0_2 l0_2.length c0_2, .slice A0_3 l0_3.length c0_3]) (t := 31) ?hr ?_; (case hd => rfl); (case hg => rfl); (case hr => first | (go_simp; done) | (go_simp; rfl)); intro gb325 hg w5 hbox hb; have n0_ := Aside0.mk (below_step (q9_5) hb); have n1_ := Aside0.mk (hbox); have n2_ := Aside0.mk ((q9_1 : w.heap.size ≤ gb325)); have n3_ := Aside0.mk ((q9_1 : w.heap.size ≤ gb325)); clear HB; have HB := n0_; have BK325 := n1_; have GW325 := n2_; have GE325 := n3_; clear n0_ n1_ n2_ n3_; clear hb hbox hg; have hcz6_0 : w5.cell? ⟨gb325, 0, none⟩ = some (.int .i64 a0_0) := (blk_cell BK325.out 0).trans rfl; have hcz6_1 : w5.cell? ⟨gb325, 1, none⟩ = some (.int .i64 a0_1) := (blk_cell BK325.out 1).trans rfl; have hcz6_2 : w5.cell? ⟨gb325, 2, none⟩ = some (.slice A0_2 l0_2.length c0_2) := (blk_cell BK325.out 2).trans rfl; have hcz6_3 : w5.cell? ⟨gb325, 3, none⟩ = some (.slice A0_3 l0_3.length c0_3) := (blk_cell BK325.out 3).trans rfl; have hfz6_0 := blk_frozen BK325.out 0; have hfz6_1 := blk_frozen BK325.out 1; have hfz6_2 := blk_frozen BK325.out 2; have hfz6_3 := blk_frozen BK325.out 3))
        go_ret
        exact ⟨q9_7, q9_3⟩
      · rw [if_neg c4] at H
        have c4b0 : ((l0_2.length : Int) == 0) = false := beq_eq_false_iff_ne.mpr c4
        have c4b1 : ((l0_2.length : Int) != 0) = true := bne_iff_ne.mpr c4
        have c4b2 : ¬ (l0_2 = []) := fun h_ => c4 (by rw [h_]; rfl)
        obtain rfl := Option.some.inj H
        go_enter Try.func42, Try.ntmps42
        go_wp2_with (first | ((with_reducible refine gate_dst (N := 1) rfl ?_); (try (refine gate_guard (by rfl) ?_; dsimp only)); refine box_event ?hg (N := 1) ?hd (cs := #[.int .i64 a0_0, .int .i64 a0_1, .slice A0_2 l0_2.length c0_2, .slice A0_3 l0_3.length c0_3]) (t := 31) ?hr ?_; (case hd => rfl); (case hg => rfl); (case hr => first | (go_simp; done) | (go_simp; rfl)); intro gb325 hg w7 hbox hb; have n0_ := Aside0.mk (below_step (q9_5) hb); have n1_ := Aside0.mk (hbox); have n2_ := Aside0.mk ((q9_1 : w.heap.size ≤ gb325)); have n3_ := Aside0.mk ((q9_1 : w.heap.size ≤ gb325)); clear HB; have HB := n0_; have BK325 := n1_; have GW325 := n2_; have GE325 := n3_; clear n0_ n1_ n2_ n3_; clear hb hbox hg; have hcz8_0 : w7.cell? ⟨gb325, 0, none⟩ = some (.int .i64 a0_0) := (blk_cell BK325.out 0).trans rfl; have hcz8_1 : w7.cell? ⟨gb325, 1, none⟩ = some (.int .i64 a0_1) := (blk_cell BK325.out 1).trans rfl; have hcz8_2 : w7.cell? ⟨gb325, 2, none⟩ = some (.slice A0_2 l0_2.length c0_2) := (blk_cell BK325.out 2).trans rfl; have hcz8_3 : w7.cell? ⟨gb325, 3, none⟩ = some (.slice A0_3 l0_3.length c0_3) := (blk_cell BK325.out 3).trans rfl; have hfz8_0 := blk_frozen BK325.out 0; have hfz8_1 := blk_frozen BK325.out 1; have hfz8_2 := blk_frozen BK325.out 2; have hfz8_3 := blk_frozen BK325.out 3))
        go_ret
        exact ⟨q9_7, q9_3⟩
    · rw [if_neg c3] at H
      have c3b0 : (a0_1 == 0) = false := beq_eq_false_iff_ne.mpr c3
      have c3b1 : (a0_1 != 0) = true := bne_iff_ne.mpr c3
      obtain rfl := Option.some.inj H
      go_enter Try.func42, Try.ntmps42
      go_wp2_with (first | ((with_reducible refine gate_dst (N := 1) rfl ?_); (try (refine gate_guard (by rfl) ?_; dsimp only)); refine box_event ?hg (N := 1) ?hd (cs := #[.int .i64 a0_0, .int .i64 a0_1, .slice A0_2 l0_2.length c0_2, .slice A0_3 l0_3.length c0_3]) (t := 31) ?hr ?_; (case hd => rfl); (case hg => rfl); (case hr => first | (go_simp; done) | (go_simp; rfl)); intro gb325 hg w9 hbox hb; have n0_ := Aside0.mk (below_step (q9_5) hb); have n1_ := Aside0.mk (hbox); have n2_ := Aside0.mk ((q9_1 : w.heap.size ≤ gb325)); have n3_ := Aside0.mk ((q9_1 : w.heap.size ≤ gb325)); clear HB; have HB := n0_; have BK325 := n1_; have GW325 := n2_; have GE325 := n3_; clear n0_ n1_ n2_ n3_; clear hb hbox hg; have hcz10_0 : w9.cell? ⟨gb325, 0, none⟩ = some (.int .i64 a0_0) := (blk_cell BK325.out 0).trans rfl; have hcz10_1 : w9.cell? ⟨gb325, 1, none⟩ = some (.int .i64 a0_1) := (blk_cell BK325.out 1).trans rfl; have hcz10_2 : w9.cell? ⟨gb325, 2, none⟩ = some (.slice A0_2 l0_2.length c0_2) := (blk_cell BK325.out 2).trans rfl; have hcz10_3 : w9.cell? ⟨gb325, 3, none⟩ = some (.slice A0_3 l0_3.length c0_3) := (blk_cell BK325.out 3).trans rfl; have hfz10_0 := blk_frozen BK325.out 0; have hfz10_1 := blk_frozen BK325.out 1; have hfz10_2 := blk_frozen BK325.out 2; have hfz10_3 := blk_frozen BK325.out 3))
      go_ret
      exact ⟨q9_7, q9_3⟩
  · rw [if_neg c2] at H
    have c2b0 : (a0_0 == 0) = false := beq_eq_false_iff_ne.mpr c2
    have c2b1 : (a0_0 != 0) = true := bne_iff_ne.mpr c2
    obtain rfl := Option.some.inj H
    go_enter Try.func42, Try.ntmps42
    go_wp2_with (first | ((with_reducible refine gate_dst (N := 1) rfl ?_); (try (refine gate_guard (by rfl) ?_; dsimp only)); refine box_event ?hg (N := 1) ?hd (cs := #[.int .i64 a0_0, .int .i64 a0_1, .slice A0_2 l0_2.length c0_2, .slice A0_3 l0_3.length c0_3]) (t := 31) ?hr ?_; (case hd => rfl); (case hg => rfl); (case hr => first | (go_simp; done) | (go_simp; rfl)); intro gb325 hg w11 hbox hb; have n0_ := Aside0.mk (below_step (q9_5) hb); have n1_ := Aside0.mk (hbox); have n2_ := Aside0.mk ((q9_1 : w.heap.size ≤ gb325)); have n3_ := Aside0.mk ((q9_1 : w.heap.size ≤ gb325)); clear HB; have HB := n0_; have BK325 := n1_; have GW325 := n2_; have GE325 := n3_; clear n0_ n1_ n2_ n3_; clear hb hbox hg; have hcz12_0 : w11.cell? ⟨gb325, 0, none⟩ = some (.int .i64 a0_0) := (blk_cell BK325.out 0).trans rfl; have hcz12_1 : w11.cell? ⟨gb325, 1, none⟩ = some (.int .i64 a0_1) := (blk_cell BK325.out 1).trans rfl; have hcz12_2 : w11.cell? ⟨gb325, 2, none⟩ = some (.slice A0_2 l0_2.length c0_2) := (blk_cell BK325.out 2).trans rfl; have hcz12_3 : w11.cell? ⟨gb325, 3, none⟩ = some (.slice A0_3 l0_3.length c0_3) := (blk_cell BK325.out 3).trans rfl; have hfz12_0 := blk_frozen BK325.out 0; have hfz12_1 := blk_frozen BK325.out 1; have hfz12_2 := blk_frozen BK325.out 2; have hfz12_3 := blk_frozen BK325.out 3))
    go_ret
    exact ⟨q9_7, q9_3⟩

/-! ### impl_MsgOk: function 10 -/
def impl_MsgOk.j0 : Nat → Bool → Int → Int → Int → Int → List Int → List ByteArray → List (S103) → ByteArray → Option (Bool)
  | 0, _, _, _, _, _, _, _, _, _ => none
  | k + 1, x3, x327000, x327001, x327002, x327003, x327004, x327005, x327006, x327007 => if x327000 = 0 then ((impl_SigOk.f k x327002 x327003 x327004 x327005).bind fun t328 => (if t328 = true then (some x3) else (some false))) else (if x327000 = 1 then ((impl_tokensText.f x327006).bind fun bt329 => ((impl_Sig_isNone.f x327002 x327003 x327004 x327005).bind fun t331 => (if t331 = true then (if bt329.2 = true then (some ((x327007.size : Int) == 16)) else (some false)) else (some false)))) else (if x327000 = 2 then ((impl_Sig_isNone.f x327002 x327003 x327004 x327005).bind fun t332 => (if t332 = true then (some x3) else (some false))) else (some false)))
def impl_MsgOk.f (k : Nat) (a0_0 : Int) (a0_1 : Int) (a0_2 : Int) (a0_3 : Int) (l0_4 : List Int) (l0_5 : List ByteArray) (l0_6 : List (S103)) (a0_7 : ByteArray) : Option (Bool) := (impl_within.f a0_1 0 1000).bind fun t327 => (if t327 = true then (if (l0_6.length : Int) = 0 then (impl_MsgOk.j0 k (a0_7.toList == ([] : List UInt8)) a0_0 a0_1 a0_2 a0_3 l0_4 l0_5 l0_6 a0_7) else (impl_MsgOk.j0 k false a0_0 a0_1 a0_2 a0_3 l0_4 l0_5 l0_6 a0_7)) else (some false))
theorem impl_MsgOk.mono_l : ∀ k, (∀ y0 y1 y2 y3 y4 y5 y6 y7 y8, LeO (impl_MsgOk.j0 k y0 y1 y2 y3 y4 y5 y6 y7 y8) (impl_MsgOk.j0 (k + 1) y0 y1 y2 y3 y4 y5 y6 y7 y8))
  | 0 => fun _ _ _ _ _ _ _ _ _ r h => by simp [impl_MsgOk.j0] at h
  | k + 1 => by
    have ih0 := impl_MsgOk.mono_l k
    · intro y0 y1 y2 y3 y4 y5 y6 y7 y8
      unfold impl_MsgOk.j0
      repeat' first
      | (with_reducible exact ih0 _ _ _ _ _ _ _ _ _)
      | (with_reducible exact impl_SigOk.mono _ _ _ _ _)
      | (with_reducible exact LeO.refl _)
      | (with_reducible exact LeO.none _)
      | (with_reducible refine LeO.ite ?_ ?_)
      | (with_reducible refine LeO.bind ?_ (fun _ => ?_))
      | exact ih0 _ _ _ _ _ _ _ _ _
      | exact impl_SigOk.mono _ _ _ _ _
      | exact LeO.none _
      | refine LeO.ite ?_ ?_
      | refine LeO.bind ?_ (fun _ => ?_)
theorem impl_MsgOk.mono : ∀ a0 a1 a2 a3 a4 a5 a6 a7 k, LeO (impl_MsgOk.f k a0 a1 a2 a3 a4 a5 a6 a7) (impl_MsgOk.f (k + 1) a0 a1 a2 a3 a4 a5 a6 a7) := by
  intro a0 a1 a2 a3 a4 a5 a6 a7 k
  have ih0 := impl_MsgOk.mono_l k
  unfold impl_MsgOk.f
  repeat' first
      | (with_reducible exact ih0 _ _ _ _ _ _ _ _ _)
      | (with_reducible exact impl_SigOk.mono _ _ _ _ _)
      | (with_reducible exact LeO.refl _)
      | (with_reducible exact LeO.none _)
      | (with_reducible refine LeO.ite ?_ ?_)
      | (with_reducible refine LeO.bind ?_ (fun _ => ?_))
      | exact ih0 _ _ _ _ _ _ _ _ _
      | exact impl_SigOk.mono _ _ _ _ _
      | exact LeO.none _
      | refine LeO.ite ?_ ?_
      | refine LeO.bind ?_ (fun _ => ?_)
set_option maxHeartbeats 8000000 in
set_option maxRecDepth 100000 in
theorem impl_MsgOk.calls (k : Nat) (a0_0 : Int) (a0_1 : Int) (a0_2 : Int) (a0_3 : Int) (A0_4 : Option Addr) (c0_4 : Nat) (l0_4 : List Int) (A0_5 : Option Addr) (c0_5 : Nat) (l0_5 : List ByteArray) (A0_6 : Option Addr) (c0_6 : Nat) (l0_6 : List (S103)) (a0_7 : ByteArray) (r : Bool) (w : World) (hr0_4 : Kd.C (Kd.int .u32) w A0_4 l0_4.length l0_4) (hc0_4 : l0_4.length ≤ c0_4) (hr0_5 : Kd.C Kd.string w A0_5 l0_5.length l0_5) (hc0_5 : l0_5.length ≤ c0_5) (hr0_6 : Kd.C k103 w A0_6 l0_6.length l0_6) (hc0_6 : l0_6.length ≤ c0_6) (h : impl_MsgOk.f k a0_0 a0_1 a0_2 a0_3 l0_4 l0_5 l0_6 a0_7 = some r) :
    Calls Try.prog 10 #[.agg #[.int .i64 a0_0, .int .i64 a0_1, .int .i64 a0_2, .int .i64 a0_3, .slice A0_4 l0_4.length c0_4, .slice A0_5 l0_5.length c0_5, .slice A0_6 l0_6.length c0_6, .string a0_7]] w fun e w' => e = .returned (.bool r) ∧ Below w.heap.size w w' := by
  have hu34 := Try.underlying34
  have hu31 := Try.underlying31
  have HR0_4 := Aside0.mk hr0_4
  have HC0_4 := Aside0.mk hc0_4
  clear hr0_4 hc0_4
  have HR0_5 := Aside0.mk hr0_5
  have HC0_5 := Aside0.mk hc0_5
  clear hr0_5 hc0_5
  have HR0_6 := Aside0.mk hr0_6
  have HC0_6 := Aside0.mk hc0_6
  clear hr0_6 hc0_6
  have HB := Aside0.mk (Below.refl w.heap.size w)
  have H : ((impl_within.f a0_1 0 1000).bind fun t327 => (if t327 = true then (if (l0_6.length : Int) = 0 then (impl_MsgOk.j0 k (a0_7.toList == ([] : List UInt8)) a0_0 a0_1 a0_2 a0_3 l0_4 l0_5 l0_6 a0_7) else (impl_MsgOk.j0 k false a0_0 a0_1 a0_2 a0_3 l0_4 l0_5 l0_6 a0_7)) else (some false))) = some r := h
  clear h
  replace H := Option.bind_eq_some_iff.mp H
  obtain ⟨t327, A20, H⟩ := H
  try dsimp only at H
  have A2 := Aside0.mk A20
  clear A20
  by_cases c3 : t327 = true
  · subst c3
    have H1 : (if (l0_6.length : Int) = 0 then (impl_MsgOk.j0 k (a0_7.toList == ([] : List UInt8)) a0_0 a0_1 a0_2 a0_3 l0_4 l0_5 l0_6 a0_7) else (impl_MsgOk.j0 k false a0_0 a0_1 a0_2 a0_3 l0_4 l0_5 l0_6 a0_7)) = some r := by rw [if_pos rfl] at H; exact H
    clear H
    have H := H1
    clear H1
    have HC4 := Aside0.mk H
    clear H
    go_enter Try.func10, Try.ntmps10
    go_upto_region 3 with (first | ((with_reducible refine gate_dst (N := 1) rfl ?_); (try (refine gate_guard (by rfl) ?_; dsimp only)); refine box_event ?hg (N := 1) ?hd (cs := #[.int .i64 a0_0, .int .i64 a0_1, .int .i64 a0_2, .int .i64 a0_3, .slice A0_4 l0_4.length c0_4, .slice A0_5 l0_5.length c0_5, .slice A0_6 l0_6.length c0_6, .string a0_7]) (t := 34) ?hr ?_; (case hd => rfl); (case hg => rfl); (case hr => first | (go_simp; done) | (go_simp; rfl)); intro gb326 hg w5 hbox hb; have n0_ := Aside0.mk (below_step (q9_5) hb); have n1_ := Aside0.mk (hbox); have n2_ := Aside0.mk ((q9_1 : w.heap.size ≤ gb326)); have n3_ := Aside0.mk ((q9_1 : w.heap.size ≤ gb326)); clear HB; have HB := n0_; have BK326 := n1_; have GW326 := n2_; have GE326 := n3_; clear n0_ n1_ n2_ n3_; clear hb hbox hg; have hcz6_0 : w5.cell? ⟨gb326, 0, none⟩ = some (.int .i64 a0_0) := (blk_cell BK326.out 0).trans rfl; have hcz6_1 : w5.cell? ⟨gb326, 1, none⟩ = some (.int .i64 a0_1) := (blk_cell BK326.out 1).trans rfl; have hcz6_2 : w5.cell? ⟨gb326, 2, none⟩ = some (.int .i64 a0_2) := (blk_cell BK326.out 2).trans rfl; have hcz6_3 : w5.cell? ⟨gb326, 3, none⟩ = some (.int .i64 a0_3) := (blk_cell BK326.out 3).trans rfl; have hcz6_4 : w5.cell? ⟨gb326, 4, none⟩ = some (.slice A0_4 l0_4.length c0_4) := (blk_cell BK326.out 4).trans rfl; have hcz6_5 : w5.cell? ⟨gb326, 5, none⟩ = some (.slice A0_5 l0_5.length c0_5) := (blk_cell BK326.out 5).trans rfl; have hcz6_6 : w5.cell? ⟨gb326, 6, none⟩ = some (.slice A0_6 l0_6.length c0_6) := (blk_cell BK326.out 6).trans rfl; have hcz6_7 : w5.cell? ⟨gb326, 7, none⟩ = some (.string a0_7) := (blk_cell BK326.out 7).trans rfl; have hfz6_0 := blk_frozen BK326.out 0; have hfz6_1 := blk_frozen BK326.out 1; have hfz6_2 := blk_frozen BK326.out 2; have hfz6_3 := blk_frozen BK326.out 3; have hfz6_4 := blk_frozen BK326.out 4; have hfz6_5 := blk_frozen BK326.out 5; have hfz6_6 := blk_frozen BK326.out 6; have hfz6_7 := blk_frozen BK326.out 7) | ((with_reducible refine gate_callee (f := 39) rfl ?_); refine goesL_ (some 8) rfl rfl Try.func39 (q9_9) rfl #[.int .i64 a0_1, .int .i64 0, .int .i64 1000] rfl (q9_4) ?_; (with_reducible refine (impl_within.calls a0_1 0 1000 true _ A2.out).mono ?_); rintro e w' ⟨rfl, ⟨nd, rfl⟩⟩; refine ⟨_, rfl, ?_⟩))
    (try simp only [Act.put, List.setIfInBounds_toArray, List.set_cons_zero, List.set_cons_succ])
    go_cut [3] (fun v3 wc => ∃ (kq : Nat) (x3_3 : Bool), v3 = .bool x3_3 ∧ Aside0 (impl_MsgOk.j0 kq x3_3 a0_0 a0_1 a0_2 a0_3 l0_4 l0_5 l0_6 a0_7 = some r) ∧ Aside0 (kq ≤ k) ∧ Aside0 (wc.heap[gb326]? = some (.cells #[.int .i64 a0_0, .int .i64 a0_1, .int .i64 a0_2, .int .i64 a0_3, (.slice A0_4 l0_4.length c0_4), (.slice A0_5 l0_5.length c0_5), (.slice A0_6 l0_6.length c0_6), .string a0_7] 34 (0, 0))) ∧ Aside0 (Below w.heap.size w wc))
    case first =>
      have H := HC4.out
      clear HC4
      by_cases c7 : (l0_6.length : Int) = 0
      · rw [if_pos c7] at H
        have c7b0 : ((l0_6.length : Int) == 0) = true := beq_iff_eq.mpr c7
        have c7b1 : ((l0_6.length : Int) != 0) = false := bne_eq_false_iff_eq.mpr c7
        clear c7
        (first | rw [c7b0] | (simp only [i64_w, i32_w]; rw [c7b0]) | skip)
        have H' := Aside0.mk H
        clear H
        have hcz8_0 : w5.cell? ⟨gb326, 0, none⟩ = some (.int .i64 a0_0) := (blk_cell BK326.out 0).trans rfl
        have hcz8_1 : w5.cell? ⟨gb326, 1, none⟩ = some (.int .i64 a0_1) := (blk_cell BK326.out 1).trans rfl
        have hcz8_2 : w5.cell? ⟨gb326, 2, none⟩ = some (.int .i64 a0_2) := (blk_cell BK326.out 2).trans rfl
        have hcz8_3 : w5.cell? ⟨gb326, 3, none⟩ = some (.int .i64 a0_3) := (blk_cell BK326.out 3).trans rfl
        have hcz8_4 : w5.cell? ⟨gb326, 4, none⟩ = some (.slice A0_4 l0_4.length c0_4) := (blk_cell BK326.out 4).trans rfl
        have hcz8_5 : w5.cell? ⟨gb326, 5, none⟩ = some (.slice A0_5 l0_5.length c0_5) := (blk_cell BK326.out 5).trans rfl
        have hcz8_6 : w5.cell? ⟨gb326, 6, none⟩ = some (.slice A0_6 l0_6.length c0_6) := (blk_cell BK326.out 6).trans rfl
        have hcz8_7 : w5.cell? ⟨gb326, 7, none⟩ = some (.string a0_7) := (blk_cell BK326.out 7).trans rfl
        have hfz8_0 := blk_frozen BK326.out 0
        have hfz8_1 := blk_frozen BK326.out 1
        have hfz8_2 := blk_frozen BK326.out 2
        have hfz8_3 := blk_frozen BK326.out 3
        have hfz8_4 := blk_frozen BK326.out 4
        have hfz8_5 := blk_frozen BK326.out 5
        have hfz8_6 := blk_frozen BK326.out 6
        have hfz8_7 := blk_frozen BK326.out 7
        go_wp2
        go_meet
        case rel => exact ⟨_, ((a0_7.toList == ([] : List UInt8))), (by first | rfl | (simp; done) | (simp [*]; done)), H', ⟨by first | omega | exact Nat.le_refl _⟩, ⟨q9_6⟩, ⟨q9_2⟩⟩
      · rw [if_neg c7] at H
        have c7b0 : ((l0_6.length : Int) == 0) = false := beq_eq_false_iff_ne.mpr c7
        have c7b1 : ((l0_6.length : Int) != 0) = true := bne_iff_ne.mpr c7
        have c7b2 : ¬ (l0_6 = []) := fun h_ => c7 (by rw [h_]; rfl)
        (first | rw [c7b0] | (simp only [i64_w, i32_w]; rw [c7b0]) | skip)
        have H' := Aside0.mk H
        clear H
        have hcz9_0 : w5.cell? ⟨gb326, 0, none⟩ = some (.int .i64 a0_0) := (blk_cell BK326.out 0).trans rfl
        have hcz9_1 : w5.cell? ⟨gb326, 1, none⟩ = some (.int .i64 a0_1) := (blk_cell BK326.out 1).trans rfl
        have hcz9_2 : w5.cell? ⟨gb326, 2, none⟩ = some (.int .i64 a0_2) := (blk_cell BK326.out 2).trans rfl
        have hcz9_3 : w5.cell? ⟨gb326, 3, none⟩ = some (.int .i64 a0_3) := (blk_cell BK326.out 3).trans rfl
        have hcz9_4 : w5.cell? ⟨gb326, 4, none⟩ = some (.slice A0_4 l0_4.length c0_4) := (blk_cell BK326.out 4).trans rfl
        have hcz9_5 : w5.cell? ⟨gb326, 5, none⟩ = some (.slice A0_5 l0_5.length c0_5) := (blk_cell BK326.out 5).trans rfl
        have hcz9_6 : w5.cell? ⟨gb326, 6, none⟩ = some (.slice A0_6 l0_6.length c0_6) := (blk_cell BK326.out 6).trans rfl
        have hcz9_7 : w5.cell? ⟨gb326, 7, none⟩ = some (.string a0_7) := (blk_cell BK326.out 7).trans rfl
        have hfz9_0 := blk_frozen BK326.out 0
        have hfz9_1 := blk_frozen BK326.out 1
        have hfz9_2 := blk_frozen BK326.out 2
        have hfz9_3 := blk_frozen BK326.out 3
        have hfz9_4 := blk_frozen BK326.out 4
        have hfz9_5 := blk_frozen BK326.out 5
        have hfz9_6 := blk_frozen BK326.out 6
        have hfz9_7 := blk_frozen BK326.out 7
        go_wp2
        go_meet
        case rel => exact ⟨_, (false), (by first | rfl | (simp; done) | (simp [*]; done)), H', ⟨by first | omega | exact Nat.le_refl _⟩, ⟨q9_6⟩, ⟨q9_2⟩⟩
    case rest =>
      clear HC4
      try clear c1
      try clear p2
      try clear c3
      try clear c7
      try clear c7b0
      try clear c7b1
      try clear c7b2
      try clear hcz6_0
      try clear hcz6_1
      try clear hcz6_2
      try clear hcz6_3
      try clear hcz6_4
      try clear hcz6_5
      try clear hcz6_6
      try clear hcz6_7
      try clear hcz8_0
      try clear hcz8_1
      try clear hcz8_2
      try clear hcz8_3
      try clear hcz8_4
      try clear hcz8_5
      try clear hcz8_6
      try clear hcz8_7
      try clear hcz9_0
      try clear hcz9_1
      try clear hcz9_2
      try clear hcz9_3
      try clear hcz9_4
      try clear hcz9_5
      try clear hcz9_6
      try clear hcz9_7
      try clear hfz6_0
      try clear hfz6_1
      try clear hfz6_2
      try clear hfz6_3
      try clear hfz6_4
      try clear hfz6_5
      try clear hfz6_6
      try clear hfz6_7
      try clear hfz8_0
      try clear hfz8_1
      try clear hfz8_2
      try clear hfz8_3
      try clear hfz8_4
      try clear hfz8_5
      try clear hfz8_6
      try clear hfz8_7
      try clear hfz9_0
      try clear hfz9_1
      try clear hfz9_2
      try clear hfz9_3
      try clear hfz9_4
      try clear hfz9_5
      try clear hfz9_6
      try clear hfz9_7
      obtain ⟨kq, x3_3, rfl, HA, HJ3, BK326, HB⟩ := hcut
      cases kq with
      | zero => exact absurd HA.out (by simp [impl_MsgOk.j0])
      | succ kj3 =>
        have H := HA.out
        clear HA
        simp only [impl_MsgOk.j0] at H
        by_cases c10 : a0_0 = 0
        · rw [if_pos c10] at H
          have c10b0 : (a0_0 == 0) = true := beq_iff_eq.mpr c10
          have c10b1 : (a0_0 != 0) = false := bne_eq_false_iff_eq.mpr c10
          clear c10
          replace H := Option.bind_eq_some_iff.mp H
          obtain ⟨t328, A110, H⟩ := H
          try dsimp only at H
          have A11 := Aside0.mk A110
          clear A110
          by_cases c12 : t328 = true
          · subst c12
            have H1 : (some x3_3) = some r := by rw [if_pos rfl] at H; exact H
            clear H
            have H := H1
            clear H1
            obtain rfl := Option.some.inj H
            have hcz13_0 : wc.cell? ⟨gb326, 0, none⟩ = some (.int .i64 a0_0) := (blk_cell BK326.out 0).trans rfl
            have hcz13_1 : wc.cell? ⟨gb326, 1, none⟩ = some (.int .i64 a0_1) := (blk_cell BK326.out 1).trans rfl
            have hcz13_2 : wc.cell? ⟨gb326, 2, none⟩ = some (.int .i64 a0_2) := (blk_cell BK326.out 2).trans rfl
            have hcz13_3 : wc.cell? ⟨gb326, 3, none⟩ = some (.int .i64 a0_3) := (blk_cell BK326.out 3).trans rfl
            have hcz13_4 : wc.cell? ⟨gb326, 4, none⟩ = some (.slice A0_4 l0_4.length c0_4) := (blk_cell BK326.out 4).trans rfl
            have hcz13_5 : wc.cell? ⟨gb326, 5, none⟩ = some (.slice A0_5 l0_5.length c0_5) := (blk_cell BK326.out 5).trans rfl
            have hcz13_6 : wc.cell? ⟨gb326, 6, none⟩ = some (.slice A0_6 l0_6.length c0_6) := (blk_cell BK326.out 6).trans rfl
            have hcz13_7 : wc.cell? ⟨gb326, 7, none⟩ = some (.string a0_7) := (blk_cell BK326.out 7).trans rfl
            have hfz13_0 := blk_frozen BK326.out 0
            have hfz13_1 := blk_frozen BK326.out 1
            have hfz13_2 := blk_frozen BK326.out 2
            have hfz13_3 := blk_frozen BK326.out 3
            have hfz13_4 := blk_frozen BK326.out 4
            have hfz13_5 := blk_frozen BK326.out 5
            have hfz13_6 := blk_frozen BK326.out 6
            have hfz13_7 := blk_frozen BK326.out 7
            go_wp2_with (first | ((with_reducible refine gate_callee (f := 40) rfl ?_); refine goesL_ (some 25) rfl rfl Try.func40 (q9_9) rfl #[.agg #[.int .i64 a0_2, .int .i64 a0_3, .slice A0_4 l0_4.length c0_4, .slice A0_5 l0_5.length c0_5]] rfl (q9_4) ?_; (with_reducible refine (impl_SigOk.calls kj3 a0_2 a0_3 _ _ l0_4 _ _ l0_5 true _ ?side1 ?side2 ?side3 ?side4 A11.out).mono ?_); (case side1 => repeat (first | exact (Kd.C_below HR0_4.out HB.out) | (with_reducible refine Kd.C_alloc ?_ _) | (with_reducible refine Kd.C_drewN ?_ _) | (with_reducible refine Kd.C_drew ?_))); (case side2 => exact HC0_4.out); (case side3 => repeat (first | exact (Kd.C_below HR0_5.out HB.out) | (with_reducible refine Kd.C_alloc ?_ _) | (with_reducible refine Kd.C_drewN ?_ _) | (with_reducible refine Kd.C_drew ?_))); (case side4 => exact HC0_5.out); rintro e w14 ⟨rfl, hb⟩; refine ⟨_, rfl, ?_⟩; have n0_ := Aside0.mk (blk_below (g := gb326) (o := .cells #[.int .i64 a0_0, .int .i64 a0_1, .int .i64 a0_2, .int .i64 a0_3, .slice A0_4 l0_4.length c0_4, .slice A0_5 l0_5.length c0_5, .slice A0_6 l0_6.length c0_6, .string a0_7] 34 (0, 0)) (q9_6) hb); have n1_ := Aside0.mk (below_step (q9_2) hb); clear BK326; clear HB; have BK326 := n0_; have HB := n1_; clear n0_ n1_; (try clear hb); (try clear hb2); (try clear hk); (try clear hi)))
            go_ret
            exact ⟨q9_7, q9_2⟩
          · replace c12 := Bool.eq_false_iff.mpr c12
            subst c12
            have H1 : (some false) = some r := by rw [if_neg (show ¬ (false = true) by decide)] at H; exact H
            clear H
            have H := H1
            clear H1
            obtain rfl := Option.some.inj H
            have hcz15_0 : wc.cell? ⟨gb326, 0, none⟩ = some (.int .i64 a0_0) := (blk_cell BK326.out 0).trans rfl
            have hcz15_1 : wc.cell? ⟨gb326, 1, none⟩ = some (.int .i64 a0_1) := (blk_cell BK326.out 1).trans rfl
            have hcz15_2 : wc.cell? ⟨gb326, 2, none⟩ = some (.int .i64 a0_2) := (blk_cell BK326.out 2).trans rfl
            have hcz15_3 : wc.cell? ⟨gb326, 3, none⟩ = some (.int .i64 a0_3) := (blk_cell BK326.out 3).trans rfl
            have hcz15_4 : wc.cell? ⟨gb326, 4, none⟩ = some (.slice A0_4 l0_4.length c0_4) := (blk_cell BK326.out 4).trans rfl
            have hcz15_5 : wc.cell? ⟨gb326, 5, none⟩ = some (.slice A0_5 l0_5.length c0_5) := (blk_cell BK326.out 5).trans rfl
            have hcz15_6 : wc.cell? ⟨gb326, 6, none⟩ = some (.slice A0_6 l0_6.length c0_6) := (blk_cell BK326.out 6).trans rfl
            have hcz15_7 : wc.cell? ⟨gb326, 7, none⟩ = some (.string a0_7) := (blk_cell BK326.out 7).trans rfl
            have hfz15_0 := blk_frozen BK326.out 0
            have hfz15_1 := blk_frozen BK326.out 1
            have hfz15_2 := blk_frozen BK326.out 2
            have hfz15_3 := blk_frozen BK326.out 3
            have hfz15_4 := blk_frozen BK326.out 4
            have hfz15_5 := blk_frozen BK326.out 5
            have hfz15_6 := blk_frozen BK326.out 6
            have hfz15_7 := blk_frozen BK326.out 7
            go_wp2_with (first | ((with_reducible refine gate_callee (f := 40) rfl ?_); refine goesL_ (some 25) rfl rfl Try.func40 (q9_9) rfl #[.agg #[.int .i64 a0_2, .int .i64 a0_3, .slice A0_4 l0_4.length c0_4, .slice A0_5 l0_5.length c0_5]] rfl (q9_4) ?_; (with_reducible refine (impl_SigOk.calls kj3 a0_2 a0_3 _ _ l0_4 _ _ l0_5 false _ ?side1 ?side2 ?side3 ?side4 A11.out).mono ?_); (case side1 => repeat (first | exact (Kd.C_below HR0_4.out HB.out) | (with_reducible refine Kd.C_alloc ?_ _) | (with_reducible refine Kd.C_drewN ?_ _) | (with_reducible refine Kd.C_drew ?_))); (case side2 => exact HC0_4.out); (case side3 => repeat (first | exact (Kd.C_below HR0_5.out HB.out) | (with_reducible refine Kd.C_alloc ?_ _) | (with_reducible refine Kd.C_drewN ?_ _) | (with_reducible refine Kd.C_drew ?_))); (case side4 => exact HC0_5.out); rintro e w16 ⟨rfl, hb⟩; refine ⟨_, rfl, ?_⟩; have n0_ := Aside0.mk (blk_below (g := gb326) (o := .cells #[.int .i64 a0_0, .int .i64 a0_1, .int .i64 a0_2, .int .i64 a0_3, .slice A0_4 l0_4.length c0_4, .slice A0_5 l0_5.length c0_5, .slice A0_6 l0_6.length c0_6, .string a0_7] 34 (0, 0)) (q9_6) hb); have n1_ := Aside0.mk (below_step (q9_2) hb); clear BK326; clear HB; have BK326 := n0_; have HB := n1_; clear n0_ n1_; (try clear hb); (try clear hb2); (try clear hk); (try clear hi)))
            go_ret
            exact ⟨q9_7, q9_2⟩
        · rw [if_neg c10] at H
          have c10b0 : (a0_0 == 0) = false := beq_eq_false_iff_ne.mpr c10
          have c10b1 : (a0_0 != 0) = true := bne_iff_ne.mpr c10
          by_cases c17 : a0_0 = 1
          · rw [if_pos c17] at H
            have c17b0 : (a0_0 == 1) = true := beq_iff_eq.mpr c17
            have c17b1 : (a0_0 != 1) = false := bne_eq_false_iff_eq.mpr c17
            clear c17
            replace H := Option.bind_eq_some_iff.mp H
            obtain ⟨⟨t329, t330⟩, A180, H⟩ := H
            try dsimp only at H
            have A18 := Aside0.mk A180
            clear A180
            replace H := Option.bind_eq_some_iff.mp H
            obtain ⟨t331, A190, H⟩ := H
            try dsimp only at H
            have A19 := Aside0.mk A190
            clear A190
            by_cases c20 : t331 = true
            · subst c20
              have H1 : (if t330 = true then (some ((a0_7.size : Int) == 16)) else (some false)) = some r := by rw [if_pos rfl] at H; exact H
              clear H
              have H := H1
              clear H1
              by_cases c21 : t330 = true
              · subst c21
                have H1 : (some ((a0_7.size : Int) == 16)) = some r := by rw [if_pos rfl] at H; exact H
                clear H
                have H := H1
                clear H1
                obtain rfl := Option.some.inj H
                have hcz22_0 : wc.cell? ⟨gb326, 0, none⟩ = some (.int .i64 a0_0) := (blk_cell BK326.out 0).trans rfl
                have hcz22_1 : wc.cell? ⟨gb326, 1, none⟩ = some (.int .i64 a0_1) := (blk_cell BK326.out 1).trans rfl
                have hcz22_2 : wc.cell? ⟨gb326, 2, none⟩ = some (.int .i64 a0_2) := (blk_cell BK326.out 2).trans rfl
                have hcz22_3 : wc.cell? ⟨gb326, 3, none⟩ = some (.int .i64 a0_3) := (blk_cell BK326.out 3).trans rfl
                have hcz22_4 : wc.cell? ⟨gb326, 4, none⟩ = some (.slice A0_4 l0_4.length c0_4) := (blk_cell BK326.out 4).trans rfl
                have hcz22_5 : wc.cell? ⟨gb326, 5, none⟩ = some (.slice A0_5 l0_5.length c0_5) := (blk_cell BK326.out 5).trans rfl
                have hcz22_6 : wc.cell? ⟨gb326, 6, none⟩ = some (.slice A0_6 l0_6.length c0_6) := (blk_cell BK326.out 6).trans rfl
                have hcz22_7 : wc.cell? ⟨gb326, 7, none⟩ = some (.string a0_7) := (blk_cell BK326.out 7).trans rfl
                have hfz22_0 := blk_frozen BK326.out 0
                have hfz22_1 := blk_frozen BK326.out 1
                have hfz22_2 := blk_frozen BK326.out 2
                have hfz22_3 := blk_frozen BK326.out 3
                have hfz22_4 := blk_frozen BK326.out 4
                have hfz22_5 := blk_frozen BK326.out 5
                have hfz22_6 := blk_frozen BK326.out 6
                have hfz22_7 := blk_frozen BK326.out 7
                go_wp2_with (first | ((with_reducible refine gate_callee (f := 41) rfl ?_); refine goesL_ (some 34) rfl rfl Try.func41 (q9_9) rfl #[.slice A0_6 l0_6.length c0_6] rfl (q9_4) ?_; (with_reducible refine (impl_tokensText.calls _ _ l0_6 t329 true _ ?side1 ?side2 A18.out).mono ?_); (case side1 => repeat (first | exact (Kd.C_below HR0_6.out HB.out) | (with_reducible refine Kd.C_alloc ?_ _) | (with_reducible refine Kd.C_drewN ?_ _) | (with_reducible refine Kd.C_drew ?_))); (case side2 => exact HC0_6.out); rintro e w23 ⟨rfl, hb⟩; refine ⟨_, rfl, ?_⟩; have n0_ := Aside0.mk (blk_below (g := gb326) (o := .cells #[.int .i64 a0_0, .int .i64 a0_1, .int .i64 a0_2, .int .i64 a0_3, .slice A0_4 l0_4.length c0_4, .slice A0_5 l0_5.length c0_5, .slice A0_6 l0_6.length c0_6, .string a0_7] 34 (0, 0)) (q9_6) hb); have n1_ := Aside0.mk (below_step (q9_2) hb); clear BK326; clear HB; have BK326 := n0_; have HB := n1_; clear n0_ n1_; (try clear hb); (try clear hb2); (try clear hk); (try clear hi); have hcz24_0 : w23.cell? ⟨gb326, 0, none⟩ = some (.int .i64 a0_0) := (blk_cell BK326.out 0).trans rfl; have hcz24_1 : w23.cell? ⟨gb326, 1, none⟩ = some (.int .i64 a0_1) := (blk_cell BK326.out 1).trans rfl; have hcz24_2 : w23.cell? ⟨gb326, 2, none⟩ = some (.int .i64 a0_2) := (blk_cell BK326.out 2).trans rfl; have hcz24_3 : w23.cell? ⟨gb326, 3, none⟩ = some (.int .i64 a0_3) := (blk_cell BK326.out 3).trans rfl; have hcz24_4 : w23.cell? ⟨gb326, 4, none⟩ = some (.slice A0_4 l0_4.length c0_4) := (blk_cell BK326.out 4).trans rfl; have hcz24_5 : w23.cell? ⟨gb326, 5, none⟩ = some (.slice A0_5 l0_5.length c0_5) := (blk_cell BK326.out 5).trans rfl; have hcz24_6 : w23.cell? ⟨gb326, 6, none⟩ = some (.slice A0_6 l0_6.length c0_6) := (blk_cell BK326.out 6).trans rfl; have hcz24_7 : w23.cell? ⟨gb326, 7, none⟩ = some (.string a0_7) := (blk_cell BK326.out 7).trans rfl; have hfz24_0 := blk_frozen BK326.out 0; have hfz24_1 := blk_frozen BK326.out 1; have hfz24_2 := blk_frozen BK326.out 2; have hfz24_3 := blk_frozen BK326.out 3; have hfz24_4 := blk_frozen BK326.out 4; have hfz24_5 := blk_frozen BK326.out 5; have hfz24_6 := blk_frozen BK326.out 6; have hfz24_7 := blk_frozen BK326.out 7) | ((with_reducible refine gate_callee (f := 42) rfl ?_); refine goesL_ (some 39) rfl rfl Try.func42 (q9_9) rfl #[.agg #[.int .i64 a0_2, .int .i64 a0_3, .slice A0_4 l0_4.length c0_4, .slice A0_5 l0_5.length c0_5]] rfl (q9_4) ?_; (with_reducible refine (impl_Sig_isNone.calls a0_2 a0_3 _ _ l0_4 _ _ l0_5 true _ ?side1 ?side2 ?side3 ?side4 A19.out).mono ?_); (case side1 => repeat (first | exact (Kd.C_below HR0_4.out HB.out) | (with_reducible refine Kd.C_alloc ?_ _) | (with_reducible refine Kd.C_drewN ?_ _) | (with_reducible refine Kd.C_drew ?_))); (case side2 => exact HC0_4.out); (case side3 => repeat (first | exact (Kd.C_below HR0_5.out HB.out) | (with_reducible refine Kd.C_alloc ?_ _) | (with_reducible refine Kd.C_drewN ?_ _) | (with_reducible refine Kd.C_drew ?_))); (case side4 => exact HC0_5.out); rintro e w25 ⟨rfl, hb⟩; refine ⟨_, rfl, ?_⟩; have n0_ := Aside0.mk (blk_below (g := gb326) (o := .cells #[.int .i64 a0_0, .int .i64 a0_1, .int .i64 a0_2, .int .i64 a0_3, .slice A0_4 l0_4.length c0_4, .slice A0_5 l0_5.length c0_5, .slice A0_6 l0_6.length c0_6, .string a0_7] 34 (0, 0)) (q9_6) hb); have n1_ := Aside0.mk (below_step (q9_2) hb); clear BK326; clear HB; have BK326 := n0_; have HB := n1_; clear n0_ n1_; (try clear hb); (try clear hb2); (try clear hk); (try clear hi); have hcz26_0 : w25.cell? ⟨gb326, 0, none⟩ = some (.int .i64 a0_0) := (blk_cell BK326.out 0).trans rfl; have hcz26_1 : w25.cell? ⟨gb326, 1, none⟩ = some (.int .i64 a0_1) := (blk_cell BK326.out 1).trans rfl; have hcz26_2 : w25.cell? ⟨gb326, 2, none⟩ = some (.int .i64 a0_2) := (blk_cell BK326.out 2).trans rfl; have hcz26_3 : w25.cell? ⟨gb326, 3, none⟩ = some (.int .i64 a0_3) := (blk_cell BK326.out 3).trans rfl; have hcz26_4 : w25.cell? ⟨gb326, 4, none⟩ = some (.slice A0_4 l0_4.length c0_4) := (blk_cell BK326.out 4).trans rfl; have hcz26_5 : w25.cell? ⟨gb326, 5, none⟩ = some (.slice A0_5 l0_5.length c0_5) := (blk_cell BK326.out 5).trans rfl; have hcz26_6 : w25.cell? ⟨gb326, 6, none⟩ = some (.slice A0_6 l0_6.length c0_6) := (blk_cell BK326.out 6).trans rfl; have hcz26_7 : w25.cell? ⟨gb326, 7, none⟩ = some (.string a0_7) := (blk_cell BK326.out 7).trans rfl; have hfz26_0 := blk_frozen BK326.out 0; have hfz26_1 := blk_frozen BK326.out 1; have hfz26_2 := blk_frozen BK326.out 2; have hfz26_3 := blk_frozen BK326.out 3; have hfz26_4 := blk_frozen BK326.out 4; have hfz26_5 := blk_frozen BK326.out 5; have hfz26_6 := blk_frozen BK326.out 6; have hfz26_7 := blk_frozen BK326.out 7))
                go_ret
                exact ⟨q9_7, q9_2⟩
              · replace c21 := Bool.eq_false_iff.mpr c21
                subst c21
                have H1 : (some false) = some r := by rw [if_neg (show ¬ (false = true) by decide)] at H; exact H
                clear H
                have H := H1
                clear H1
                obtain rfl := Option.some.inj H
                have hcz27_0 : wc.cell? ⟨gb326, 0, none⟩ = some (.int .i64 a0_0) := (blk_cell BK326.out 0).trans rfl
                have hcz27_1 : wc.cell? ⟨gb326, 1, none⟩ = some (.int .i64 a0_1) := (blk_cell BK326.out 1).trans rfl
                have hcz27_2 : wc.cell? ⟨gb326, 2, none⟩ = some (.int .i64 a0_2) := (blk_cell BK326.out 2).trans rfl
                have hcz27_3 : wc.cell? ⟨gb326, 3, none⟩ = some (.int .i64 a0_3) := (blk_cell BK326.out 3).trans rfl
                have hcz27_4 : wc.cell? ⟨gb326, 4, none⟩ = some (.slice A0_4 l0_4.length c0_4) := (blk_cell BK326.out 4).trans rfl
                have hcz27_5 : wc.cell? ⟨gb326, 5, none⟩ = some (.slice A0_5 l0_5.length c0_5) := (blk_cell BK326.out 5).trans rfl
                have hcz27_6 : wc.cell? ⟨gb326, 6, none⟩ = some (.slice A0_6 l0_6.length c0_6) := (blk_cell BK326.out 6).trans rfl
                have hcz27_7 : wc.cell? ⟨gb326, 7, none⟩ = some (.string a0_7) := (blk_cell BK326.out 7).trans rfl
                have hfz27_0 := blk_frozen BK326.out 0
                have hfz27_1 := blk_frozen BK326.out 1
                have hfz27_2 := blk_frozen BK326.out 2
                have hfz27_3 := blk_frozen BK326.out 3
                have hfz27_4 := blk_frozen BK326.out 4
                have hfz27_5 := blk_frozen BK326.out 5
                have hfz27_6 := blk_frozen BK326.out 6
                have hfz27_7 := blk_frozen BK326.out 7
                go_wp2_with (first | ((with_reducible refine gate_callee (f := 41) rfl ?_); refine goesL_ (some 34) rfl rfl Try.func41 (q9_9) rfl #[.slice A0_6 l0_6.length c0_6] rfl (q9_4) ?_; (with_reducible refine (impl_tokensText.calls _ _ l0_6 t329 false _ ?side1 ?side2 A18.out).mono ?_); (case side1 => repeat (first | exact (Kd.C_below HR0_6.out HB.out) | (with_reducible refine Kd.C_alloc ?_ _) | (with_reducible refine Kd.C_drewN ?_ _) | (with_reducible refine Kd.C_drew ?_))); (case side2 => exact HC0_6.out); rintro e w28 ⟨rfl, hb⟩; refine ⟨_, rfl, ?_⟩; have n0_ := Aside0.mk (blk_below (g := gb326) (o := .cells #[.int .i64 a0_0, .int .i64 a0_1, .int .i64 a0_2, .int .i64 a0_3, .slice A0_4 l0_4.length c0_4, .slice A0_5 l0_5.length c0_5, .slice A0_6 l0_6.length c0_6, .string a0_7] 34 (0, 0)) (q9_6) hb); have n1_ := Aside0.mk (below_step (q9_2) hb); clear BK326; clear HB; have BK326 := n0_; have HB := n1_; clear n0_ n1_; (try clear hb); (try clear hb2); (try clear hk); (try clear hi); have hcz29_0 : w28.cell? ⟨gb326, 0, none⟩ = some (.int .i64 a0_0) := (blk_cell BK326.out 0).trans rfl; have hcz29_1 : w28.cell? ⟨gb326, 1, none⟩ = some (.int .i64 a0_1) := (blk_cell BK326.out 1).trans rfl; have hcz29_2 : w28.cell? ⟨gb326, 2, none⟩ = some (.int .i64 a0_2) := (blk_cell BK326.out 2).trans rfl; have hcz29_3 : w28.cell? ⟨gb326, 3, none⟩ = some (.int .i64 a0_3) := (blk_cell BK326.out 3).trans rfl; have hcz29_4 : w28.cell? ⟨gb326, 4, none⟩ = some (.slice A0_4 l0_4.length c0_4) := (blk_cell BK326.out 4).trans rfl; have hcz29_5 : w28.cell? ⟨gb326, 5, none⟩ = some (.slice A0_5 l0_5.length c0_5) := (blk_cell BK326.out 5).trans rfl; have hcz29_6 : w28.cell? ⟨gb326, 6, none⟩ = some (.slice A0_6 l0_6.length c0_6) := (blk_cell BK326.out 6).trans rfl; have hcz29_7 : w28.cell? ⟨gb326, 7, none⟩ = some (.string a0_7) := (blk_cell BK326.out 7).trans rfl; have hfz29_0 := blk_frozen BK326.out 0; have hfz29_1 := blk_frozen BK326.out 1; have hfz29_2 := blk_frozen BK326.out 2; have hfz29_3 := blk_frozen BK326.out 3; have hfz29_4 := blk_frozen BK326.out 4; have hfz29_5 := blk_frozen BK326.out 5; have hfz29_6 := blk_frozen BK326.out 6; have hfz29_7 := blk_frozen BK326.out 7) | ((with_reducible refine gate_callee (f := 42) rfl ?_); refine goesL_ (some 39) rfl rfl Try.func42 (q9_9) rfl #[.agg #[.int .i64 a0_2, .int .i64 a0_3, .slice A0_4 l0_4.length c0_4, .slice A0_5 l0_5.length c0_5]] rfl (q9_4) ?_; (with_reducible refine (impl_Sig_isNone.calls a0_2 a0_3 _ _ l0_4 _ _ l0_5 true _ ?side1 ?side2 ?side3 ?side4 A19.out).mono ?_); (case side1 => repeat (first | exact (Kd.C_below HR0_4.out HB.out) | (with_reducible refine Kd.C_alloc ?_ _) | (with_reducible refine Kd.C_drewN ?_ _) | (with_reducible refine Kd.C_drew ?_))); (case side2 => exact HC0_4.out); (case side3 => repeat (first | exact (Kd.C_below HR0_5.out HB.out) | (with_reducible refine Kd.C_alloc ?_ _) | (with_reducible refine Kd.C_drewN ?_ _) | (with_reducible refine Kd.C_drew ?_))); (case side4 => exact HC0_5.out); rintro e w30 ⟨rfl, hb⟩; refine ⟨_, rfl, ?_⟩; have n0_ := Aside0.mk (blk_below (g := gb326) (o := .cells #[.int .i64 a0_0, .int .i64 a0_1, .int .i64 a0_2, .int .i64 a0_3, .slice A0_4 l0_4.length c0_4, .slice A0_5 l0_5.length c0_5, .slice A0_6 l0_6.length c0_6, .string a0_7] 34 (0, 0)) (q9_6) hb); have n1_ := Aside0.mk (below_step (q9_2) hb); clear BK326; clear HB; have BK326 := n0_; have HB := n1_; clear n0_ n1_; (try clear hb); (try clear hb2); (try clear hk); (try clear hi)))
                go_ret
                exact ⟨q9_7, q9_2⟩
            · replace c20 := Bool.eq_false_iff.mpr c20
              subst c20
              have H1 : (some false) = some r := by rw [if_neg (show ¬ (false = true) by decide)] at H; exact H
              clear H
              have H := H1
              clear H1
              obtain rfl := Option.some.inj H
              have hcz31_0 : wc.cell? ⟨gb326, 0, none⟩ = some (.int .i64 a0_0) := (blk_cell BK326.out 0).trans rfl
              have hcz31_1 : wc.cell? ⟨gb326, 1, none⟩ = some (.int .i64 a0_1) := (blk_cell BK326.out 1).trans rfl
              have hcz31_2 : wc.cell? ⟨gb326, 2, none⟩ = some (.int .i64 a0_2) := (blk_cell BK326.out 2).trans rfl
              have hcz31_3 : wc.cell? ⟨gb326, 3, none⟩ = some (.int .i64 a0_3) := (blk_cell BK326.out 3).trans rfl
              have hcz31_4 : wc.cell? ⟨gb326, 4, none⟩ = some (.slice A0_4 l0_4.length c0_4) := (blk_cell BK326.out 4).trans rfl
              have hcz31_5 : wc.cell? ⟨gb326, 5, none⟩ = some (.slice A0_5 l0_5.length c0_5) := (blk_cell BK326.out 5).trans rfl
              have hcz31_6 : wc.cell? ⟨gb326, 6, none⟩ = some (.slice A0_6 l0_6.length c0_6) := (blk_cell BK326.out 6).trans rfl
              have hcz31_7 : wc.cell? ⟨gb326, 7, none⟩ = some (.string a0_7) := (blk_cell BK326.out 7).trans rfl
              have hfz31_0 := blk_frozen BK326.out 0
              have hfz31_1 := blk_frozen BK326.out 1
              have hfz31_2 := blk_frozen BK326.out 2
              have hfz31_3 := blk_frozen BK326.out 3
              have hfz31_4 := blk_frozen BK326.out 4
              have hfz31_5 := blk_frozen BK326.out 5
              have hfz31_6 := blk_frozen BK326.out 6
              have hfz31_7 := blk_frozen BK326.out 7
              go_wp2_with (first | ((with_reducible refine gate_callee (f := 41) rfl ?_); refine goesL_ (some 34) rfl rfl Try.func41 (q9_9) rfl #[.slice A0_6 l0_6.length c0_6] rfl (q9_4) ?_; (with_reducible refine (impl_tokensText.calls _ _ l0_6 t329 t330 _ ?side1 ?side2 A18.out).mono ?_); (case side1 => repeat (first | exact (Kd.C_below HR0_6.out HB.out) | (with_reducible refine Kd.C_alloc ?_ _) | (with_reducible refine Kd.C_drewN ?_ _) | (with_reducible refine Kd.C_drew ?_))); (case side2 => exact HC0_6.out); rintro e w32 ⟨rfl, hb⟩; refine ⟨_, rfl, ?_⟩; have n0_ := Aside0.mk (blk_below (g := gb326) (o := .cells #[.int .i64 a0_0, .int .i64 a0_1, .int .i64 a0_2, .int .i64 a0_3, .slice A0_4 l0_4.length c0_4, .slice A0_5 l0_5.length c0_5, .slice A0_6 l0_6.length c0_6, .string a0_7] 34 (0, 0)) (q9_6) hb); have n1_ := Aside0.mk (below_step (q9_2) hb); clear BK326; clear HB; have BK326 := n0_; have HB := n1_; clear n0_ n1_; (try clear hb); (try clear hb2); (try clear hk); (try clear hi); have hcz33_0 : w32.cell? ⟨gb326, 0, none⟩ = some (.int .i64 a0_0) := (blk_cell BK326.out 0).trans rfl; have hcz33_1 : w32.cell? ⟨gb326, 1, none⟩ = some (.int .i64 a0_1) := (blk_cell BK326.out 1).trans rfl; have hcz33_2 : w32.cell? ⟨gb326, 2, none⟩ = some (.int .i64 a0_2) := (blk_cell BK326.out 2).trans rfl; have hcz33_3 : w32.cell? ⟨gb326, 3, none⟩ = some (.int .i64 a0_3) := (blk_cell BK326.out 3).trans rfl; have hcz33_4 : w32.cell? ⟨gb326, 4, none⟩ = some (.slice A0_4 l0_4.length c0_4) := (blk_cell BK326.out 4).trans rfl; have hcz33_5 : w32.cell? ⟨gb326, 5, none⟩ = some (.slice A0_5 l0_5.length c0_5) := (blk_cell BK326.out 5).trans rfl; have hcz33_6 : w32.cell? ⟨gb326, 6, none⟩ = some (.slice A0_6 l0_6.length c0_6) := (blk_cell BK326.out 6).trans rfl; have hcz33_7 : w32.cell? ⟨gb326, 7, none⟩ = some (.string a0_7) := (blk_cell BK326.out 7).trans rfl; have hfz33_0 := blk_frozen BK326.out 0; have hfz33_1 := blk_frozen BK326.out 1; have hfz33_2 := blk_frozen BK326.out 2; have hfz33_3 := blk_frozen BK326.out 3; have hfz33_4 := blk_frozen BK326.out 4; have hfz33_5 := blk_frozen BK326.out 5; have hfz33_6 := blk_frozen BK326.out 6; have hfz33_7 := blk_frozen BK326.out 7) | ((with_reducible refine gate_callee (f := 42) rfl ?_); refine goesL_ (some 39) rfl rfl Try.func42 (q9_9) rfl #[.agg #[.int .i64 a0_2, .int .i64 a0_3, .slice A0_4 l0_4.length c0_4, .slice A0_5 l0_5.length c0_5]] rfl (q9_4) ?_; (with_reducible refine (impl_Sig_isNone.calls a0_2 a0_3 _ _ l0_4 _ _ l0_5 false _ ?side1 ?side2 ?side3 ?side4 A19.out).mono ?_); (case side1 => repeat (first | exact (Kd.C_below HR0_4.out HB.out) | (with_reducible refine Kd.C_alloc ?_ _) | (with_reducible refine Kd.C_drewN ?_ _) | (with_reducible refine Kd.C_drew ?_))); (case side2 => exact HC0_4.out); (case side3 => repeat (first | exact (Kd.C_below HR0_5.out HB.out) | (with_reducible refine Kd.C_alloc ?_ _) | (with_reducible refine Kd.C_drewN ?_ _) | (with_reducible refine Kd.C_drew ?_))); (case side4 => exact HC0_5.out); rintro e w34 ⟨rfl, hb⟩; refine ⟨_, rfl, ?_⟩; have n0_ := Aside0.mk (blk_below (g := gb326) (o := .cells #[.int .i64 a0_0, .int .i64 a0_1, .int .i64 a0_2, .int .i64 a0_3, .slice A0_4 l0_4.length c0_4, .slice A0_5 l0_5.length c0_5, .slice A0_6 l0_6.length c0_6, .string a0_7] 34 (0, 0)) (q9_6) hb); have n1_ := Aside0.mk (below_step (q9_2) hb); clear BK326; clear HB; have BK326 := n0_; have HB := n1_; clear n0_ n1_; (try clear hb); (try clear hb2); (try clear hk); (try clear hi)))
              go_ret
              exact ⟨q9_7, q9_2⟩
          · rw [if_neg c17] at H
            have c17b0 : (a0_0 == 1) = false := beq_eq_false_iff_ne.mpr c17
            have c17b1 : (a0_0 != 1) = true := bne_iff_ne.mpr c17
            by_cases c35 : a0_0 = 2
            · rw [if_pos c35] at H
              have c35b0 : (a0_0 == 2) = true := beq_iff_eq.mpr c35
              have c35b1 : (a0_0 != 2) = false := bne_eq_false_iff_eq.mpr c35
              clear c35
              replace H := Option.bind_eq_some_iff.mp H
              obtain ⟨t332, A360, H⟩ := H
              try dsimp only at H
              have A36 := Aside0.mk A360
              clear A360
              by_cases c37 : t332 = true
              · subst c37
                have H1 : (some x3_3) = some r := by rw [if_pos rfl] at H; exact H
                clear H
                have H := H1
                clear H1
                obtain rfl := Option.some.inj H
                have hcz38_0 : wc.cell? ⟨gb326, 0, none⟩ = some (.int .i64 a0_0) := (blk_cell BK326.out 0).trans rfl
                have hcz38_1 : wc.cell? ⟨gb326, 1, none⟩ = some (.int .i64 a0_1) := (blk_cell BK326.out 1).trans rfl
                have hcz38_2 : wc.cell? ⟨gb326, 2, none⟩ = some (.int .i64 a0_2) := (blk_cell BK326.out 2).trans rfl
                have hcz38_3 : wc.cell? ⟨gb326, 3, none⟩ = some (.int .i64 a0_3) := (blk_cell BK326.out 3).trans rfl
                have hcz38_4 : wc.cell? ⟨gb326, 4, none⟩ = some (.slice A0_4 l0_4.length c0_4) := (blk_cell BK326.out 4).trans rfl
                have hcz38_5 : wc.cell? ⟨gb326, 5, none⟩ = some (.slice A0_5 l0_5.length c0_5) := (blk_cell BK326.out 5).trans rfl
                have hcz38_6 : wc.cell? ⟨gb326, 6, none⟩ = some (.slice A0_6 l0_6.length c0_6) := (blk_cell BK326.out 6).trans rfl
                have hcz38_7 : wc.cell? ⟨gb326, 7, none⟩ = some (.string a0_7) := (blk_cell BK326.out 7).trans rfl
                have hfz38_0 := blk_frozen BK326.out 0
                have hfz38_1 := blk_frozen BK326.out 1
                have hfz38_2 := blk_frozen BK326.out 2
                have hfz38_3 := blk_frozen BK326.out 3
                have hfz38_4 := blk_frozen BK326.out 4
                have hfz38_5 := blk_frozen BK326.out 5
                have hfz38_6 := blk_frozen BK326.out 6
                have hfz38_7 := blk_frozen BK326.out 7
                go_wp2_with (first | ((with_reducible refine gate_callee (f := 42) rfl ?_); refine goesL_ (some 53) rfl rfl Try.func42 (q9_9) rfl #[.agg #[.int .i64 a0_2, .int .i64 a0_3, .slice A0_4 l0_4.length c0_4, .slice A0_5 l0_5.length c0_5]] rfl (q9_4) ?_; (with_reducible refine (impl_Sig_isNone.calls a0_2 a0_3 _ _ l0_4 _ _ l0_5 true _ ?side1 ?side2 ?side3 ?side4 A36.out).mono ?_); (case side1 => repeat (first | exact (Kd.C_below HR0_4.out HB.out) | (with_reducible refine Kd.C_alloc ?_ _) | (with_reducible refine Kd.C_drewN ?_ _) | (with_reducible refine Kd.C_drew ?_))); (case side2 => exact HC0_4.out); (case side3 => repeat (first | exact (Kd.C_below HR0_5.out HB.out) | (with_reducible refine Kd.C_alloc ?_ _) | (with_reducible refine Kd.C_drewN ?_ _) | (with_reducible refine Kd.C_drew ?_))); (case side4 => exact HC0_5.out); rintro e w39 ⟨rfl, hb⟩; refine ⟨_, rfl, ?_⟩; have n0_ := Aside0.mk (blk_below (g := gb326) (o := .cells #[.int .i64 a0_0, .int .i64 a0_1, .int .i64 a0_2, .int .i64 a0_3, .slice A0_4 l0_4.length c0_4, .slice A0_5 l0_5.length c0_5, .slice A0_6 l0_6.length c0_6, .string a0_7] 34 (0, 0)) (q9_6) hb); have n1_ := Aside0.mk (below_step (q9_2) hb); clear BK326; clear HB; have BK326 := n0_; have HB := n1_; clear n0_ n1_; (try clear hb); (try clear hb2); (try clear hk); (try clear hi)))
                go_ret
                exact ⟨q9_7, q9_2⟩
              · replace c37 := Bool.eq_false_iff.mpr c37
                subst c37
                have H1 : (some false) = some r := by rw [if_neg (show ¬ (false = true) by decide)] at H; exact H
                clear H
                have H := H1
                clear H1
                obtain rfl := Option.some.inj H
                have hcz40_0 : wc.cell? ⟨gb326, 0, none⟩ = some (.int .i64 a0_0) := (blk_cell BK326.out 0).trans rfl
                have hcz40_1 : wc.cell? ⟨gb326, 1, none⟩ = some (.int .i64 a0_1) := (blk_cell BK326.out 1).trans rfl
                have hcz40_2 : wc.cell? ⟨gb326, 2, none⟩ = some (.int .i64 a0_2) := (blk_cell BK326.out 2).trans rfl
                have hcz40_3 : wc.cell? ⟨gb326, 3, none⟩ = some (.int .i64 a0_3) := (blk_cell BK326.out 3).trans rfl
                have hcz40_4 : wc.cell? ⟨gb326, 4, none⟩ = some (.slice A0_4 l0_4.length c0_4) := (blk_cell BK326.out 4).trans rfl
                have hcz40_5 : wc.cell? ⟨gb326, 5, none⟩ = some (.slice A0_5 l0_5.length c0_5) := (blk_cell BK326.out 5).trans rfl
                have hcz40_6 : wc.cell? ⟨gb326, 6, none⟩ = some (.slice A0_6 l0_6.length c0_6) := (blk_cell BK326.out 6).trans rfl
                have hcz40_7 : wc.cell? ⟨gb326, 7, none⟩ = some (.string a0_7) := (blk_cell BK326.out 7).trans rfl
                have hfz40_0 := blk_frozen BK326.out 0
                have hfz40_1 := blk_frozen BK326.out 1
                have hfz40_2 := blk_frozen BK326.out 2
                have hfz40_3 := blk_frozen BK326.out 3
                have hfz40_4 := blk_frozen BK326.out 4
                have hfz40_5 := blk_frozen BK326.out 5
                have hfz40_6 := blk_frozen BK326.out 6
                have hfz40_7 := blk_frozen BK326.out 7
                go_wp2_with (first | ((with_reducible refine gate_callee (f := 42) rfl ?_); refine goesL_ (some 53) rfl rfl Try.func42 (q9_9) rfl #[.agg #[.int .i64 a0_2, .int .i64 a0_3, .slice A0_4 l0_4.length c0_4, .slice A0_5 l0_5.length c0_5]] rfl (q9_4) ?_; (with_reducible refine (impl_Sig_isNone.calls a0_2 a0_3 _ _ l0_4 _ _ l0_5 false _ ?side1 ?side2 ?side3 ?side4 A36.out).mono ?_); (case side1 => repeat (first | exact (Kd.C_below HR0_4.out HB.out) | (with_reducible refine Kd.C_alloc ?_ _) | (with_reducible refine Kd.C_drewN ?_ _) | (with_reducible refine Kd.C_drew ?_))); (case side2 => exact HC0_4.out); (case side3 => repeat (first | exact (Kd.C_below HR0_5.out HB.out) | (with_reducible refine Kd.C_alloc ?_ _) | (with_reducible refine Kd.C_drewN ?_ _) | (with_reducible refine Kd.C_drew ?_))); (case side4 => exact HC0_5.out); rintro e w41 ⟨rfl, hb⟩; refine ⟨_, rfl, ?_⟩; have n0_ := Aside0.mk (blk_below (g := gb326) (o := .cells #[.int .i64 a0_0, .int .i64 a0_1, .int .i64 a0_2, .int .i64 a0_3, .slice A0_4 l0_4.length c0_4, .slice A0_5 l0_5.length c0_5, .slice A0_6 l0_6.length c0_6, .string a0_7] 34 (0, 0)) (q9_6) hb); have n1_ := Aside0.mk (below_step (q9_2) hb); clear BK326; clear HB; have BK326 := n0_; have HB := n1_; clear n0_ n1_; (try clear hb); (try clear hb2); (try clear hk); (try clear hi)))
                go_ret
                exact ⟨q9_7, q9_2⟩
            · rw [if_neg c35] at H
              have c35b0 : (a0_0 == 2) = false := beq_eq_false_iff_ne.mpr c35
              have c35b1 : (a0_0 != 2) = true := bne_iff_ne.mpr c35
              obtain rfl := Option.some.inj H
              have hcz42_0 : wc.cell? ⟨gb326, 0, none⟩ = some (.int .i64 a0_0) := (blk_cell BK326.out 0).trans rfl
              have hcz42_1 : wc.cell? ⟨gb326, 1, none⟩ = some (.int .i64 a0_1) := (blk_cell BK326.out 1).trans rfl
              have hcz42_2 : wc.cell? ⟨gb326, 2, none⟩ = some (.int .i64 a0_2) := (blk_cell BK326.out 2).trans rfl
              have hcz42_3 : wc.cell? ⟨gb326, 3, none⟩ = some (.int .i64 a0_3) := (blk_cell BK326.out 3).trans rfl
              have hcz42_4 : wc.cell? ⟨gb326, 4, none⟩ = some (.slice A0_4 l0_4.length c0_4) := (blk_cell BK326.out 4).trans rfl
              have hcz42_5 : wc.cell? ⟨gb326, 5, none⟩ = some (.slice A0_5 l0_5.length c0_5) := (blk_cell BK326.out 5).trans rfl
              have hcz42_6 : wc.cell? ⟨gb326, 6, none⟩ = some (.slice A0_6 l0_6.length c0_6) := (blk_cell BK326.out 6).trans rfl
              have hcz42_7 : wc.cell? ⟨gb326, 7, none⟩ = some (.string a0_7) := (blk_cell BK326.out 7).trans rfl
              have hfz42_0 := blk_frozen BK326.out 0
              have hfz42_1 := blk_frozen BK326.out 1
              have hfz42_2 := blk_frozen BK326.out 2
              have hfz42_3 := blk_frozen BK326.out 3
              have hfz42_4 := blk_frozen BK326.out 4
              have hfz42_5 := blk_frozen BK326.out 5
              have hfz42_6 := blk_frozen BK326.out 6
              have hfz42_7 := blk_frozen BK326.out 7
              go_wp2
              go_ret
              exact ⟨q9_7, q9_2⟩
  · replace c3 := Bool.eq_false_iff.mpr c3
    subst c3
    have H1 : (some false) = some r := by rw [if_neg (show ¬ (false = true) by decide)] at H; exact H
    clear H
    have H := H1
    clear H1
    obtain rfl := Option.some.inj H
    go_enter Try.func10, Try.ntmps10
    go_wp2_with (first | ((with_reducible refine gate_dst (N := 1) rfl ?_); (try (refine gate_guard (by rfl) ?_; dsimp only)); refine box_event ?hg (N := 1) ?hd (cs := #[.int .i64 a0_0, .int .i64 a0_1, .int .i64 a0_2, .int .i64 a0_3, .slice A0_4 l0_4.length c0_4, .slice A0_5 l0_5.length c0_5, .slice A0_6 l0_6.length c0_6, .string a0_7]) (t := 34) ?hr ?_; (case hd => rfl); (case hg => rfl); (case hr => first | (go_simp; done) | (go_simp; rfl)); intro gb326 hg w43 hbox hb; have n0_ := Aside0.mk (below_step (q9_5) hb); have n1_ := Aside0.mk (hbox); have n2_ := Aside0.mk ((q9_1 : w.heap.size ≤ gb326)); have n3_ := Aside0.mk ((q9_1 : w.heap.size ≤ gb326)); clear HB; have HB := n0_; have BK326 := n1_; have GW326 := n2_; have GE326 := n3_; clear n0_ n1_ n2_ n3_; clear hb hbox hg; have hcz44_0 : w43.cell? ⟨gb326, 0, none⟩ = some (.int .i64 a0_0) := (blk_cell BK326.out 0).trans rfl; have hcz44_1 : w43.cell? ⟨gb326, 1, none⟩ = some (.int .i64 a0_1) := (blk_cell BK326.out 1).trans rfl; have hcz44_2 : w43.cell? ⟨gb326, 2, none⟩ = some (.int .i64 a0_2) := (blk_cell BK326.out 2).trans rfl; have hcz44_3 : w43.cell? ⟨gb326, 3, none⟩ = some (.int .i64 a0_3) := (blk_cell BK326.out 3).trans rfl; have hcz44_4 : w43.cell? ⟨gb326, 4, none⟩ = some (.slice A0_4 l0_4.length c0_4) := (blk_cell BK326.out 4).trans rfl; have hcz44_5 : w43.cell? ⟨gb326, 5, none⟩ = some (.slice A0_5 l0_5.length c0_5) := (blk_cell BK326.out 5).trans rfl; have hcz44_6 : w43.cell? ⟨gb326, 6, none⟩ = some (.slice A0_6 l0_6.length c0_6) := (blk_cell BK326.out 6).trans rfl; have hcz44_7 : w43.cell? ⟨gb326, 7, none⟩ = some (.string a0_7) := (blk_cell BK326.out 7).trans rfl; have hfz44_0 := blk_frozen BK326.out 0; have hfz44_1 := blk_frozen BK326.out 1; have hfz44_2 := blk_frozen BK326.out 2; have hfz44_3 := blk_frozen BK326.out 3; have hfz44_4 := blk_frozen BK326.out 4; have hfz44_5 := blk_frozen BK326.out 5; have hfz44_6 := blk_frozen BK326.out 6; have hfz44_7 := blk_frozen BK326.out 7) | ((with_reducible refine gate_callee (f := 39) rfl ?_); refine goesL_ (some 8) rfl rfl Try.func39 (q9_9) rfl #[.int .i64 a0_1, .int .i64 0, .int .i64 1000] rfl (q9_4) ?_; (with_reducible refine (impl_within.calls a0_1 0 1000 false _ A2.out).mono ?_); rintro e w' ⟨rfl, ⟨nd, rfl⟩⟩; refine ⟨_, rfl, ?_⟩))
    go_ret
    exact ⟨q9_7, q9_2⟩

/-! ### impl_wordText: function 102 -/
def impl_wordText.f (a0 : Int) : Option (ByteArray) := some (strOfNums (([(a0) % 256, (a0 / 256) % 256, (a0 / 65536) % 256, (a0 / 16777216) % 256] : List Int)))
set_option maxHeartbeats 8000000 in
set_option maxRecDepth 100000 in
theorem impl_wordText.calls (a0 : Int) (r : ByteArray) (w : World) (h : impl_wordText.f a0 = some r) :
    Calls Try.prog 102 #[.int .u32 a0] w fun e w' => e = .returned (.string r) ∧ Below w.heap.size w w' := by
  have HB := Aside0.mk (Below.refl w.heap.size w)
  have H : (some (strOfNums (([(a0) % 256, (a0 / 256) % 256, (a0 / 65536) % 256, (a0 / 16777216) % 256] : List Int)))) = some r := h
  clear h
  obtain ⟨y333, hy333⟩ : ∃ y_ : List Int, y_ = (([(a0) % 256, (a0 / 256) % 256, (a0 / 65536) % 256, (a0 / 16777216) % 256] : List Int)) := ⟨_, rfl⟩
  replace H : (some (strOfNums y333)) = some r := by first | (rw [hy333]; with_reducible exact H) | (have H2_ := (Option.bind_some _ _).symm.trans H; rw [hy333]; with_reducible exact H2_) | (have H2_ := (Option.bind_some _ _).symm.trans H; with_reducible exact H2_) | with_reducible exact H | (rw [hy333]; exact H) | exact H
  have Ny333 := Aside0.mk hy333
  clear hy333
  obtain rfl := Option.some.inj H
  go_enter Try.func102, Try.ntmps102
  go_wp2_with (first | ((with_reducible refine gate_dst (N := 14) rfl ?_); refine Kd.R_lit (Kd.int .u8) _ 5 ?hg (N := 14) ?hd (xs := ([(a0) % 256, (a0 / 256) % 256, (a0 / 65536) % 256, (a0 / 16777216) % 256] : List Int)) (inner := [.int .u8 ((a0) % 256), .int .u8 ((a0 / 256) % 256), .int .u8 ((a0 / 65536) % 256), .int .u8 ((a0 / 16777216) % 256)]) (ok := fun _ => True) (okp := fun _ => True) ?hr ?hp (fun _ hk => hk) trivial (Below.refl _ _) (Nat.le_refl _) (by simp) ?_; (case hd => rfl); (case hg => rfl); (case hr => first | (go_simp; done) | (go_simp; rfl)); (case hp => exact (Reps.one (show Kd.M (Kd.int .u8) _ _ _ ((a0) % 256) [.int .u8 ((a0) % 256)] from rfl) (Reps.one (show Kd.M (Kd.int .u8) _ _ _ ((a0 / 256) % 256) [.int .u8 ((a0 / 256) % 256)] from rfl) (Reps.one (show Kd.M (Kd.int .u8) _ _ _ ((a0 / 65536) % 256) [.int .u8 ((a0 / 65536) % 256)] from rfl) (Reps.one (show Kd.M (Kd.int .u8) _ _ _ ((a0 / 16777216) % 256) [.int .u8 ((a0 / 16777216) % 256)] from rfl) (Reps.none _ _)))))); intro v334 w2 ho3 hb hg_ hnew_; clear hg_ hnew_; (first | rw [← Ny333.out] at ho3 | (simp only [Int.reduceToNat] at ho3; rw [← Ny333.out] at ho3)); have n0_ := Aside0.mk (Kd.R_lower ho3 (below_size (q9_5))); have n1_ := Aside0.mk (below_step (q9_5) hb); clear HB; have HO335 := n0_; have HB := n1_; clear n0_ n1_; clear hb ho3; have hcv4 := own_string (P := Try.prog) Try.underlying52 Try.underlying5 Try.underlying9 (Kd.own_of_R HO335.out)))
  go_ret
  exact ⟨q9_7, q9_5⟩

end Go.Proofs.Ytphlmaaplaaopaa.PFnExactPutMsg
