-- PRINTED by print.py (a twelfth state) out of the translation. Not trusted: Lean checks it.
import Derived.Test.YtphlmaaplaaopaaDoorPFnExactAskForx0
import Derived.Test.YtphlmaaplaaopaaDoorPFnExactAskForx4
namespace Go.Proofs.YtphlmaaplaaopaaDoor.PFnExactAskFor
open Go.RowKit Go.Proofs.YtphlmaaplaaopaaDoorW.PrintWords Go.Proofs.YtphlmaaplaaopaaDoorW.PrintLast Go.Proofs.YtphlmaaplaaopaaDoorW.PrintMore
attribute [local go_sem] max2_int min2_int max_two min_two max_three min_three max_four min_four   -- for this text's walks alone
set_option linter.unusedVariables false
set_option linter.unusedSimpArgs false
open Go.Proofs.YtphlmaaplaaopaaDoorW

/-! ### impl_strong: function 61 (told by hand) -/
set_option maxHeartbeats 4000000 in
set_option maxRecDepth 100000 in
theorem impl_strong.calls' (s : ByteArray) (w : World) (hs : s.size ≤ 140737488340000) (hG : XS.Glob 0 1 w) :
    Calls Tryd.prog 61 #[.string s] w fun e w' => e = .returned (.string (XS.strong s)) ∧ Below w.heap.size w w' := by
  have HG := Aside0.mk hG
  have HSs := Aside0.mk hs
  clear hs hG
  go_enter Tryd.func61, Tryd.ntmps61
  go_wp2_with fail
  refine (impl_padded.calls' s _ (by have := HSs.out; omega)).mono ?_
  rintro e w1 ⟨rfl, hb⟩
  obtain ⟨g, hg⟩ : ∃ g, g = w.heap.size := ⟨_, rfl⟩
  rw [← hg]
  have hB0 : Below w.heap.size w (w.alloc (.cells #[.int .u32 1732584193, .int .u32 4023233417, .int .u32 2562383102, .int .u32 271733878] 138)) := (Below.refl _ _).alloc (Nat.le_refl _) _
  have HK1 := Aside0.mk (show w1.heap[g]? = some (.cells #[.int .u32 1732584193, .int .u32 4023233417, .int .u32 2562383102, .int .u32 271733878] 138) from by rw [hg]; exact blk_below (heap_alloc_new w _) hb)
  have HB1 := Aside0.mk (below_step hB0 hb)
  have HGE := Aside0.mk (show w.heap.size ≤ g from Nat.le_of_eq hg.symm)
  clear hB0 hb hg
  go_wp2_with fail
  go_loopw [4] (fun v4 wr => ∃ (m : Nat) (p : ByteArray) (x0 x1 x2 x3 : Int), v4 = .string p ∧ Aside0 (p.size = 64 * m) ∧ Aside0 (wr.heap[g]? = some (.cells #[.int .u32 x0, .int .u32 x1, .int .u32 x2, .int .u32 x3] 138)) ∧ Aside0 (Below w.heap.size w wr) ∧ Aside0 (XS.out (XS.run m p (x0, x1, x2, x3)) = XS.strong s)) (fun v4 _ => XS.vlen v4)
  case atStart => exact ⟨_, _, _, _, _, _, rfl, ⟨XS.pad_size s⟩, HK1, HB1, ⟨rfl⟩⟩
  case round =>
    clear HK1 HB1
    obtain ⟨m, p, x0, x1, x2, x3, rfl, HP, HK, HB, HR⟩ := hrel
    by_cases hm : m = 0
    · subst hm
      obtain rfl : p = ⟨#[]⟩ := XS.size0 (by have := HP.out; omega)
      obtain ⟨t0, ht0⟩ : ∃ t, impl_wordText.f x0 = some t := ⟨_, rfl⟩
      obtain ⟨t1, ht1⟩ : ∃ t, impl_wordText.f x1 = some t := ⟨_, rfl⟩
      obtain ⟨t2, ht2⟩ : ∃ t, impl_wordText.f x2 = some t := ⟨_, rfl⟩
      obtain ⟨t3, ht3⟩ : ∃ t, impl_wordText.f x3 = some t := ⟨_, rfl⟩
      have hs0 : t0.size = 4 := by obtain rfl := Option.some.inj ht0; rfl
      have hs1 : t1.size = 4 := by obtain rfl := Option.some.inj ht1; rfl
      have hs2 : t2.size = 4 := by obtain rfl := Option.some.inj ht2; rfl
      have hs3 : t3.size = 4 := by obtain rfl := Option.some.inj ht3; rfl
      have q1 : (9223372036854775807 < t0.size + t1.size) = False := eq_false (by omega)
      have q2 : (9223372036854775807 < t0.size + t1.size + t2.size) = False := eq_false (by omega)
      have q3 : (9223372036854775807 < t0.size + t1.size + t2.size + t3.size) = False := eq_false (by omega)
      have q4 : (9223372036854775807 < (t0 ++ t1).size + t2.size) = False := by rw [ByteArray.size_append]; exact q2
      have q5 : (9223372036854775807 < (t0 ++ t1 ++ t2).size + t3.size) = False := by rw [ByteArray.size_append, ByteArray.size_append]; exact q3
      have H0 := Aside0.mk ht0
      have H1 := Aside0.mk ht1
      have H2 := Aside0.mk ht2
      have H3 := Aside0.mk ht3
      clear ht0 ht1 ht2 ht3 hs0 hs1 hs2 hs3
      go_wp2_with fail
      have HKa := Aside0.mk (show wr.drew.heap[g]? = _ from HK.out)
      have HBa := Aside0.mk HB.out.drew
      refine start_ (n := 16) (S := fun w' => w'.cell? ⟨g, 0, none⟩ = some (.int .u32 x0) ∧ w'.cell? ⟨g, 1, none⟩ = some (.int .u32 x1) ∧ w'.cell? ⟨g, 2, none⟩ = some (.int .u32 x2) ∧ w'.cell? ⟨g, 3, none⟩ = some (.int .u32 x3)) (ds := []) #[false, false, false, false, false, false, false, false, false, false, false, false, false, false, false, false] (by kernel_rfl) rfl rfl ⟨(blk_cell HKa.out 0).trans rfl, (blk_cell HKa.out 1).trans rfl, (blk_cell HKa.out 2).trans rfl, (blk_cell HKa.out 3).trans rfl⟩ (fun hHeld => ?_)
      refine pure_ (i := 0) (N := some 16) (v := ?_) (a' := ?_) #[true, false, false, false, false, false, false, false, false, false, false, false, false, false, false, false] rfl rfl (by kernel_rfl) (fun _ _ _ h => h) (Or.inl ⟨by rfl, ?_⟩) ?_ ?_
      rotate_left
      · intro w'
        go_simp
        with_reducible rfl
      rotate_left
      · simp only [Act.put, List.setIfInBounds_toArray, List.set_cons_zero, List.set_cons_succ, i64_w, i32_w, u32_w, u64_w]
        rfl
      refine pure_ (i := 3) (N := some 19) (v := ?_) (a' := ?_) #[true, false, false, true, false, false, false, false, false, false, false, false, false, false, false, false] rfl rfl (by kernel_rfl) (fun _ _ _ h => h) (Or.inl ⟨by rfl, ?_⟩) ?_ ?_
      rotate_left
      · intro w'
        go_simp
        with_reducible rfl
      rotate_left
      · simp only [Act.put, List.setIfInBounds_toArray, List.set_cons_zero, List.set_cons_succ, i64_w, i32_w, u32_w, u64_w]
        rfl
      refine pure_ (i := 7) (N := some 23) (v := ?_) (a' := ?_) #[true, false, false, true, false, false, false, true, false, false, false, false, false, false, false, false] rfl rfl (by kernel_rfl) (fun _ _ _ h => h) (Or.inl ⟨by rfl, ?_⟩) ?_ ?_
      rotate_left
      · intro w'
        go_simp
        with_reducible rfl
      rotate_left
      · simp only [Act.put, List.setIfInBounds_toArray, List.set_cons_zero, List.set_cons_succ, i64_w, i32_w, u32_w, u64_w]
        rfl
      refine pure_ (i := 11) (N := some 27) (v := ?_) (a' := ?_) #[true, false, false, true, false, false, false, true, false, false, false, true, false, false, false, false] rfl rfl (by kernel_rfl) (fun _ _ _ h => h) (Or.inl ⟨by rfl, ?_⟩) ?_ ?_
      rotate_left
      · intro w'
        go_simp
        with_reducible rfl
      rotate_left
      · simp only [Act.put, List.setIfInBounds_toArray, List.set_cons_zero, List.set_cons_succ, i64_w, i32_w, u32_w, u64_w]
        rfl
      refine take_ (i := 1) (N := some 17) (v := ?_) (a' := ?_) #[true, true, false, true, false, false, false, true, false, false, false, true, false, false, false, false] rfl rfl (by kernel_rfl) (fun _ _ _ h => h) (Or.inl ⟨by rfl, ?_⟩) hHeld ?_ ?_
      rotate_left
      · rintro w' ⟨s0, s1, s2, s3⟩
        go_simp
        with_reducible rfl
      rotate_left
      · simp only [Act.put, List.setIfInBounds_toArray, List.set_cons_zero, List.set_cons_succ, i64_w, i32_w, u32_w, u64_w]
        rfl
      refine take_ (i := 4) (N := some 20) (v := ?_) (a' := ?_) #[true, true, false, true, true, false, false, true, false, false, false, true, false, false, false, false] rfl rfl (by kernel_rfl) (fun _ _ _ h => h) (Or.inl ⟨by rfl, ?_⟩) hHeld ?_ ?_
      rotate_left
      · rintro w' ⟨s0, s1, s2, s3⟩
        go_simp
        with_reducible rfl
      rotate_left
      · simp only [Act.put, List.setIfInBounds_toArray, List.set_cons_zero, List.set_cons_succ, i64_w, i32_w, u32_w, u64_w]
        rfl
      refine take_ (i := 8) (N := some 24) (v := ?_) (a' := ?_) #[true, true, false, true, true, false, false, true, true, false, false, true, false, false, false, false] rfl rfl (by kernel_rfl) (fun _ _ _ h => h) (Or.inl ⟨by rfl, ?_⟩) hHeld ?_ ?_
      rotate_left
      · rintro w' ⟨s0, s1, s2, s3⟩
        go_simp
        with_reducible rfl
      rotate_left
      · simp only [Act.put, List.setIfInBounds_toArray, List.set_cons_zero, List.set_cons_succ, i64_w, i32_w, u32_w, u64_w]
        rfl
      refine take_ (i := 12) (N := some 28) (v := ?_) (a' := ?_) #[true, true, false, true, true, false, false, true, true, false, false, true, true, false, false, false] rfl rfl (by kernel_rfl) (fun _ _ _ h => h) (Or.inl ⟨by rfl, ?_⟩) hHeld ?_ ?_
      rotate_left
      · rintro w' ⟨s0, s1, s2, s3⟩
        go_simp
        with_reducible rfl
      rotate_left
      · simp only [Act.put, List.setIfInBounds_toArray, List.set_cons_zero, List.set_cons_succ, i64_w, i32_w, u32_w, u64_w]
        rfl
      refine one_ (i := 2) (N := some 18) #[true, true, true, true, true, false, false, true, true, false, false, true, true, false, false, false] rfl rfl (by kernel_rfl) (by decide) (fun K hK => ?_)
      refine goes_ Tryd.func125 (by kernel_rfl) rfl #[.int .u32 x0] (by rfl) rfl rfl (by (try simp only [List.map_toArray, List.map_cons, List.map_nil]); first | done | rfl) ?_
      refine (impl_wordText.calls _ t0 _ H0.out).mono ?_
      rintro e w20 ⟨rfl, hb⟩
      refine ⟨_, rfl, ?_⟩
      have HKb := Aside0.mk (blk_below HKa.out hb)
      have HBb := Aside0.mk (below_step HBa.out hb)
      clear hb
      refine hK.out _ _ ⟨(blk_cell HKb.out 0).trans rfl, (blk_cell HKb.out 1).trans rfl, (blk_cell HKb.out 2).trans rfl, (blk_cell HKb.out 3).trans rfl⟩ (fun hHeld => ?_)
      clear hK K
      refine norm_ (a' := ?_) ?_ ?_
      rotate_left
      · show Act.put _ (some 18) _ = _
        simp only [Act.put, List.setIfInBounds_toArray, List.set_cons_zero, List.set_cons_succ, i64_w, i32_w, u32_w, u64_w]
        rfl
      refine one_ (i := 5) (N := some 21) #[true, true, true, true, true, true, false, true, true, false, false, true, true, false, false, false] rfl rfl (by kernel_rfl) (by decide) (fun K hK => ?_)
      refine goes_ Tryd.func125 (by kernel_rfl) rfl #[.int .u32 x1] (by rfl) rfl rfl (by (try simp only [List.map_toArray, List.map_cons, List.map_nil]); first | done | rfl) ?_
      refine (impl_wordText.calls _ t1 _ H1.out).mono ?_
      rintro e w21 ⟨rfl, hb⟩
      refine ⟨_, rfl, ?_⟩
      have HKc := Aside0.mk (blk_below HKb.out hb)
      have HBc := Aside0.mk (below_step HBb.out hb)
      clear hb
      refine hK.out _ _ ⟨(blk_cell HKc.out 0).trans rfl, (blk_cell HKc.out 1).trans rfl, (blk_cell HKc.out 2).trans rfl, (blk_cell HKc.out 3).trans rfl⟩ (fun hHeld => ?_)
      clear hK K
      refine norm_ (a' := ?_) ?_ ?_
      rotate_left
      · show Act.put _ (some 21) _ = _
        simp only [Act.put, List.setIfInBounds_toArray, List.set_cons_zero, List.set_cons_succ, i64_w, i32_w, u32_w, u64_w]
        rfl
      refine pure_ (i := 6) (N := some 22) (v := ?_) (a' := ?_) #[true, true, true, true, true, true, true, true, true, false, false, true, true, false, false, false] rfl rfl (by kernel_rfl) (fun _ _ _ h => h) (Or.inl ⟨by rfl, ?_⟩) ?_ ?_
      rotate_left
      · intro w'
        go_simp
        with_reducible rfl
      rotate_left
      · simp only [Act.put, List.setIfInBounds_toArray, List.set_cons_zero, List.set_cons_succ, i64_w, i32_w, u32_w, u64_w]
        rfl
      refine one_ (i := 9) (N := some 25) #[true, true, true, true, true, true, true, true, true, true, false, true, true, false, false, false] rfl rfl (by kernel_rfl) (by decide) (fun K hK => ?_)
      refine goes_ Tryd.func125 (by kernel_rfl) rfl #[.int .u32 x2] (by rfl) rfl rfl (by (try simp only [List.map_toArray, List.map_cons, List.map_nil]); first | done | rfl) ?_
      refine (impl_wordText.calls _ t2 _ H2.out).mono ?_
      rintro e w22 ⟨rfl, hb⟩
      refine ⟨_, rfl, ?_⟩
      have HKd := Aside0.mk (blk_below HKc.out hb)
      have HBd := Aside0.mk (below_step HBc.out hb)
      clear hb
      refine hK.out _ _ ⟨(blk_cell HKd.out 0).trans rfl, (blk_cell HKd.out 1).trans rfl, (blk_cell HKd.out 2).trans rfl, (blk_cell HKd.out 3).trans rfl⟩ (fun hHeld => ?_)
      clear hK K
      refine norm_ (a' := ?_) ?_ ?_
      rotate_left
      · show Act.put _ (some 25) _ = _
        simp only [Act.put, List.setIfInBounds_toArray, List.set_cons_zero, List.set_cons_succ, i64_w, i32_w, u32_w, u64_w]
        rfl
      refine pure_ (i := 10) (N := some 26) (v := ?_) (a' := ?_) #[true, true, true, true, true, true, true, true, true, true, true, true, true, false, false, false] rfl rfl (by kernel_rfl) (fun _ _ _ h => h) (Or.inl ⟨by rfl, ?_⟩) ?_ ?_
      rotate_left
      · intro w'
        go_simp
        with_reducible rfl
      rotate_left
      · simp only [Act.put, List.setIfInBounds_toArray, List.set_cons_zero, List.set_cons_succ, i64_w, i32_w, u32_w, u64_w]
        rfl
      refine one_ (i := 13) (N := some 29) #[true, true, true, true, true, true, true, true, true, true, true, true, true, true, false, false] rfl rfl (by kernel_rfl) (by decide) (fun K hK => ?_)
      refine goes_ Tryd.func125 (by kernel_rfl) rfl #[.int .u32 x3] (by rfl) rfl rfl (by (try simp only [List.map_toArray, List.map_cons, List.map_nil]); first | done | rfl) ?_
      refine (impl_wordText.calls _ t3 _ H3.out).mono ?_
      rintro e w23 ⟨rfl, hb⟩
      refine ⟨_, rfl, ?_⟩
      have HKe := Aside0.mk (blk_below HKd.out hb)
      have HBe := Aside0.mk (below_step HBd.out hb)
      clear hb
      refine hK.out _ _ ⟨(blk_cell HKe.out 0).trans rfl, (blk_cell HKe.out 1).trans rfl, (blk_cell HKe.out 2).trans rfl, (blk_cell HKe.out 3).trans rfl⟩ (fun hHeld => ?_)
      clear hK K
      refine norm_ (a' := ?_) ?_ ?_
      rotate_left
      · show Act.put _ (some 29) _ = _
        simp only [Act.put, List.setIfInBounds_toArray, List.set_cons_zero, List.set_cons_succ, i64_w, i32_w, u32_w, u64_w]
        rfl
      refine pure_ (i := 14) (N := some 30) (v := ?_) (a' := ?_) #[true, true, true, true, true, true, true, true, true, true, true, true, true, true, true, false] rfl rfl (by kernel_rfl) (fun _ _ _ h => h) (Or.inl ⟨by rfl, ?_⟩) ?_ ?_
      rotate_left
      · intro w'
        go_simp
        with_reducible rfl
      rotate_left
      · simp only [Act.put, List.setIfInBounds_toArray, List.set_cons_zero, List.set_cons_succ, i64_w, i32_w, u32_w, u64_w]
        rfl
      refine pure_ (i := 15) (N := some 2) (v := ?_) (a' := ?_) #[true, true, true, true, true, true, true, true, true, true, true, true, true, true, true, true] rfl rfl (by kernel_rfl) (fun _ _ _ h => h) (Or.inl ⟨by rfl, ?_⟩) ?_ ?_
      rotate_left
      · intro w'
        go_simp
        with_reducible rfl
      rotate_left
      · simp only [Act.put, List.setIfInBounds_toArray, List.set_cons_zero, List.set_cons_succ, i64_w, i32_w, u32_w, u64_w]
        rfl
      refine done_ (by kernel_rfl) ?_
      go_wp2
      go_ret
      refine ⟨?_, HBe.out⟩
      rw [← HR.out, ← Option.some.inj H0.out, ← Option.some.inj H1.out, ← Option.some.inj H2.out, ← Option.some.inj H3.out]
      rfl
    · have hp64 : 64 ≤ p.size := by have := HP.out; omega
      have hpe : p.toList.isEmpty = false := XS.notEmpty (by omega)
      have h64 : (64 : Int) ≤ p.size := by omega
      have HZ := Aside0.mk (show (p.extract 0 64).size = 64 by rw [ByteArray.size_extract]; omega)
      have HM := Aside0.mk (show ∀ q, q < 16 → impl_readWord.f ((p.extract 0 64).extract (4 * q) 64) = some (XS.Mb (p.extract 0 64) q) from fun q hq => impl_word _ (by rw [ByteArray.size_extract, HZ.out]; omega))
      go_wp2_with fail
      have HK5 := Aside0.mk (show wr.drew.heap[g]? = _ from HK.out)
      have HB5 := Aside0.mk HB.out.drew
      have HG5 := Aside0.mk (XS.Glob.below HG.out HB5.out)
      refine start_ (n := 5) (S := fun w' => w'.cell? ⟨g, 0, none⟩ = some (.int .u32 x0) ∧ w'.cell? ⟨g, 1, none⟩ = some (.int .u32 x1) ∧ w'.cell? ⟨g, 2, none⟩ = some (.int .u32 x2) ∧ w'.cell? ⟨g, 3, none⟩ = some (.int .u32 x3)) (ds := [3, 4]) #[false, false, false, false, false] (by kernel_rfl) rfl rfl ⟨(blk_cell HK5.out 0).trans rfl, (blk_cell HK5.out 1).trans rfl, (blk_cell HK5.out 2).trans rfl, (blk_cell HK5.out 3).trans rfl⟩ (fun hHeld => ?_)
      refine pure_ (i := 1) (N := some 13) (v := ?_) (a' := ?_) #[false, true, false, false, false] rfl rfl (by kernel_rfl) (fun _ _ _ h => h) (Or.inl ⟨by rfl, ?_⟩) ?_ ?_
      rotate_left
      · intro w'
        go_simp
        with_reducible rfl
      rotate_left
      · simp only [Act.put, List.setIfInBounds_toArray, List.set_cons_zero, List.set_cons_succ, i64_w, i32_w, u32_w, u64_w]
        rfl
      refine pure_ (i := 2) (N := some 14) (v := ?_) (a' := ?_) #[false, true, true, false, false] rfl rfl (by kernel_rfl) (fun _ _ _ h => h) (Or.inl ⟨by rfl, ?_⟩) ?_ ?_
      rotate_left
      · intro w'
        go_simp
        with_reducible rfl
      rotate_left
      · simp only [Act.put, List.setIfInBounds_toArray, List.set_cons_zero, List.set_cons_succ, i64_w, i32_w, u32_w, u64_w]
        rfl
      refine take_ (i := 0) (N := some 12) (v := ?_) (a' := ?_) #[true, true, true, false, false] rfl rfl (by kernel_rfl) (fun _ _ _ h => h) (Or.inl ⟨by rfl, ?_⟩) hHeld ?_ ?_
      rotate_left
      · rintro w' ⟨s0, s1, s2, s3⟩
        go_simp
        with_reducible rfl
      rotate_left
      · simp only [Act.put, List.setIfInBounds_toArray, List.set_cons_zero, List.set_cons_succ, i64_w, i32_w, u32_w, u64_w]
        rfl
      refine last_ (i := 3) (N := some 15) #[true, true, true, true, false] rfl rfl (by kernel_rfl) (by decide) (fun K hK => ?_)
      refine goes_ Tryd.func124 (by kernel_rfl) rfl #[.agg #[.int .u32 x0, .int .u32 x1, .int .u32 x2, .int .u32 x3], .string (p.extract 0 64)] (by rfl) rfl rfl (by (try simp only [List.map_toArray, List.map_cons, List.map_nil]); first | done | rfl) ?_
      refine (impl_mix.calls' x0 x1 x2 x3 (p.extract 0 64) (XS.Mb (p.extract 0 64)) _ HZ.out HM.out HG5.out).mono ?_
      rintro e w6 ⟨⟨y0, y1, y2, y3, hy, rfl⟩, hb⟩
      refine ⟨_, rfl, ?_⟩
      have HY := Aside0.mk hy
      clear hy
      have HK6 := Aside0.mk (blk_below HK5.out hb)
      have HB6 := Aside0.mk (below_step HB5.out hb)
      have hc0 := (blk_cell HK6.out 0).trans rfl
      have hc1 := (blk_cell HK6.out 1).trans rfl
      have hc2 := (blk_cell HK6.out 2).trans rfl
      have hc3 := (blk_cell HK6.out 3).trans rfl
      have hf0 := blk_frozen HK6.out 0
      have hf1 := blk_frozen HK6.out 1
      have hf2 := blk_frozen HK6.out 2
      have hf3 := blk_frozen HK6.out 3
      clear hb
      refine hK.out _ _ ?_
      clear hK K
      refine norm_ (a' := ?_) ?_ ?_
      rotate_left
      · show Act.put _ (some 15) _ = _
        simp only [Act.put, List.setIfInBounds_toArray, List.set_cons_zero, List.set_cons_succ, i64_w, i32_w, u32_w, u64_w]
        rfl
      refine last_ (i := 4) (N := none) #[true, true, true, true, true] rfl rfl (by kernel_rfl) (by decide) (fun K hK => ?_)
      refine skip_ (w1 := ?_) (by rfl) rfl ?_ ?_
      rotate_left
      · go_simp
        rfl
      refine hK.out _ _ ?_
      clear hK K
      refine done_ (by kernel_rfl) ?_
      go_wp2
      have HK7 : Aside0 ((((((w6.setCell ⟨g, 0, none⟩ (.int .u32 y0)).setCell ⟨g, 1, none⟩ (.int .u32 y1)).setCell ⟨g, 2, none⟩ (.int .u32 y2)).setCell ⟨g, 3, none⟩ (.int .u32 y3)).heap[g]?) = some (.cells #[.int .u32 y0, .int .u32 y1, .int .u32 y2, .int .u32 y3] 138)) := ⟨blk_put (blk_put (blk_put (blk_put HK6.out 0 _ rfl) 1 _ rfl) 2 _ rfl) 3 _ rfl⟩
      have HB7 : Aside0 (Below w.heap.size w ((((w6.setCell ⟨g, 0, none⟩ (.int .u32 y0)).setCell ⟨g, 1, none⟩ (.int .u32 y1)).setCell ⟨g, 2, none⟩ (.int .u32 y2)).setCell ⟨g, 3, none⟩ (.int .u32 y3))) := ⟨(((HB6.out.setCell HGE.out _).setCell HGE.out _).setCell HGE.out _).setCell HGE.out _⟩
      have HP7 := Aside0.mk (show (p.extract 64 p.size).size = 64 * (m - 1) by rw [ByteArray.size_extract]; have := HP.out; omega)
      have HR7 := Aside0.mk (show XS.out (XS.run (m - 1) (p.extract 64 p.size) (y0, y1, y2, y3)) = XS.strong s by
        have h := HR.out
        obtain ⟨q, rfl⟩ : ∃ q, m = q + 1 := ⟨m - 1, by omega⟩
        rw [XS.run] at h
        rw [HY.out]
        exact h)
      have HV := Aside0.mk (show (p.extract 64 p.size).size < p.size by rw [ByteArray.size_extract]; omega)
      clear hpe h64 hp64 hc0 hc1 hc2 hc3 hf0 hf1 hf2 hf3
      go_roundw
      case rel => exact ⟨m - 1, _, y0, y1, y2, y3, rfl, HP7, HK7, HB7, HR7⟩
      case measure => exact HV.out
/-- The strong sum's text, of what is no longer than the model's reach. -/
def impl_strong.f (a0 : ByteArray) : Option ByteArray := if a0.size ≤ 140737488340000 then some (XS.strong a0) else none
theorem impl_strong.calls (a0 : ByteArray) (r : ByteArray) (w : World) (hG : XS.Glob 0 1 w) (h : impl_strong.f a0 = some r) :
    Calls Tryd.prog 61 #[.string a0] w fun e w' => e = .returned (.string r) ∧ Below w.heap.size w w' := by
  unfold impl_strong.f at h
  by_cases hc : a0.size ≤ 140737488340000
  · rw [if_pos hc] at h
    obtain rfl := Option.some.inj h
    exact impl_strong.calls' a0 w hc hG
  · rw [if_neg hc] at h
    exact absurd h (by simp)


/-! ### impl_short: function 71 -/
def impl_short.f (a0 : Int) (a1 : ByteArray) (a2 : Int) : Option (ByteArray) := (impl_wordText.f a0).bind fun t162 => (if t162.size + a1.size ≤ 9223372036854775807 then ((impl_strong.f (t162 ++ a1)).bind fun t163 => (if 0 ≤ a2 then (if a2 ≤ (t163.size : Int) then (some (t163.extract 0 (a2 : Int).toNat)) else (none)) else (none))) else (none))
set_option maxHeartbeats 8000000 in
set_option maxRecDepth 100000 in
theorem impl_short.calls (a0 : Int) (a1 : ByteArray) (a2 : Int) (r : ByteArray) (w : World) (hG : XS.Glob 0 1 w) (h : impl_short.f a0 a1 a2 = some r) :
    Calls Tryd.prog 71 #[.int .u32 a0, .string a1, .int .i64 a2] w fun e w' => e = .returned (.string r) ∧ Below w.heap.size w w' := by
  have HGG := Aside0.mk hG
  clear hG
  have HB := Aside0.mk (Below.refl w.heap.size w)
  have H : ((impl_wordText.f a0).bind fun t162 => (if t162.size + a1.size ≤ 9223372036854775807 then ((impl_strong.f (t162 ++ a1)).bind fun t163 => (if 0 ≤ a2 then (if a2 ≤ (t163.size : Int) then (some (t163.extract 0 (a2 : Int).toNat)) else (none)) else (none))) else (none))) = some r := h
  clear h
  replace H := Option.bind_eq_some_iff.mp H
  obtain ⟨t162, A40, H⟩ := H
  replace H : (if t162.size + a1.size ≤ 9223372036854775807 then ((impl_strong.f (t162 ++ a1)).bind fun t163 => (if 0 ≤ a2 then (if a2 ≤ (t163.size : Int) then (some (t163.extract 0 (a2 : Int).toNat)) else (none)) else (none))) else (none)) = some r := H
  have A4 := Aside0.mk A40
  clear A40
  by_cases c5 : t162.size + a1.size ≤ 9223372036854775807
  · rw [if_pos c5] at H
    have c5b0 := eq_true c5
    have c5b1 : decide (t162.size + a1.size ≤ 9223372036854775807) = true := decide_eq_true c5
    try have c5b2 : (9223372036854775807 < t162.size + a1.size) = False := eq_false (Nat.not_lt.2 c5)
    replace H := Option.bind_eq_some_iff.mp H
    obtain ⟨t163, A60, H⟩ := H
    replace H : (if 0 ≤ a2 then (if a2 ≤ (t163.size : Int) then (some (t163.extract 0 (a2 : Int).toNat)) else (none)) else (none)) = some r := H
    have A6 := Aside0.mk A60
    clear A60
    by_cases c7 : 0 ≤ a2
    · rw [if_pos c7] at H
      have c7b0 := eq_true c7
      have c7b1 : decide (0 ≤ a2) = true := decide_eq_true c7
      clear c7
      by_cases c8 : a2 ≤ (t163.size : Int)
      · rw [if_pos c8] at H
        have c8b0 := eq_true c8
        have c8b1 : decide (a2 ≤ (t163.size : Int)) = true := decide_eq_true c8
        clear c8
        obtain rfl := Option.some.inj H
        go_enter Tryd.func71, Tryd.ntmps71
        go_wp2_with (first | ((with_reducible refine gate_callee (f := 125) rfl ?_); refine goesL_ (some 8) rfl rfl Tryd.func125 (by kernel_rfl) rfl #[.int .u32 a0] rfl (by (try simp only [List.map_toArray, List.map_cons, List.map_nil]); first | done | rfl | (simp only [List.length_drop, List.length_take]; rfl)) ?_; (with_reducible refine (impl_wordText.calls a0 t162 _ A4.out).mono ?_); rintro e w9 ⟨rfl, hb⟩; refine ⟨_, rfl, ?_⟩; have n0_ := Aside0.mk (below_step (by repeat (first | (with_reducible first | exact HB.out | apply below_alloc | apply pw_below_drewN | apply below_drew1) | exact HB.out)) hb); clear HB; have HB := n0_; clear n0_; (try clear hb); (try clear hb2); (try clear hk); (try clear hi)) | ((with_reducible refine gate_callee (f := 61) rfl ?_); refine goesL_ (some 11) rfl rfl Tryd.func61 (by kernel_rfl) rfl #[.string (t162 ++ a1)] rfl (by (try simp only [List.map_toArray, List.map_cons, List.map_nil]); first | done | rfl | (simp only [List.length_drop, List.length_take]; rfl)) ?_; (with_reducible refine (impl_strong.calls (t162 ++ a1) t163 _ ?side1 A6.out).mono ?_); (case side1 => repeat (first | exact HGG.out | exact XS.Glob.below HGG.out HB.out | (with_reducible refine XS.Glob.alloc ?_ _) | (with_reducible refine XS.Glob.drewN ?_ _) | (with_reducible refine XS.Glob.drew ?_))); rintro e w10 ⟨rfl, hb⟩; refine ⟨_, rfl, ?_⟩; have n0_ := Aside0.mk (below_step (by repeat (first | (with_reducible first | exact HB.out | apply below_alloc | apply pw_below_drewN | apply below_drew1) | exact HB.out)) hb); clear HB; have HB := n0_; clear n0_; (try clear hb); (try clear hb2); (try clear hk); (try clear hi)))
        go_ret
        exact ⟨by first | rfl | (simp [errW_none, errW_some] <;> rfl) | (simp [*, errW_none, errW_some] <;> rfl), by repeat (first | (with_reducible first | exact HB.out | apply below_alloc | apply pw_below_drewN | apply below_drew1) | exact HB.out)⟩
      · rw [if_neg c8] at H
        exact absurd H (by simp)
    · rw [if_neg c7] at H
      exact absurd H (by simp)
  · rw [if_neg c5] at H
    exact absurd H (by simp)

end Go.Proofs.YtphlmaaplaaopaaDoor.PFnExactAskFor
