-- PRINTED by print.py (a twelfth state) out of the translation. Not trusted: Lean checks it.
import Derived.Test.YtphlmaaplaaopaaDoorPFnExactAskForx0
import Derived.Test.YtphlmaaplaaopaaDoorPFnExactAskForx1
namespace Go.Proofs.YtphlmaaplaaopaaDoor.PFnExactAskFor
open Go.RowKit Go.Proofs.YtphlmaaplaaopaaDoorW.PrintWords Go.Proofs.YtphlmaaplaaopaaDoorW.PrintLast Go.Proofs.YtphlmaaplaaopaaDoorW.PrintMore
attribute [local go_sem] max2_int min2_int max_two min_two max_three min_three max_four min_four   -- for this text's walks alone
set_option linter.unusedVariables false
set_option linter.unusedSimpArgs false
open Go.Proofs.YtphlmaaplaaopaaDoorW

/-! ### spec_StrongOf: function 56 (told by hand) -/
theorem spec_word (s : ByteArray) (h : 4 ≤ s.size) : spec_GetWord.f (bytesOf (s.extract 0 4)) = some (XS.WD s, true) := by
  have hl : ((bytesOf (s.extract 0 4)).length : Int) = 4 := by rw [bytesOf_length]; simp; omega
  have a0 := XS.bt_nn s 0; have b0 := XS.bt_nn s 1; have c0 := XS.bt_nn s 2; have d0 := XS.bt_nn s 3
  have a1 := XS.bt_le s 0; have b1 := XS.bt_le s 1; have c1 := XS.bt_le s 2; have d1 := XS.bt_le s 3
  have w64 : ∀ x : Int, -9223372036854775808 ≤ x → x ≤ 9223372036854775807 → wrap64 x = x := by intro x h1 h2; unfold wrap64; omega
  unfold spec_GetWord.f
  rw [if_pos hl, if_pos (by omega), if_pos (by omega), if_pos (by omega), if_pos (by omega)]
  rw [rd_bytesOf, rd_bytesOf, rd_bytesOf, rd_bytesOf]
  rw [show (0 : Int) = ((0 : Nat) : Int) from rfl, show (1 : Int) = ((1 : Nat) : Int) from rfl, show (2 : Int) = ((2 : Nat) : Int) from rfl, show (3 : Int) = ((3 : Nat) : Int) from rfl, XS.bt_extract s 4 h 0 (by decide), XS.bt_extract s 4 h 1 (by decide), XS.bt_extract s 4 h 2 (by decide), XS.bt_extract s 4 h 3 (by decide)]
  simp only [Int.cast_ofNat_Int] at *
  rw [w64 (bt s 0) (by omega) (by omega), w64 (bt s 1) (by omega) (by omega), w64 (bt s 2) (by omega) (by omega), w64 (bt s 3) (by omega) (by omega)]
  rw [w64 (256 * bt s 1) (by omega) (by omega), w64 (65536 * bt s 2) (by omega) (by omega), w64 (16777216 * bt s 3) (by omega) (by omega)]
  rw [w64 (bt s 0 + 256 * bt s 1) (by omega) (by omega), w64 (bt s 0 + 256 * bt s 1 + 65536 * bt s 2) (by omega) (by omega), w64 (bt s 0 + 256 * bt s 1 + 65536 * bt s 2 + 16777216 * bt s 3) (by omega) (by omega)]
  have : (bt s 0 + 256 * bt s 1 + 65536 * bt s 2 + 16777216 * bt s 3) % 4294967296 = XS.WD s := by unfold XS.WD; omega
  rw [this]
theorem spec_word4 (b : ByteArray) (hb : b.size = 64) (z : Nat) (hz : z < 16) : spec_GetWord.f (bytesOf (b.extract (4 * z) (4 * z + 4))) = some (XS.Mb b z, true) := by
  have e : b.extract (4 * z) (4 * z + 4) = (b.extract (4 * z) 64).extract 0 4 := by
    apply ByteArray.ext
    simp only [ByteArray.data_extract]
    rw [Array.extract_extract]
    congr 1
    omega
  rw [e, spec_word _ (by rw [ByteArray.size_extract]; omega)]
  rfl
theorem spec_PutWord_w4 (x : Int) (h0 : 0 ≤ x) (h1 : x < 4294967296) : spec_PutWord.f x = some (XS.w4 x) := by
  have w64 : ∀ x : Int, -9223372036854775808 ≤ x → x ≤ 9223372036854775807 → wrap64 x = x := by intro x h1 h2; unfold wrap64; omega
  unfold spec_PutWord.f XS.w4
  rw [w64 x (by omega) (by omega), Int.tdiv_eq_ediv_of_nonneg h0, Int.tdiv_eq_ediv_of_nonneg h0, Int.tdiv_eq_ediv_of_nonneg h0, w64 (x / 256) (by omega) (by omega), w64 (x / 65536) (by omega) (by omega), w64 (x / 16777216) (by omega) (by omega), Int.tmod_eq_emod_of_nonneg h0, Int.tmod_eq_emod_of_nonneg (show 0 ≤ x / 256 by omega), Int.tmod_eq_emod_of_nonneg (show 0 ≤ x / 65536 by omega)]
  simp only [Option.some.injEq, List.cons.injEq, and_true]
  omega
set_option maxHeartbeats 8000000 in
set_option maxRecDepth 100000 in
theorem spec_StrongOf.calls' (s : ByteArray) (w : World) (hs : s.size ≤ 20000) :
    Calls Tryd.prog 56 #[.string s] w fun e w' => (∃ O : List Int, O.length = 16 ∧ strOfNums O = XS.strong s ∧ e = .returned (.agg (O.map fun x => Value.int .u8 x).toArray)) ∧ Below w.heap.size w w' := by
  have HSs := Aside0.mk hs
  clear hs
  go_enter Tryd.func56, Tryd.ntmps56
  go_wp2_with fail
  refine (spec_PadStrong.calls' s _ HSs.out).mono ?_
  rintro e w1 ⟨⟨v, rfl, hT⟩, hb⟩
  obtain ⟨R, hR⟩ : ∃ R, R = XS.padRow s (XS.padK s.size) ++ XS.le 8 (8 * s.size) := ⟨_, rfl⟩
  rw [← hR] at hT
  have HRl := Aside0.mk (show R.length = (XS.pad s).size by rw [hR]; exact XS.padR_size s)
  have HRs := Aside0.mk (show strOfNums R = XS.pad s by rw [hR]; exact XS.pad_le s)
  clear hR
  obtain ⟨gx, cx, hvx, _⟩ := At.T_cell hT
  rw [List.length_map] at hvx
  subst hvx
  have hB0 : Below w.heap.size w ((w.alloc (.cells #[.int .u8 0, .int .u8 0, .int .u8 0, .int .u8 0, .int .u8 0, .int .u8 0, .int .u8 0, .int .u8 0, .int .u8 0, .int .u8 0, .int .u8 0, .int .u8 0, .int .u8 0, .int .u8 0, .int .u8 0, .int .u8 0] 84)).alloc (.cells #[.int .u8 0, .int .u8 0, .int .u8 0, .int .u8 0, .int .u8 0, .int .u8 0, .int .u8 0, .int .u8 0, .int .u8 0, .int .u8 0, .int .u8 0, .int .u8 0, .int .u8 0, .int .u8 0, .int .u8 0, .int .u8 0] 84)) := ((Below.refl _ _).alloc (Nat.le_refl _) _).alloc (by simp) _
  have HE := Aside0.mk (show w1.heap[w.heap.size]? = some (.cells #[.int .u8 0, .int .u8 0, .int .u8 0, .int .u8 0, .int .u8 0, .int .u8 0, .int .u8 0, .int .u8 0, .int .u8 0, .int .u8 0, .int .u8 0, .int .u8 0, .int .u8 0, .int .u8 0, .int .u8 0, .int .u8 0] 84) from blk_below (blk_alloc (heap_alloc_new w _) _) hb)
  have HF := Aside0.mk (show w1.heap[w.heap.size + 1]? = some (.cells #[.int .u8 0, .int .u8 0, .int .u8 0, .int .u8 0, .int .u8 0, .int .u8 0, .int .u8 0, .int .u8 0, .int .u8 0, .int .u8 0, .int .u8 0, .int .u8 0, .int .u8 0, .int .u8 0, .int .u8 0, .int .u8 0] 84) from blk_below (by have := heap_alloc_new (w.alloc (.cells #[.int .u8 0, .int .u8 0, .int .u8 0, .int .u8 0, .int .u8 0, .int .u8 0, .int .u8 0, .int .u8 0, .int .u8 0, .int .u8 0, .int .u8 0, .int .u8 0, .int .u8 0, .int .u8 0, .int .u8 0, .int .u8 0] 84)) (.cells #[.int .u8 0, .int .u8 0, .int .u8 0, .int .u8 0, .int .u8 0, .int .u8 0, .int .u8 0, .int .u8 0, .int .u8 0, .int .u8 0, .int .u8 0, .int .u8 0, .int .u8 0, .int .u8 0, .int .u8 0, .int .u8 0] 84); simpa using this) hb)
  have HB1 := Aside0.mk (below_step hB0 hb)
  have HLow := Aside0.mk hB0.size
  have HT1 := Aside0.mk hT
  have hpos : 64 ≤ R.length := by rw [HRl.out]; exact XS.pad_pos s
  have hmax : R.length ≤ 20072 := by rw [HRl.out]; have := XS.pad_le' s; have := HSs.out; omega
  clear hb hB0 hT
  have hz : ((R.length : Int) == 0) = false := by rw [beq_eq_false_iff_ne]; omega
  go_wp2_with fail
  clear hz
  obtain ⟨g5, hg5⟩ : ∃ g, g = w1.heap.size := ⟨_, rfl⟩
  rw [← hg5]
  have HK2 := Aside0.mk (show (w1.alloc (.cells #[.int .u32 1732584193, .int .u32 4023233417, .int .u32 2562383102, .int .u32 271733878] 138)).heap[g5]? = some _ from by rw [hg5]; exact heap_alloc_new w1 _)
  have HE2 := Aside0.mk (blk_alloc HE.out (.cells #[.int .u32 1732584193, .int .u32 4023233417, .int .u32 2562383102, .int .u32 271733878] 138))
  have HF2 := Aside0.mk (blk_alloc HF.out (.cells #[.int .u32 1732584193, .int .u32 4023233417, .int .u32 2562383102, .int .u32 271733878] 138))
  have HT2 := Aside0.mk (At.T_below HT1.out ((Below.refl w1.heap.size w1).alloc (Nat.le_refl _) (.cells #[.int .u32 1732584193, .int .u32 4023233417, .int .u32 2562383102, .int .u32 271733878] 138)))
  have HB2 := Aside0.mk (HB1.out.alloc HB1.out.size (.cells #[.int .u32 1732584193, .int .u32 4023233417, .int .u32 2562383102, .int .u32 271733878] 138))
  have HG5 := Aside0.mk (show w.heap.size + 1 < g5 from by rw [hg5]; exact blk_lt HF.out)
  clear hg5 HE HF HT1 HB1
  generalize (w1.alloc (.cells #[.int .u32 1732584193, .int .u32 4023233417, .int .u32 2562383102, .int .u32 271733878] 138)) = w2 at HK2 HE2 HF2 HT2 HB2 ⊢
  go_loopw [6] (fun v6 wr => ∃ (q m : Nat) (x0 x1 x2 x3 : Int), v6 = .int .i64 q ∧ Aside0 (q + 64 * m = R.length) ∧ Aside0 (wr.heap[g5]? = some (.cells #[.int .u32 x0, .int .u32 x1, .int .u32 x2, .int .u32 x3] 138)) ∧ Aside0 (wr.heap[w.heap.size]? = some (.cells #[.int .u8 0, .int .u8 0, .int .u8 0, .int .u8 0, .int .u8 0, .int .u8 0, .int .u8 0, .int .u8 0, .int .u8 0, .int .u8 0, .int .u8 0, .int .u8 0, .int .u8 0, .int .u8 0, .int .u8 0, .int .u8 0] 84)) ∧ Aside0 (wr.heap[w.heap.size + 1]? = some (.cells #[.int .u8 0, .int .u8 0, .int .u8 0, .int .u8 0, .int .u8 0, .int .u8 0, .int .u8 0, .int .u8 0, .int .u8 0, .int .u8 0, .int .u8 0, .int .u8 0, .int .u8 0, .int .u8 0, .int .u8 0, .int .u8 0] 84)) ∧ Aside0 (At.T 5 wr ((w.alloc (.cells #[.int .u8 0, .int .u8 0, .int .u8 0, .int .u8 0, .int .u8 0, .int .u8 0, .int .u8 0, .int .u8 0, .int .u8 0, .int .u8 0, .int .u8 0, .int .u8 0, .int .u8 0, .int .u8 0, .int .u8 0, .int .u8 0] 84)).alloc (.cells #[.int .u8 0, .int .u8 0, .int .u8 0, .int .u8 0, .int .u8 0, .int .u8 0, .int .u8 0, .int .u8 0, .int .u8 0, .int .u8 0, .int .u8 0, .int .u8 0, .int .u8 0, .int .u8 0, .int .u8 0, .int .u8 0] 84)).heap.size (.slice (some ⟨gx, 0, none⟩) R.length cx) (R.map fun x => .int .u8 x)) ∧ Aside0 (Below w.heap.size w wr) ∧ Aside0 (XS.Rng (x0, x1, x2, x3)) ∧ Aside0 (XS.out (XS.run m ((XS.pad s).extract q (XS.pad s).size) (x0, x1, x2, x3)) = XS.strong s)) (fun v6 _ => R.length - (intOf v6).toNat)
  case atStart => exact ⟨0, R.length / 64, _, _, _, _, rfl, ⟨by rw [HRl.out]; have := XS.pad_size s; omega⟩, HK2, HE2, HF2, HT2, HB2, ⟨by unfold XS.Rng; decide⟩, ⟨by rw [XS.ext_all, HRl.out]; rfl⟩⟩
  case round =>
    clear HK2 HE2 HF2 HT2 HB2
    obtain ⟨q, m, x0, x1, x2, x3, rfl, HQ, HK, HE, HF, HT, HB, HRg, HR⟩ := hrel
    have hq : q ≤ 20072 := by have := HQ.out; omega
    by_cases hm : m = 0
    · subst hm
      have hqe : q = R.length := by have := HQ.out; omega
      have hge : decide ((q : Int) + 64 ≤ R.length) = false := by rw [decide_eq_false_iff_not]; omega
      go_wp2_with fail
      clear hge hqe hq
      have HF0 := Aside0.mk (show wr.heap[w.heap.size + 1]? = some (.cells (XS.mkA (XS.outL (x0, x1, x2, x3)) (4 * 0)) 84) from by rw [HF.out, XS.mkA_none]; rfl)
      obtain ⟨O, hO⟩ : ∃ O, O = XS.outL (x0, x1, x2, x3) := ⟨_, rfl⟩
      rw [← hO] at HF0
      have HO := Aside0.mk (show O.length = 16 by rw [hO]; rfl)
      have HOg := Aside0.mk (show ∀ k i, k < 4 → i < 4 → O.getD (4 * k + i) 0 = (XS.w4 ([x0, x1, x2, x3].getD k 0)).getD i 0 from fun k i hk hi => by rw [hO]; exact XS.outL_get _ k i hk hi)
      have HOs := Aside0.mk (show strOfNums O = XS.strong s by rw [hO, XS.out_outL]; exact HR.out)
      clear hO HF
      go_loopw [7] (fun v7 ws => ∃ k : Nat, k ≤ 4 ∧ v7 = .int .i64 k ∧ Aside0 (ws.heap[g5]? = some (.cells #[.int .u32 x0, .int .u32 x1, .int .u32 x2, .int .u32 x3] 138)) ∧ Aside0 (ws.heap[w.heap.size]? = some (.cells #[.int .u8 0, .int .u8 0, .int .u8 0, .int .u8 0, .int .u8 0, .int .u8 0, .int .u8 0, .int .u8 0, .int .u8 0, .int .u8 0, .int .u8 0, .int .u8 0, .int .u8 0, .int .u8 0, .int .u8 0, .int .u8 0] 84)) ∧ Aside0 (ws.heap[w.heap.size + 1]? = some (.cells (XS.mkA O (4 * k)) 84)) ∧ Aside0 (Below w.heap.size w ws)) (fun v7 _ => 4 - (intOf v7).toNat)
      case atStart => exact ⟨0, by decide, rfl, HK, HE, HF0, HB⟩
      case round =>
        clear HK HE HF0 HB HT
        obtain ⟨k, hk, rfl, HK, HE, HF, HB⟩ := hrel
        by_cases hk4 : k < 4
        · obtain ⟨xk, hxk⟩ : ∃ x, x = [x0, x1, x2, x3].getD k 0 := ⟨_, rfl⟩
          have hck : wr.cell? ⟨g5, k, none⟩ = some (.int .u32 xk) := by rw [blk_cell HK.out k, hxk]; exact XS.four_get _ _ _ _ k hk4
          have hrg := XS.rng_get HRg.out k hk4
          rw [← hxk] at hrg
          have HPW := Aside0.mk (spec_PutWord_w4 xk hrg.1 hrg.2)
          have HXk := Aside0.mk hxk
          clear hxk hrg
          go_wp2_with fail
          refine (spec_PutWord.calls xk (XS.w4 xk) _ HPW.out).mono ?_
          rintro e wb ⟨vb, rfl, hvb, hb⟩
          obtain ⟨gb, cb, hvbe, hgb, _⟩ := Kd.R_form hvb (by show 0 < 4; decide)
          subst hvbe
          have HC := Aside0.mk (show ∀ j, j < 4 → wb.cell? ⟨gb, j, none⟩ = some (.int .u8 ((XS.w4 xk).getD j 0)) from fun j hj => by
            obtain ⟨ad, he, hc⟩ := Kd.at_int (Kd.R_reads' hvb).2.2 (j : Int) (by omega) (by show (j : Int) < 4; omega)
            cases he
            rw [add_plain] at hc
            simpa [rd, rdOf] using hc)
          have HGb := Aside0.mk (show w.heap.size + 1 < gb from Nat.lt_of_lt_of_le (blk_lt HF.out) hgb)
          have HK1 := Aside0.mk (blk_below HK.out hb)
          have HE1 := Aside0.mk (blk_below HE.out hb)
          have HF1 := Aside0.mk (blk_below HF.out hb)
          have HB1 := Aside0.mk (below_step HB.out hb)
          clear hvb hgb hb HK HE HF HB hck
          go_wp2_with fail
          go_loopw [9] (fun v9 wt => ∃ i : Nat, i ≤ 4 ∧ v9 = .int .i64 i ∧ Aside0 (wt.heap[g5]? = some (.cells #[.int .u32 x0, .int .u32 x1, .int .u32 x2, .int .u32 x3] 138)) ∧ Aside0 (wt.heap[w.heap.size]? = some (.cells #[.int .u8 0, .int .u8 0, .int .u8 0, .int .u8 0, .int .u8 0, .int .u8 0, .int .u8 0, .int .u8 0, .int .u8 0, .int .u8 0, .int .u8 0, .int .u8 0, .int .u8 0, .int .u8 0, .int .u8 0, .int .u8 0] 84)) ∧ Aside0 (wt.heap[w.heap.size + 1]? = some (.cells (XS.mkA O (4 * k + i)) 84)) ∧ Aside0 (∀ j, j < 4 → wt.cell? ⟨gb, j, none⟩ = some (.int .u8 ((XS.w4 xk).getD j 0))) ∧ Aside0 (Below w.heap.size w wt)) (fun v9 _ => 4 - (intOf v9).toNat)
          case atStart => exact ⟨0, by decide, rfl, HK1, HE1, HF1, HC, HB1⟩
          case round =>
            clear HK1 HE1 HF1 HC HB1
            obtain ⟨i, hi, rfl, HK, HE, HF, HC, HB⟩ := hrel
            by_cases hi4 : i < 4
            · obtain ⟨y, hy⟩ : ∃ y, y = (XS.w4 xk).getD i 0 := ⟨_, rfl⟩
              have hcb := HC.out i hi4
              rw [← hy] at hcb
              obtain ⟨z, hz⟩ := XS.mkA_get HO.out (show 4 * k + i ≤ 16 by omega) (4 * k + i) (by omega)
              have hct := (blk_cell HF.out (4 * k + i)).trans hz
              have hft := blk_frozen HF.out (4 * k + i)
              have HY := Aside0.mk (show y = O.getD (4 * k + i) 0 by rw [hy, HOg.out k i hk4 hi4, HXk.out])
              clear hy hz
              go_wp2_with fail
              have hn1 : g5 ≠ w.heap.size + 1 := by have := HG5.out; omega
              have HK7 := Aside0.mk (blk_far HK.out (p := ⟨w.heap.size + 1, 4 * k + i, none⟩) hn1 (.int .u8 y))
              have HE7 := Aside0.mk (blk_far HE.out (p := ⟨w.heap.size + 1, 4 * k + i, none⟩) (show w.heap.size ≠ w.heap.size + 1 by omega) (.int .u8 y))
              have HF7 := Aside0.mk (show (wr.setCell ⟨w.heap.size + 1, 4 * k + i, none⟩ (.int .u8 y)).heap[w.heap.size + 1]? = some (.cells (XS.mkA O (4 * k + (i + 1))) 84) from blk_put HF.out (4 * k + i) _ (by rw [HY.out]; exact XS.mkA_step HO.out (by omega)))
              have HC7 := Aside0.mk (show ∀ j, j < 4 → (wr.setCell ⟨w.heap.size + 1, 4 * k + i, none⟩ (.int .u8 y)).cell? ⟨gb, j, none⟩ = some (.int .u8 ((XS.w4 xk).getD j 0)) from fun j hj => (cell_far (show gb ≠ w.heap.size + 1 by have := HGb.out; omega) _).trans (HC.out j hj))
              have HB7 := Aside0.mk (HB.out.setCell (p := ⟨w.heap.size + 1, 4 * k + i, none⟩) (show w.heap.size ≤ w.heap.size + 1 by omega) (.int .u8 y))
              clear hn1 hcb hct hft
              go_roundw
              case rel => exact ⟨i + 1, by omega, by go_num, HK7, HE7, HF7, HC7, HB7⟩
              case measure => simp [intOf]; omega
            · obtain rfl : i = 4 := by omega
              go_wp2_with fail
              go_roundw
              case rel => exact ⟨k + 1, by omega, by go_num, HK, HE, HF, HB⟩
              case measure => simp [intOf]; omega
        · obtain rfl : k = 4 := by omega
          obtain ⟨o0, o1, o2, o3, o4, o5, o6, o7, o8, o9, o10, o11, o12, o13, o14, o15, rfl⟩ := XS.list16 HO.out
          have HF9 := Aside0.mk (show wr.heap[w.heap.size + 1]? = some (.cells #[.int .u8 o0, .int .u8 o1, .int .u8 o2, .int .u8 o3, .int .u8 o4, .int .u8 o5, .int .u8 o6, .int .u8 o7, .int .u8 o8, .int .u8 o9, .int .u8 o10, .int .u8 o11, .int .u8 o12, .int .u8 o13, .int .u8 o14, .int .u8 o15] 84) from HF.out)
          have hu0 := (blk_cell HF9.out 0).trans rfl
          have hv0 := (blk_cell HE.out 0).trans rfl
          have hw0 := blk_frozen HE.out 0
          have hu1 := (blk_cell HF9.out 1).trans rfl
          have hv1 := (blk_cell HE.out 1).trans rfl
          have hw1 := blk_frozen HE.out 1
          have hu2 := (blk_cell HF9.out 2).trans rfl
          have hv2 := (blk_cell HE.out 2).trans rfl
          have hw2 := blk_frozen HE.out 2
          have hu3 := (blk_cell HF9.out 3).trans rfl
          have hv3 := (blk_cell HE.out 3).trans rfl
          have hw3 := blk_frozen HE.out 3
          have hu4 := (blk_cell HF9.out 4).trans rfl
          have hv4 := (blk_cell HE.out 4).trans rfl
          have hw4 := blk_frozen HE.out 4
          have hu5 := (blk_cell HF9.out 5).trans rfl
          have hv5 := (blk_cell HE.out 5).trans rfl
          have hw5 := blk_frozen HE.out 5
          have hu6 := (blk_cell HF9.out 6).trans rfl
          have hv6 := (blk_cell HE.out 6).trans rfl
          have hw6 := blk_frozen HE.out 6
          have hu7 := (blk_cell HF9.out 7).trans rfl
          have hv7 := (blk_cell HE.out 7).trans rfl
          have hw7 := blk_frozen HE.out 7
          have hu8 := (blk_cell HF9.out 8).trans rfl
          have hv8 := (blk_cell HE.out 8).trans rfl
          have hw8 := blk_frozen HE.out 8
          have hu9 := (blk_cell HF9.out 9).trans rfl
          have hv9 := (blk_cell HE.out 9).trans rfl
          have hw9 := blk_frozen HE.out 9
          have hu10 := (blk_cell HF9.out 10).trans rfl
          have hv10 := (blk_cell HE.out 10).trans rfl
          have hw10 := blk_frozen HE.out 10
          have hu11 := (blk_cell HF9.out 11).trans rfl
          have hv11 := (blk_cell HE.out 11).trans rfl
          have hw11 := blk_frozen HE.out 11
          have hu12 := (blk_cell HF9.out 12).trans rfl
          have hv12 := (blk_cell HE.out 12).trans rfl
          have hw12 := blk_frozen HE.out 12
          have hu13 := (blk_cell HF9.out 13).trans rfl
          have hv13 := (blk_cell HE.out 13).trans rfl
          have hw13 := blk_frozen HE.out 13
          have hu14 := (blk_cell HF9.out 14).trans rfl
          have hv14 := (blk_cell HE.out 14).trans rfl
          have hw14 := blk_frozen HE.out 14
          have hu15 := (blk_cell HF9.out 15).trans rfl
          have hv15 := (blk_cell HE.out 15).trans rfl
          have hw15 := blk_frozen HE.out 15
          go_wp2
          refine bodyPost_ret (XS.results_c rfl _ _ w.heap.size 84 #[.int .u8 o0, .int .u8 o1, .int .u8 o2, .int .u8 o3, .int .u8 o4, .int .u8 o5, .int .u8 o6, .int .u8 o7, .int .u8 o8, .int .u8 o9, .int .u8 o10, .int .u8 o11, .int .u8 o12, .int .u8 o13, .int .u8 o14, .int .u8 o15] (0, 0) _ rfl (XS.put16 _ _ _ _ _ _ _ _ _ _ _ _ _ _ _ _ HE.out) Tryd.underlying84 rfl (by kernel_rfl)) rfl ?_
          exact ⟨⟨_, rfl, HOs.out, rfl⟩, XS.bel16 _ _ _ _ _ _ _ _ _ _ _ _ _ _ _ _ HB.out (Nat.le_refl _)⟩
    · have hle : q + 64 ≤ R.length := by have := HQ.out; omega
      have hge : decide ((q : Int) + 64 ≤ R.length) = true := by rw [decide_eq_true_iff]; omega
      obtain ⟨p, hp⟩ : ∃ p, p = (XS.pad s).extract q (XS.pad s).size := ⟨_, rfl⟩
      have hps : q + 64 ≤ (XS.pad s).size := by rw [← HRl.out]; exact hle
      have hp0 : p.extract 0 64 = (XS.pad s).extract q (q + 64) := by rw [hp]; exact XS.ext_ext _ _ hps
      have hp1 : p.extract 64 p.size = (XS.pad s).extract (q + 64) (XS.pad s).size := by rw [hp]; exact XS.ext_next _ _ hps
      have HZ := Aside0.mk (show (p.extract 0 64).size = 64 by rw [hp0, ByteArray.size_extract]; omega)
      have HM := Aside0.mk (show ∀ z, z < 16 → spec_GetWord.f (bytesOf ((p.extract 0 64).extract (4 * z) (4 * z + 4))) = some (XS.Mb (p.extract 0 64) z, true) from fun z hz => spec_word4 _ HZ.out z hz)
      obtain ⟨i0, hi0, _, hsz, _⟩ := info_parts info5
      obtain ⟨Am, hcut, hA, hcm⟩ := print_mid_of (P := Tryd.prog) (Value.int .u8) (0 : Int) 44 5 .i64 .i64 Tryd.underlying44 hi0 hsz (some ⟨gx, 0, none⟩) cx R (q : Int) ((q : Int) + 64) (by omega) (by omega) (by omega) (by obtain ⟨_, cp, hv, _, _, hc, _⟩ := At.T_cell HT.out; injection hv with _ _ h3; rw [h3]; simpa using hc)
      have hl64 : ((R.take ((q : Int) + 64).toNat).drop (q : Int).toNat).length = 64 := by rw [List.length_drop, List.length_take]; omega
      have hcut' : ∀ W, (Instr.slice 44 (.slice (some ⟨gx, 0, none⟩) R.length cx) (some (.int .i64 (q : Int))) (some (.int .i64 ((q : Int) + 64))) none).run Tryd.prog W = .ok (.slice Am 64 (cx - q)) W := by
        intro W
        have h := hcut W
        rw [hl64] at h
        simpa using h
      have HCV := Aside0.mk (show (convert 44 9 (.slice Am 64 (cx - q))).run Tryd.prog wr.drew = .ok (.string (p.extract 0 64)) wr.drew by
        have hC := Kd.C_of_reads (h1 := fun _ => rfl) (hA wr.drew (Kd.reads_of_C (At.T_C (At.T_below HT.out (below_drew (Below.refl _ _))) (by omega)).2))
        have h := Kd.C_string (P := Tryd.prog) (c := cx - q) Tryd.underlying44 Tryd.underlying5 Tryd.underlying9 hC
        rw [hl64] at h
        rw [h, hp0, ← HRs.out, ← XS.strOfNums_mid]
        rfl)
      clear hcut hA hcm hl64 hi0 hsz
      have HP0 := Aside0.mk hp0
      have HP1 := Aside0.mk hp1
      have HPp := Aside0.mk hp
      clear hp hp0 hp1 hps
      go_wp2_with fail
      have e64 : wrap64 ((q : Int) + 64) = q + 64 := by unfold wrap64; omega
      have HK5 := Aside0.mk (show wr.drew.heap[g5]? = _ from HK.out)
      have HE5 := Aside0.mk (show wr.drew.heap[w.heap.size]? = _ from HE.out)
      have HF5 := Aside0.mk (show wr.drew.heap[w.heap.size + 1]? = _ from HF.out)
      have HT5 := Aside0.mk (At.T_below HT.out (below_drew (Below.refl _ _)))
      have HB5 := Aside0.mk HB.out.drew
      refine start_ (n := 9) (S := fun w' => w'.cell? ⟨g5, 0, none⟩ = some (.int .u32 x0) ∧ w'.cell? ⟨g5, 1, none⟩ = some (.int .u32 x1) ∧ w'.cell? ⟨g5, 2, none⟩ = some (.int .u32 x2) ∧ w'.cell? ⟨g5, 3, none⟩ = some (.int .u32 x3) ∧ (convert 44 9 (.slice Am 64 (cx - q))).run Tryd.prog w' = .ok (.string (p.extract 0 64)) w') (ds := [7, 8]) #[false, false, false, false, false, false, false, false, false] (by kernel_rfl) rfl rfl ⟨(blk_cell HK5.out 0).trans rfl, (blk_cell HK5.out 1).trans rfl, (blk_cell HK5.out 2).trans rfl, (blk_cell HK5.out 3).trans rfl, HCV.out⟩ (fun hHeld => ?_)
      refine pure_ (i := 1) (N := some 26) (v := ?_) (a' := ?_) #[false, true, false, false, false, false, false, false, false] rfl rfl (by kernel_rfl) (fun _ _ _ h => h) (Or.inl ⟨by rfl, ?_⟩) ?_ ?_
      rotate_left
      · intro w'
        go_simp
        with_reducible rfl
      rotate_left
      · simp only [Act.put, List.setIfInBounds_toArray, List.set_cons_zero, List.set_cons_succ, i64_w, i32_w, u32_w, u64_w]
        rfl
      refine pure_ (i := 2) (N := some 27) (v := ?_) (a' := ?_) #[false, true, true, false, false, false, false, false, false] rfl rfl (by kernel_rfl) (fun _ _ _ h => h) (Or.inl ⟨by rfl, ?_⟩) ?_ ?_
      rotate_left
      · intro w'
        go_simp
        with_reducible rfl
      rotate_left
      · simp only [Act.put, List.setIfInBounds_toArray, List.set_cons_zero, List.set_cons_succ, i64_w, i32_w, u32_w, u64_w]
        rfl
      refine pure_ (i := 3) (N := some 28) (v := ?_) (a' := ?_) #[false, true, true, true, false, false, false, false, false] rfl rfl (by kernel_rfl) (fun _ _ _ h => h) (Or.inl ⟨by rfl, ?_⟩) ?_ ?_
      rotate_left
      · intro w'
        go_simp
        with_reducible rfl
      rotate_left
      · simp only [Act.put, List.setIfInBounds_toArray, List.set_cons_zero, List.set_cons_succ, i64_w, i32_w, u32_w, u64_w]
        rfl
      refine pure_ (i := 4) (N := some 29) (v := ?_) (a' := ?_) #[false, true, true, true, true, false, false, false, false] rfl rfl (by kernel_rfl) (fun _ _ _ h => h) (Or.inl ⟨by rfl, ?_⟩) ?_ ?_
      rotate_left
      · intro w'
        go_simp
        with_reducible rfl
      rotate_left
      · simp only [Act.put, List.setIfInBounds_toArray, List.set_cons_zero, List.set_cons_succ, i64_w, i32_w, u32_w, u64_w]
        rfl
      refine pure_ (i := 5) (N := some 30) (v := ?_) (a' := ?_) #[false, true, true, true, true, true, false, false, false] rfl rfl (by kernel_rfl) (fun _ _ _ h => h) (Or.inl ⟨by rfl, ?_⟩) ?_ ?_
      rotate_left
      · intro w'
        go_simp
        with_reducible rfl
      rotate_left
      · simp only [Act.put, List.setIfInBounds_toArray, List.set_cons_zero, List.set_cons_succ, i64_w, i32_w, u32_w, u64_w]
        rfl
      refine take_ (i := 0) (N := some 25) (v := ?_) (a' := ?_) #[true, true, true, true, true, true, false, false, false] rfl rfl (by kernel_rfl) (fun _ _ _ h => h) (Or.inl ⟨by rfl, ?_⟩) hHeld ?_ ?_
      rotate_left
      · rintro w' ⟨s0, s1, s2, s3, s4⟩
        go_simp
        with_reducible rfl
      rotate_left
      · simp only [Act.put, List.setIfInBounds_toArray, List.set_cons_zero, List.set_cons_succ, i64_w, i32_w, u32_w, u64_w]
        rfl
      refine take_ (i := 6) (N := some 31) (v := ?_) (a' := ?_) #[true, true, true, true, true, true, true, false, false] rfl rfl (by kernel_rfl) (fun _ _ _ h => h) (Or.inl ⟨by rfl, ?_⟩) hHeld ?_ ?_
      rotate_left
      · rintro w' ⟨s0, s1, s2, s3, s4⟩
        go_simp
        with_reducible rfl
      rotate_left
      · simp only [Act.put, List.setIfInBounds_toArray, List.set_cons_zero, List.set_cons_succ, i64_w, i32_w, u32_w, u64_w]
        rfl
      refine last_ (i := 7) (N := some 32) #[true, true, true, true, true, true, true, true, false] rfl rfl (by kernel_rfl) (by decide) (fun K hK => ?_)
      refine goes_ Tryd.func115 (by kernel_rfl) rfl #[.agg #[.int .u32 x0, .int .u32 x1, .int .u32 x2, .int .u32 x3], .string (p.extract 0 64)] (by rfl) rfl rfl (by (try simp only [List.map_toArray, List.map_cons, List.map_nil]); first | done | rfl) ?_
      refine (spec_MixStrong.calls' x0 x1 x2 x3 (p.extract 0 64) (XS.Mb (p.extract 0 64)) _ HZ.out HM.out).mono ?_
      rintro e w6 ⟨⟨y0, y1, y2, y3, hy, rfl⟩, hb⟩
      refine ⟨_, rfl, ?_⟩
      have HY := Aside0.mk hy
      clear hy
      have HK6 := Aside0.mk (blk_below HK5.out hb)
      have HB6 := Aside0.mk (below_step HB5.out hb)
      have HE6 := Aside0.mk (blk_below HE5.out hb)
      have HF6 := Aside0.mk (blk_below HF5.out hb)
      have HT6 := Aside0.mk (At.T_below HT5.out hb)
      have hc0 := (blk_cell HK6.out 0).trans rfl
      have hc1 := (blk_cell HK6.out 1).trans rfl
      have hc2 := (blk_cell HK6.out 2).trans rfl
      have hc3 := (blk_cell HK6.out 3).trans rfl
      have hf0 := blk_frozen HK6.out 0
      have hf1 := blk_frozen HK6.out 1
      have hf2 := blk_frozen HK6.out 2
      have hf3 := blk_frozen HK6.out 3
      clear hb
      refine hK.out _ _ ?_
      clear hK K
      refine norm_ (a' := ?_) ?_ ?_
      rotate_left
      · show Act.put _ (some 32) _ = _
        simp only [Act.put, List.setIfInBounds_toArray, List.set_cons_zero, List.set_cons_succ, i64_w, i32_w, u32_w, u64_w]
        rfl
      refine last_ (i := 8) (N := none) #[true, true, true, true, true, true, true, true, true] rfl rfl (by kernel_rfl) (by decide) (fun K hK => ?_)
      refine skip_ (w1 := ?_) (by rfl) rfl ?_ ?_
      rotate_left
      · go_simp
        rfl
      refine hK.out _ _ ?_
      clear hK K
      refine done_ (by kernel_rfl) ?_
      go_wp2
      have hn1 : w.heap.size ≠ g5 := by have := HG5.out; omega
      have hn2 : w.heap.size + 1 ≠ g5 := by have := HG5.out; omega
      have hn3 : gx ≠ g5 := At.T_ne HT6.out HK6.out (by decide)
      have HK7 : Aside0 (((((w6.setCell ⟨g5, 0, none⟩ (.int .u32 y0)).setCell ⟨g5, 1, none⟩ (.int .u32 y1)).setCell ⟨g5, 2, none⟩ (.int .u32 y2)).setCell ⟨g5, 3, none⟩ (.int .u32 y3)).heap[g5]? = some (.cells #[.int .u32 y0, .int .u32 y1, .int .u32 y2, .int .u32 y3] 138)) := ⟨blk_put (blk_put (blk_put (blk_put HK6.out 0 _ rfl) 1 _ rfl) 2 _ rfl) 3 _ rfl⟩
      have HE7 := Aside0.mk (show ((((w6.setCell ⟨g5, 0, none⟩ (.int .u32 y0)).setCell ⟨g5, 1, none⟩ (.int .u32 y1)).setCell ⟨g5, 2, none⟩ (.int .u32 y2)).setCell ⟨g5, 3, none⟩ (.int .u32 y3)).heap[w.heap.size]? = some (.cells #[.int .u8 0, .int .u8 0, .int .u8 0, .int .u8 0, .int .u8 0, .int .u8 0, .int .u8 0, .int .u8 0, .int .u8 0, .int .u8 0, .int .u8 0, .int .u8 0, .int .u8 0, .int .u8 0, .int .u8 0, .int .u8 0] 84) from blk_far (blk_far (blk_far (blk_far HE6.out (p := ⟨g5, 0, none⟩) hn1 _) (p := ⟨g5, 1, none⟩) hn1 _) (p := ⟨g5, 2, none⟩) hn1 _) (p := ⟨g5, 3, none⟩) hn1 _)
      have HF7 := Aside0.mk (show ((((w6.setCell ⟨g5, 0, none⟩ (.int .u32 y0)).setCell ⟨g5, 1, none⟩ (.int .u32 y1)).setCell ⟨g5, 2, none⟩ (.int .u32 y2)).setCell ⟨g5, 3, none⟩ (.int .u32 y3)).heap[w.heap.size + 1]? = some (.cells #[.int .u8 0, .int .u8 0, .int .u8 0, .int .u8 0, .int .u8 0, .int .u8 0, .int .u8 0, .int .u8 0, .int .u8 0, .int .u8 0, .int .u8 0, .int .u8 0, .int .u8 0, .int .u8 0, .int .u8 0, .int .u8 0] 84) from blk_far (blk_far (blk_far (blk_far HF6.out (p := ⟨g5, 0, none⟩) hn2 _) (p := ⟨g5, 1, none⟩) hn2 _) (p := ⟨g5, 2, none⟩) hn2 _) (p := ⟨g5, 3, none⟩) hn2 _)
      have HT7 := Aside0.mk (At.T_set (At.T_set (At.T_set (At.T_set HT6.out ⟨g5, 0, none⟩ hn3 (.int .u32 y0)) ⟨g5, 1, none⟩ hn3 (.int .u32 y1)) ⟨g5, 2, none⟩ hn3 (.int .u32 y2)) ⟨g5, 3, none⟩ hn3 (.int .u32 y3))
      have hg : w.heap.size ≤ g5 := by have := HG5.out; omega
      have HB7 : Aside0 (Below w.heap.size w ((((w6.setCell ⟨g5, 0, none⟩ (.int .u32 y0)).setCell ⟨g5, 1, none⟩ (.int .u32 y1)).setCell ⟨g5, 2, none⟩ (.int .u32 y2)).setCell ⟨g5, 3, none⟩ (.int .u32 y3))) := ⟨(((HB6.out.setCell hg _).setCell hg _).setCell hg _).setCell hg _⟩
      have HR7 := Aside0.mk (show XS.out (XS.run (m - 1) ((XS.pad s).extract (q + 64) (XS.pad s).size) (y0, y1, y2, y3)) = XS.strong s by
        have h := HR.out
        obtain ⟨z, rfl⟩ : ∃ z, m = z + 1 := ⟨m - 1, by omega⟩
        rw [XS.run, ← HPp.out, HP1.out] at h
        rw [HY.out]
        exact h)
      clear hn1 hn2 hn3 hc0 hc1 hc2 hc3 hf0 hf1 hf2 hf3 hcut' hge e64
      go_roundw
      case rel => exact ⟨q + 64, m - 1, y0, y1, y2, y3, by go_num, ⟨by have := HQ.out; omega⟩, HK7, HE7, HF7, HT7, HB7, ⟨by rw [HY.out]; exact XS.mix_rng _ _⟩, HR7⟩
      case measure => simp [intOf]; omega


/-! ### spec_SeedStrong: function 129 (told by hand) -/
set_option maxHeartbeats 8000000 in
set_option maxRecDepth 100000 in
theorem spec_SeedStrong.calls' (x : Int) (s : ByteArray) (w : World) (hs : s.size ≤ 19996) (h0 : 0 ≤ x) (h1 : x < 4294967296) :
    Calls Tryd.prog 129 #[.int .u32 x, .string s] w fun e w' => (∃ O : List Int, O.length = 16 ∧ strOfNums O = XS.strong (strOfNums (XS.w4 x) ++ s) ∧ e = .returned (.agg (O.map fun x => Value.int .u8 x).toArray)) ∧ Below w.heap.size w w' := by
  have HSs := Aside0.mk hs
  have hd : decide ((s.size : Int) > 20000) = false := by rw [decide_eq_false_iff_not]; omega
  have hd2 : decide (20000 < (s.size : Int)) = false := by rw [decide_eq_false_iff_not]; omega
  have HPW := Aside0.mk (spec_PutWord_w4 x h0 h1)
  clear hs h0 h1
  go_enter Tryd.func129, Tryd.ntmps129
  go_wp2_with fail
  refine (spec_PutWord.calls x (XS.w4 x) _ HPW.out).mono ?_
  rintro e w1 ⟨v, rfl, hv, hb⟩
  obtain ⟨Av, cv, rfl⟩ := Kd.R_slice hv
  have hcv : (convert 44 9 (.slice Av (XS.w4 x).length cv)).run Tryd.prog w1 = .ok (.string (strOfNums (XS.w4 x))) w1 := Kd.C_string Tryd.underlying44 Tryd.underlying5 Tryd.underlying9 (Kd.R_reads' hv).2.2
  have HE1 := Aside0.mk (show w1.heap[w.heap.size]? = some (.cells #[.int .u8 0, .int .u8 0, .int .u8 0, .int .u8 0, .int .u8 0, .int .u8 0, .int .u8 0, .int .u8 0, .int .u8 0, .int .u8 0, .int .u8 0, .int .u8 0, .int .u8 0, .int .u8 0, .int .u8 0, .int .u8 0] 84) from blk_below (heap_alloc_new w _) hb)
  have HB1 := Aside0.mk (below_step ((Below.refl w.heap.size w).alloc (Nat.le_refl _) (.cells #[.int .u8 0, .int .u8 0, .int .u8 0, .int .u8 0, .int .u8 0, .int .u8 0, .int .u8 0, .int .u8 0, .int .u8 0, .int .u8 0, .int .u8 0, .int .u8 0, .int .u8 0, .int .u8 0, .int .u8 0, .int .u8 0] 84)) hb)
  clear hv hb
  have hsz : (9223372036854775807 < (strOfNums (XS.w4 x)).size + s.size) = False := eq_false (by rw [XS.w4_size]; have := HSs.out; omega)
  obtain ⟨p, hp⟩ : ∃ p, p = strOfNums (XS.w4 x) := ⟨_, rfl⟩
  have HP4 := Aside0.mk (show p.size = 4 by rw [hp]; rfl)
  rw [← hp] at hcv hsz
  have HP := Aside0.mk hp
  clear hp
  go_wp2_with fail
  refine (spec_StrongOf.calls' (p ++ s) _ (by rw [ByteArray.size_append, HP4.out]; have := HSs.out; omega)).mono ?_
  rintro e w2 ⟨⟨O, hO, hOs, rfl⟩, hb⟩
  obtain ⟨o0, o1, o2, o3, o4, o5, o6, o7, o8, o9, o10, o11, o12, o13, o14, o15, rfl⟩ := XS.list16 hO
  have HO := Aside0.mk hO
  have HOs := Aside0.mk hOs
  have HE := Aside0.mk (blk_below HE1.out hb)
  have HB := Aside0.mk (below_step HB1.out hb)
  clear hb hO hOs hcv hsz HE1 HB1
  have hv0 := (blk_cell HE.out 0).trans rfl
  have hw0 := blk_frozen HE.out 0
  have hv1 := (blk_cell HE.out 1).trans rfl
  have hw1 := blk_frozen HE.out 1
  have hv2 := (blk_cell HE.out 2).trans rfl
  have hw2 := blk_frozen HE.out 2
  have hv3 := (blk_cell HE.out 3).trans rfl
  have hw3 := blk_frozen HE.out 3
  have hv4 := (blk_cell HE.out 4).trans rfl
  have hw4 := blk_frozen HE.out 4
  have hv5 := (blk_cell HE.out 5).trans rfl
  have hw5 := blk_frozen HE.out 5
  have hv6 := (blk_cell HE.out 6).trans rfl
  have hw6 := blk_frozen HE.out 6
  have hv7 := (blk_cell HE.out 7).trans rfl
  have hw7 := blk_frozen HE.out 7
  have hv8 := (blk_cell HE.out 8).trans rfl
  have hw8 := blk_frozen HE.out 8
  have hv9 := (blk_cell HE.out 9).trans rfl
  have hw9 := blk_frozen HE.out 9
  have hv10 := (blk_cell HE.out 10).trans rfl
  have hw10 := blk_frozen HE.out 10
  have hv11 := (blk_cell HE.out 11).trans rfl
  have hw11 := blk_frozen HE.out 11
  have hv12 := (blk_cell HE.out 12).trans rfl
  have hw12 := blk_frozen HE.out 12
  have hv13 := (blk_cell HE.out 13).trans rfl
  have hw13 := blk_frozen HE.out 13
  have hv14 := (blk_cell HE.out 14).trans rfl
  have hw14 := blk_frozen HE.out 14
  have hv15 := (blk_cell HE.out 15).trans rfl
  have hw15 := blk_frozen HE.out 15
  go_wp2
  refine bodyPost_ret (XS.results_c rfl _ _ w.heap.size 84 #[.int .u8 o0, .int .u8 o1, .int .u8 o2, .int .u8 o3, .int .u8 o4, .int .u8 o5, .int .u8 o6, .int .u8 o7, .int .u8 o8, .int .u8 o9, .int .u8 o10, .int .u8 o11, .int .u8 o12, .int .u8 o13, .int .u8 o14, .int .u8 o15] (0, 0) _ rfl (XS.put16 _ _ _ _ _ _ _ _ _ _ _ _ _ _ _ _ HE.out) Tryd.underlying84 rfl (by kernel_rfl)) rfl ?_
  refine ⟨⟨_, HO.out, ?_, rfl⟩, ?_⟩
  · rw [← HP.out]; exact HOs.out
  · exact XS.bel16 _ _ _ _ _ _ _ _ _ _ _ _ _ _ _ _ HB.out (Nat.le_refl _)


/-! ### spec_ShortSum: function 74 (told by hand) -/
/-- The short sum: of right arguments alone. -/
def spec_ShortSum.f (a0 : Int) (a1 : ByteArray) (a2 : Int) : Option ByteArray := if 0 ≤ a0 ∧ a0 < 4294967296 ∧ 1 ≤ a2 ∧ a2 ≤ 16 ∧ a1.size ≤ 19996 then some ((XS.strong (strOfNums (XS.w4 a0) ++ a1)).extract 0 a2.toNat) else none
set_option maxHeartbeats 8000000 in
set_option maxRecDepth 100000 in
theorem spec_ShortSum.calls (a0 : Int) (a1 : ByteArray) (a2 : Int) (r : ByteArray) (w : World) (h : spec_ShortSum.f a0 a1 a2 = some r) :
    Calls Tryd.prog 74 #[.int .u32 a0, .string a1, .int .i64 a2] w fun e w' => e = .returned (.string r) ∧ Below w.heap.size w w' := by
  unfold spec_ShortSum.f at h
  by_cases hc : 0 ≤ a0 ∧ a0 < 4294967296 ∧ 1 ≤ a2 ∧ a2 ≤ 16 ∧ a1.size ≤ 19996
  rotate_left
  · rw [if_neg hc] at h
    exact absurd h (by simp)
  rw [if_pos hc] at h
  obtain ⟨h0, h1, h2, h3, h4⟩ := hc
  have HR := Aside0.mk (Option.some.inj h)
  obtain ⟨m, rfl⟩ : ∃ m : Nat, a2 = m := ⟨a2.toNat, by omega⟩
  have hli : spec_l01In.f (m : Int) 1 16 = some true := by
    unfold spec_l01In.f
    simp [h2, h3]
  have HLI := Aside0.mk hli
  have H4 := Aside0.mk h4
  have H0 := Aside0.mk h0
  have H1 := Aside0.mk h1
  have HM := Aside0.mk (show m ≤ 16 by omega)
  have hgt : decide ((a1.size : Int) > 19996) = false := by rw [decide_eq_false_iff_not]; omega
  have hgt2 : decide (19996 < (a1.size : Int)) = false := by rw [decide_eq_false_iff_not]; omega
  clear h h0 h1 h4 hli
  go_enter Tryd.func74, Tryd.ntmps74
  go_wp2_with fail
  refine (spec_l01In.calls _ _ _ true _ HLI.out).mono ?_
  rintro e w0 ⟨rfl, hd⟩
  have HB0 := Aside0.mk hd.below
  clear hd
  go_wp2_with fail
  refine (spec_SeedStrong.calls' a0 a1 _ H4.out H0.out H1.out).mono ?_
  rintro e w1 ⟨⟨O, hO, hOs, rfl⟩, hb⟩
  obtain ⟨o0, o1, o2, o3, o4, o5, o6, o7, o8, o9, o10, o11, o12, o13, o14, o15, rfl⟩ := XS.list16 hO
  have HB1 := Aside0.mk (below_step HB0.out hb)
  have HOs := Aside0.mk hOs
  obtain ⟨Q, hQ⟩ : ∃ Q : List Int, Q = [o0, o1, o2, o3, o4, o5, o6, o7, o8, o9, o10, o11, o12, o13, o14, o15] := ⟨_, rfl⟩
  rw [← hQ] at HOs
  have HQl := Aside0.mk (show Q.length = 16 by rw [hQ]; rfl)
  have HQa := Aside0.mk (show (#[.int .u8 o0, .int .u8 o1, .int .u8 o2, .int .u8 o3, .int .u8 o4, .int .u8 o5, .int .u8 o6, .int .u8 o7, .int .u8 o8, .int .u8 o9, .int .u8 o10, .int .u8 o11, .int .u8 o12, .int .u8 o13, .int .u8 o14, .int .u8 o15] : Array Value) = (Q.map fun x => Value.int .u8 x).toArray by rw [hQ]; rfl)
  clear hO hOs hb hQ HB0
  go_wp2_with fail
  obtain ⟨g7, hg7⟩ : ∃ g, g = w1.heap.size := ⟨_, rfl⟩
  rw [← hg7]
  have HK2 := Aside0.mk (show (w1.alloc (.cells #[.int .u8 o0, .int .u8 o1, .int .u8 o2, .int .u8 o3, .int .u8 o4, .int .u8 o5, .int .u8 o6, .int .u8 o7, .int .u8 o8, .int .u8 o9, .int .u8 o10, .int .u8 o11, .int .u8 o12, .int .u8 o13, .int .u8 o14, .int .u8 o15] 84)).heap[g7]? = some (.cells (Q.map fun x => Value.int .u8 x).toArray 84) from by rw [hg7, ← HQa.out]; exact heap_alloc_new w1 _)
  have HB2 := Aside0.mk (HB1.out.alloc HB1.out.size (.cells #[.int .u8 o0, .int .u8 o1, .int .u8 o2, .int .u8 o3, .int .u8 o4, .int .u8 o5, .int .u8 o6, .int .u8 o7, .int .u8 o8, .int .u8 o9, .int .u8 o10, .int .u8 o11, .int .u8 o12, .int .u8 o13, .int .u8 o14, .int .u8 o15] 84))
  clear hg7 HB1
  generalize (w1.alloc (.cells #[.int .u8 o0, .int .u8 o1, .int .u8 o2, .int .u8 o3, .int .u8 o4, .int .u8 o5, .int .u8 o6, .int .u8 o7, .int .u8 o8, .int .u8 o9, .int .u8 o10, .int .u8 o11, .int .u8 o12, .int .u8 o13, .int .u8 o14, .int .u8 o15] 84)) = w2 at HK2 HB2 ⊢
  obtain ⟨P, hP⟩ : ∃ P, P = strOfNums Q := ⟨_, rfl⟩
  have HPs := Aside0.mk (show P.size = 16 by rw [hP, strOfNums_size, HQl.out])
  have HPe := Aside0.mk (show ∀ i, i < 16 → P.extract 0 (i + 1) = P.extract 0 i ++ strOfNums [Q.getD i 0] from fun i hi => by rw [hP]; exact XS.ext_succ (by rw [HQl.out]; exact hi))
  have HPr := Aside0.mk (show P = XS.strong (strOfNums (XS.w4 a0) ++ a1) by rw [hP]; exact HOs.out)
  clear hP
  have HCV := Aside0.mk (show ∀ (y : Int) (W : World), (convert 44 9 (.slice (some ⟨W.heap.size, 0, none⟩) 1 1)).run Tryd.prog (W.alloc (.cells #[.int .u8 y] 5)) = .ok (.string (strOfNums [y])) (W.alloc (.cells #[.int .u8 y] 5)) from fun y W => by
    refine Kd.C_string (P := Tryd.prog) (xs := [y]) Tryd.underlying44 Tryd.underlying5 Tryd.underlying9 (Kd.C_of_reads (d := (0 : Int)) (h1 := fun _ => rfl) ⟨rfl, by decide, fun _ => ⟨_, rfl, fun j hj => ?_⟩⟩)
    obtain rfl : j = 0 := by simp at hj; omega
    exact (blk_cell (heap_alloc_new W (.cells #[.int .u8 y] 5)) 0).trans rfl)
  go_loopw [8, 9] (fun v8 v9 wr => ∃ i : Nat, i ≤ m ∧ v9 = .int .i64 i ∧ v8 = .string (P.extract 0 i) ∧ Aside0 (wr.heap[g7]? = some (.cells (Q.map fun x => Value.int .u8 x).toArray 84)) ∧ Aside0 (Below w.heap.size w wr)) (fun _ v9 _ => m - (intOf v9).toNat)
  case atStart => exact ⟨0, Nat.zero_le _, rfl, by rw [XS.ext_zero], HK2, HB2⟩
  case round =>
    clear HK2 HB2
    obtain ⟨i, hi, rfl, rfl, HK, HB⟩ := hrel
    by_cases hlt : i < m
    · obtain ⟨y, hy⟩ : ∃ y, y = Q.getD i 0 := ⟨_, rfl⟩
      have hcy : wr.cell? ⟨g7, i, none⟩ = some (.int .u8 y) := by
        rw [blk_cell HK.out i, List.getElem?_toArray, List.getElem?_map, List.getElem?_eq_getElem (show i < Q.length by rw [HQl.out]; have := HM.out; omega), hy]
        simp [List.getD_eq_getElem?_getD, show i < Q.length by rw [HQl.out]; have := HM.out; omega]
      have hcv := HCV.out y
      obtain ⟨t1, ht1⟩ : ∃ t, t = strOfNums [y] := ⟨_, rfl⟩
      obtain ⟨pi, hpi⟩ : ∃ p, p = P.extract 0 i := ⟨_, rfl⟩
      have hs1 : t1.size = 1 := by rw [ht1]; rfl
      have hs2 : pi.size ≤ 16 := by rw [hpi, ByteArray.size_extract, HPs.out]; omega
      have hq1 : (9223372036854775807 < pi.size + t1.size) = False := eq_false (by omega)
      rw [← ht1] at hcv
      rw [← hpi]
      have HN := Aside0.mk (show pi ++ t1 = P.extract 0 (i + 1) by rw [HPe.out i (by have := HM.out; omega), hpi, ht1, hy])
      clear hy ht1 hpi hs1 hs2
      go_wp2_with fail
      have HK7 := Aside0.mk (blk_alloc HK.out (.cells #[.int .u8 y] 5))
      have HB7 := Aside0.mk (HB.out.alloc HB.out.size (.cells #[.int .u8 y] 5))
      clear hcv hq1 hcy
      go_roundw
      case rel => exact ⟨i + 1, hlt, by go_num, by rw [HN.out], HK7, HB7⟩
      case measure => simp [intOf]; omega
    · obtain rfl : i = m := by omega
      go_wp2
      go_ret
      refine ⟨?_, HB.out⟩
      rw [← HR.out, HPr.out]
      rfl


end Go.Proofs.YtphlmaaplaaopaaDoor.PFnExactAskFor
