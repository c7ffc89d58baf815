/- The program's GetSig answers as the reference's, at all bytes; it writes into no argument, and its answer is its own, behind a second call too. No condition beside the form's own reach. -/
import Derived.Test.YtbiaakkmmkddfaaPFnExactGetSigx10
namespace Go.Proofs.Ytbiaakkmmkddfaa.Pure
open Go.RowKit Go.Proofs.Ytbiaakkmmkddfaa.PFnExactGetSig Go.Proofs.YtbiaakkmmkddfaaW.PrintWords Go.Proofs.YtbiaakkmmkddfaaW.PrintLast Go.Proofs.YtbiaakkmmkddfaaW.PrintMore
theorem w64 {x : Int} (h0 : -9223372036854775808 ≤ x) (h1 : x ≤ 9223372036854775807) : wrap64 x = x := by unfold wrap64; omega
theorem emp_iff (s : ByteArray) : s.toList = ([] : List UInt8) ↔ s.size = 0 := by
  rw [ByteArray.toList_eq]
  obtain ⟨⟨d⟩⟩ := s
  cases d <;> simp [ByteArray.size]
theorem ev_at {α : Type} {g : Nat → Option α} {r : α} (h : ∀ k, g (k + 1) = some r) : Ev g r := ⟨1, fun k hk => by
  obtain ⟨j, rfl⟩ : ∃ j, k = j + 1 := ⟨k - 1, by omega⟩
  exact h j⟩
theorem ev_ret {α : Type} {g : Nat → Option α} {r : α} (h : ∀ k, g k = some r) : Ev g r := ⟨0, fun k _ => h k⟩
theorem ev_det {α : Type} {g : Nat → Option α} {r s : α} (h : Ev g r) (k : Ev g s) : r = s := by
  obtain ⟨K, h⟩ := h
  obtain ⟨L, k⟩ := k
  have h1 := h (K + L) (by omega)
  have h2 := k (K + L) (by omega)
  rw [h1] at h2
  exact Option.some.inj h2
theorem ba_ext {a b : ByteArray} (h : a.toList = b.toList) : a = b := by
  rw [ByteArray.toList_eq, ByteArray.toList_eq] at h
  exact ByteArray.ext (Array.toList_inj.1 h)
theorem bytesOf_append (a b : ByteArray) : bytesOf (a ++ b) = bytesOf a ++ bytesOf b := by simp [bytesOf, ByteArray.data_append]
theorem strOf_bytesOf (s : ByteArray) : strOfNums (bytesOf s) = s := by
  apply ByteArray.ext
  apply Array.toList_inj.1
  rw [strOfNums_data, bytesOf, List.map_map]
  exact (List.map_congr_left (fun b _ => by simp)).trans (List.map_id _)
theorem bytesOf_inj {a b : ByteArray} (h : bytesOf a = bytesOf b) : a = b := by rw [← strOf_bytesOf a, h, strOf_bytesOf]
theorem bt_nn (s : ByteArray) (i : Int) : 0 ≤ bt s i := by unfold bt; split <;> omega
theorem bt_le (s : ByteArray) (i : Int) : bt s i ≤ 255 := by
  unfold bt
  split
  · rename_i h
    have := (s[i.toNat]'h).toNat_lt
    omega
  · omega
theorem or_sum (i j : Nat) (hj : j ≤ 32) (hij : i ≤ j) (x y : Int) (hx0 : 0 ≤ x) (hx : x < 2 ^ i) (hy0 : 0 ≤ y) (hy : y % 2 ^ i = 0) (hy1 : y < 2 ^ j) : Go.bits .or .u32 x y = x + y := by
  have hx1 : x < 2 ^ j := Int.lt_of_lt_of_le hx (by exact_mod_cast Nat.pow_le_pow_right (by decide) hij)
  have wr : ∀ n : Int, 0 ≤ n → n < 2 ^ j → IntKind.u32.wrap n = n := by
    intro n h0 h1
    have : (2 : Int) ^ j ≤ 2 ^ 32 := by exact_mod_cast Nat.pow_le_pow_right (by decide) hj
    rw [IntKind.wrap_u32]
    have e : (2 : Int) ^ 32 = 4294967296 := by decide
    omega
  have h := bits_join .u32 j hj wr i y x hy0 hy hy1 hx0 hx hx1
  obtain ⟨a, rfl⟩ := Int.eq_ofNat_of_zero_le hx0
  obtain ⟨b, rfl⟩ := Int.eq_ofNat_of_zero_le hy0
  have ha : a < 2 ^ j := by exact_mod_cast hx1
  have hb : b < 2 ^ j := by exact_mod_cast hy1
  rw [(bits_nat .u32 j hj wr a b ha hb).2, Nat.or_comm, ← (bits_nat .u32 j hj wr b a hb ha).2, h]
  omega
/-- The word of a text's first four bytes. -/
def WD (s : ByteArray) : Int := bt s 0 + 256 * bt s 1 + 65536 * bt s 2 + 16777216 * bt s 3
theorem WD_nn (s : ByteArray) : 0 ≤ WD s := by
  have := bt_nn s 0; have := bt_nn s 1; have := bt_nn s 2; have := bt_nn s 3
  unfold WD; omega
theorem WD_lt (s : ByteArray) : WD s < 4294967296 := by
  have := bt_le s 0; have := bt_le s 1; have := bt_le s 2; have := bt_le s 3
  unfold WD; omega
theorem word_or (a b c d : Int) (a0 : 0 ≤ a) (a1 : a ≤ 255) (b0 : 0 ≤ b) (b1 : b ≤ 255) (c0 : 0 ≤ c) (c1 : c ≤ 255) (d0 : 0 ≤ d) (d1 : d ≤ 255) :
    Go.bits .or .u32 (Go.bits .or .u32 (Go.bits .or .u32 (a % 4294967296) (((b % 4294967296) * 256) % 4294967296)) (((c % 4294967296) * 65536) % 4294967296)) (((d % 4294967296) * 16777216) % 4294967296) = a + 256 * b + 65536 * c + 16777216 * d := by
  rw [show a % 4294967296 = a by omega, show ((b % 4294967296) * 256) % 4294967296 = b * 256 by omega, show ((c % 4294967296) * 65536) % 4294967296 = c * 65536 by omega, show ((d % 4294967296) * 16777216) % 4294967296 = d * 16777216 by omega]
  rw [or_sum 8 16 (by decide) (by decide) a (b * 256) a0 (by omega) (by omega) (by omega) (by omega)]
  rw [or_sum 16 24 (by decide) (by decide) (a + b * 256) (c * 65536) (by omega) (by omega) (by omega) (by omega) (by omega)]
  rw [or_sum 24 32 (by decide) (by decide) (a + b * 256 + c * 65536) (d * 16777216) (by omega) (by omega) (by omega) (by omega) (by omega)]
  omega
theorem bt_extract (s : ByteArray) (n : Nat) (hn : n ≤ s.size) (i : Nat) (hi : i < n) : bt (s.extract 0 n) i = bt s i := by
  unfold bt
  have h1 : ((i : Int)).toNat < (s.extract 0 n).size := by simp; omega
  have h2 : ((i : Int)).toNat < s.size := by simp; omega
  rw [dif_pos h1, dif_pos h2]
  simp only [Int.toNat_natCast, ByteArray.getElem_extract, Nat.zero_add]
theorem or_sumK (k : IntKind) (i j : Nat) (hj : j ≤ k.bits) (hk : ∀ n : Int, 0 ≤ n → n < 2 ^ j → k.wrap n = n) (hij : i ≤ j) (x y : Int) (hx0 : 0 ≤ x) (hx : x < 2 ^ i) (hy0 : 0 ≤ y) (hy : y % 2 ^ i = 0) (hy1 : y < 2 ^ j) : Go.bits .or k x y = x + y := by
  have hx1 : x < 2 ^ j := Int.lt_of_lt_of_le hx (by exact_mod_cast Nat.pow_le_pow_right (by decide) hij)
  have h := bits_join k j hj hk i y x hy0 hy hy1 hx0 hx hx1
  obtain ⟨a, rfl⟩ := Int.eq_ofNat_of_zero_le hx0
  obtain ⟨b, rfl⟩ := Int.eq_ofNat_of_zero_le hy0
  have ha : a < 2 ^ j := by exact_mod_cast hx1
  have hb : b < 2 ^ j := by exact_mod_cast hy1
  rw [(bits_nat k j hj hk a b ha hb).2, Nat.or_comm, ← (bits_nat k j hj hk b a hb ha).2, h]
  omega
theorem u8_and127 (b : Int) (h0 : 0 ≤ b) (h1 : b ≤ 255) : Go.bits .and .u8 b 127 = b % 128 := by
  have hk : ∀ n : Int, 0 ≤ n → n < 2 ^ 8 → IntKind.u8.wrap n = n := by
    intro n h0 h1
    rw [IntKind.wrap_u8]
    have e : (2 : Int) ^ 8 = 256 := by decide
    omega
  obtain ⟨a, rfl⟩ := Int.eq_ofNat_of_zero_le h0
  have h := (bits_nat .u8 8 (by decide) hk a 127 (by omega) (by decide)).1
  rw [show ((127 : Nat) : Int) = 127 from rfl] at h
  rw [h, show (127 : Nat) = 2 ^ 7 - 1 from rfl, Nat.and_two_pow_sub_one_eq_mod]
  omega
theorem pow128 (i : Nat) : (128 : Int) ^ i = 2 ^ (7 * i) := by rw [Int.pow_mul]; rfl
theorem pow128_pos (i : Nat) : (0 : Int) < 128 ^ i := Int.pow_pos (by decide)
theorem pow128_le {i j : Nat} (h : i ≤ j) : (128 : Int) ^ i ≤ 128 ^ j := by exact_mod_cast Nat.pow_le_pow_right (by decide) h
theorem var_or (b x : Int) (i : Nat) (hb0 : 0 ≤ b) (hb1 : b ≤ 255) (hi : i ≤ 8) (hx0 : 0 ≤ x) (hx : x < 128 ^ i) :
    Go.bits .or .i64 x (shl .i64 (wrap64 (Go.bits .and .u8 b 127)) (wrap64 (7 * (i : Int)))) = x + b % 128 * 128 ^ i := by
  have hp := pow128_pos i
  have hpl : (128 : Int) ^ i ≤ 128 ^ 8 := pow128_le hi
  have h8 : (128 : Int) ^ 8 = 72057594037927936 := by decide
  have hm0 : 0 ≤ b % 128 := by omega
  have hm1 : b % 128 ≤ 127 := by omega
  have hv0 : 0 ≤ b % 128 * 128 ^ i := Int.mul_nonneg hm0 (by omega)
  have hv1 : b % 128 * 128 ^ i ≤ 127 * 128 ^ i := Int.mul_le_mul_of_nonneg_right hm1 (by omega)
  have hs : shl .i64 (b % 128) (7 * (i : Int)) = b % 128 * 128 ^ i := by
    unfold shl
    rw [show (7 * (i : Int)).toNat = 7 * i by omega, show min (7 * i) IntKind.i64.bits = 7 * i by simp [IntKind.bits]; omega, ← pow128, IntKind.wrap_i64]
    omega
  rw [u8_and127 b hb0 hb1, w64 (x := b % 128) (by omega) (by omega), w64 (x := 7 * (i : Int)) (by omega) (by omega), hs]
  refine or_sumK .i64 (7 * i) 63 (by decide) (fun n h0 h1 => ?_) (by omega) x _ hx0 (by rw [← pow128]; exact hx) hv0 ?_ ?_
  · rw [IntKind.wrap_i64]
    have e : (2 : Int) ^ 63 = 9223372036854775808 := by decide
    omega
  · rw [← pow128]; exact Int.mul_emod_left _ _
  · have e : (2 : Int) ^ 63 = 9223372036854775808 := by decide
    omega
/-- What a number's bytes say: its value and how many they are; (0, 0) of none. -/
def gvl : Bool → Nat → List Int → Int × Int
  | _, 0, _ => (0, 0)
  | _, _ + 1, [] => (0, 0)
  | fst, n + 1, b :: t => if b < 128 then (if b = 0 ∧ fst = false then (0, 0) else (b, 1)) else if (gvl false n t).2 = 0 then (0, 0) else (b - 128 + 128 * (gvl false n t).1, (gvl false n t).2 + 1)
def gv (l : List Int) : Int × Int := gvl true 9 l
theorem gvl_snd (n : Nat) : ∀ (f : Bool) (l : List Int), 0 ≤ (gvl f n l).2 ∧ (gvl f n l).2 ≤ n ∧ (gvl f n l).2 ≤ l.length := by
  induction n with
  | zero => intro f l; simp [gvl]
  | succ n ih =>
    intro f l
    cases l with
    | nil => simp [gvl]; omega
    | cons b t =>
      have := ih false t
      simp only [gvl, List.length_cons]
      split
      · split
        · simp; omega
        · simp; omega
      · split
        · simp; omega
        · simp; omega
theorem drop_bt (s : ByteArray) (i : Nat) (h : i < s.size) : (bytesOf s).drop i = bt s i :: (bytesOf s).drop (i + 1) := by
  have hl : i < (bytesOf s).length := by rw [bytesOf_length]; exact h
  rw [List.drop_eq_getElem_cons hl, ← rd_bytesOf]
  simp [rd, hl]
def rvp (i : Nat) (x : Int) (r : Int × Int) : Int × Int := if r.2 = 0 then (0, 0) else (x + 128 ^ i * r.1, i + r.2)
def rvv (i : Nat) (x : Int) (l : List Int) : Int × Int := rvp i x (gvl (decide (i = 0)) (9 - i) l)
theorem rvp_zero (i : Nat) (x : Int) : rvp i x (0, 0) = (0, 0) := rfl
theorem gvl_low (f : Bool) (n : Nat) (b : Int) (t : List Int) (h : b < 128) : gvl f (n + 1) (b :: t) = if b = 0 ∧ f = false then (0, 0) else (b, 1) := by
  simp only [gvl]
  rw [if_pos h]
theorem gvl_high (f : Bool) (n : Nat) (b : Int) (t : List Int) (h : ¬ b < 128) : gvl f (n + 1) (b :: t) = if (gvl false n t).2 = 0 then (0, 0) else (b - 128 + 128 * (gvl false n t).1, (gvl false n t).2 + 1) := by
  simp only [gvl]
  rw [if_neg h]
theorem impl_rv (s : ByteArray) (d : Nat) : ∀ (i : Nat) (x : Int), 9 - i = d → i ≤ 9 → 0 ≤ x → x < 128 ^ i → Ev (fun k => impl_readVar.l0 k s x i) (rvv i x ((bytesOf s).drop i)) := by
  induction d with
  | zero =>
    intro i x hd hi hx0 hx
    obtain rfl : i = 9 := by omega
    have hr : rvv 9 x ((bytesOf s).drop 9) = (0, 0) := rfl
    rw [hr]
    have hj : Ev (fun k => impl_readVar.j1 k s x ((9 : Nat) : Int) false) (0, 0) := ev_at (fun k => by simp only [impl_readVar.j1]; rw [if_neg (by decide)])
    refine Ev.step (fun k => ?_) hj
    simp only [impl_readVar.l0]
    by_cases h : ((9 : Nat) : Int) < (s.size : Int)
    · rw [if_pos h, decide_eq_false (by decide)]
    · rw [if_neg h]
  | succ d ih =>
    intro i x hd hi hx0 hx
    have hi8 : i ≤ 8 := by omega
    by_cases h : (i : Int) < (s.size : Int)
    · have hb0 := bt_nn s i
      have hb1 := bt_le s i
      have e7 : (0 : Int) ≤ wrap64 (7 * (i : Int)) := by rw [w64 (by omega) (by omega)]; omega
      have e1 : wrap64 ((i : Int) + 1) = (i : Int) + 1 := w64 (by omega) (by omega)
      have hp := pow128_pos i
      have hg : gvl (decide (i = 0)) (9 - i) ((bytesOf s).drop i) = gvl (decide (i = 0)) (d + 1) (bt s i :: (bytesOf s).drop (i + 1)) := congr (congrArg (gvl (decide (i = 0))) hd) (drop_bt s i (by omega))
      by_cases hlow : bt s i < 128
      · have hm : bt s i % 128 = bt s i := by omega
        refine Ev.step (f := fun k => impl_readVar.j1 k s x i true) (fun k => by simp only [impl_readVar.l0]; rw [if_pos h, decide_eq_true (by omega)]) ?_
        by_cases hz : bt s i = 0 ∧ i > 0
        · have hr : rvv i x ((bytesOf s).drop i) = (0, 0) := by
            unfold rvv
            rw [hg, gvl_low _ _ _ _ hlow, if_pos ⟨hz.1, decide_eq_false (by omega)⟩]
            rfl
          rw [hr]
          refine ev_at (fun k => ?_)
          simp only [impl_readVar.j1]
          rw [if_pos trivial, if_pos (by omega), if_pos h, if_pos e7, if_pos hlow, if_pos hz.1, if_pos (by omega)]
        · have hr : rvv i x ((bytesOf s).drop i) = (x + bt s i * 128 ^ i, (i : Int) + 1) := by
            unfold rvv
            rw [hg, gvl_low _ _ _ _ hlow, if_neg (fun hh => hz ⟨hh.1, by have := of_decide_eq_false hh.2; omega⟩)]
            unfold rvp
            rw [if_neg (show ¬ ((1 : Int) = 0) by decide), Int.mul_comm]
          rw [hr]
          refine ev_at (fun k => ?_)
          simp only [impl_readVar.j1]
          rw [if_pos trivial, if_pos (by omega), if_pos h, if_pos e7, if_pos hlow, var_or (bt s i) x i hb0 hb1 hi8 hx0 hx, hm, e1]
          by_cases hz0 : bt s i = 0
          · rw [if_pos hz0, if_neg (by intro h2; exact hz ⟨hz0, by omega⟩)]
          · rw [if_neg hz0]
      · have hm : bt s i % 128 = bt s i - 128 := by omega
        have hx2 : x + (bt s i - 128) * 128 ^ i < 128 ^ (i + 1) := by
          have : (bt s i - 128) * 128 ^ i ≤ 127 * 128 ^ i := Int.mul_le_mul_of_nonneg_right (by omega) (by omega)
          rw [Int.pow_succ]
          omega
        have hx3 : 0 ≤ (bt s i - 128) * 128 ^ i := Int.mul_nonneg (by omega) (by omega)
        have hn := ih (i + 1) (x + (bt s i - 128) * 128 ^ i) (by omega) (by omega) (by omega) hx2
        have hr : rvv i x ((bytesOf s).drop i) = rvv (i + 1) (x + (bt s i - 128) * 128 ^ i) ((bytesOf s).drop (i + 1)) := by
          unfold rvv
          have hd2 : 9 - (i + 1) = d := by omega
          rw [hg, gvl_high _ _ _ _ hlow, hd2, show decide (i + 1 = 0) = false from decide_eq_false (by omega)]
          have hs := (gvl_snd d false ((bytesOf s).drop (i + 1))).1
          generalize gvl false d ((bytesOf s).drop (i + 1)) = r at hs
          unfold rvp
          by_cases hc : r.2 = 0
          · rw [if_pos hc, if_pos rfl, if_pos hc]
          · rw [if_neg hc, if_neg (show ¬ r.2 + 1 = 0 by omega), if_neg hc]
            refine Prod.ext ?_ ?_
            · show x + 128 ^ i * (bt s i - 128 + 128 * r.1) = x + (bt s i - 128) * 128 ^ i + 128 ^ (i + 1) * r.1
              rw [Int.pow_succ, Int.mul_add, Int.mul_comm (bt s i - 128), Int.mul_assoc, Int.add_assoc]
            · show (i : Int) + (r.2 + 1) = ((i + 1 : Nat) : Int) + r.2
              omega
        rw [hr]
        refine Ev.step (f := fun k => impl_readVar.j1 k s x i true) (fun k => by simp only [impl_readVar.l0]; rw [if_pos h, decide_eq_true (by omega)]) ?_
        refine Ev.step (fun k => ?_) hn
        simp only [impl_readVar.j1]
        rw [if_pos trivial, if_pos (by omega), if_pos h, if_pos e7, if_neg hlow, var_or (bt s i) x i hb0 hb1 hi8 hx0 hx, hm, e1, Int.natCast_succ]
    · have hr : rvv i x ((bytesOf s).drop i) = (0, 0) := by
        unfold rvv
        rw [List.drop_eq_nil_of_le (by rw [bytesOf_length]; omega), hd]
        rfl
      rw [hr]
      have hj : Ev (fun k => impl_readVar.j1 k s x i false) (0, 0) := ev_at (fun k => by simp only [impl_readVar.j1]; rw [if_neg (by decide)])
      refine Ev.step (fun k => ?_) hj
      simp only [impl_readVar.l0]
      rw [if_neg h]
theorem gvl_zero (n : Nat) : ∀ (f : Bool) (l : List Int), (gvl f n l).2 = 0 → gvl f n l = (0, 0) := by
  induction n with
  | zero => intro f l _; rfl
  | succ n ih =>
    intro f l h
    cases l with
    | nil => rfl
    | cons b t =>
      by_cases hb : b < 128
      · rw [gvl_low _ _ _ _ hb] at h ⊢
        split at h
        · rename_i h2; rw [if_pos h2]
        · exact absurd (show (1 : Int) = 0 from h) (by decide)
      · rw [gvl_high _ _ _ _ hb] at h ⊢
        have h3 := (gvl_snd n false t).1
        by_cases hc : (gvl false n t).2 = 0
        · rw [if_pos hc]
        · rw [if_neg hc] at h
          have h4 : (gvl false n t).2 + 1 = 0 := h
          omega
theorem impl_var (s : ByteArray) : Ev (fun k => impl_readVar.f k s) (gv (bytesOf s)) := by
  have h := impl_rv s 9 0 0 rfl (by omega) (by decide) (by decide)
  have e : rvv 0 0 ((bytesOf s).drop 0) = gv (bytesOf s) := by
    show rvp 0 0 (gvl true 9 (bytesOf s)) = gvl true 9 (bytesOf s)
    unfold rvp
    by_cases h0 : (gvl true 9 (bytesOf s)).2 = 0
    · rw [if_pos h0, gvl_zero 9 true _ h0]
    · rw [if_neg h0]
      refine Prod.ext ?_ ?_
      · show 0 + 128 ^ 0 * (gvl true 9 (bytesOf s)).1 = _
        rw [Int.pow_zero]; omega
      · show ((0 : Nat) : Int) + (gvl true 9 (bytesOf s)).2 = _
        omega
  rw [e] at h
  exact h
def sc : Nat → List Int → Nat
  | 0, _ => 0
  | _ + 1, [] => 0
  | n + 1, b :: t => if b < 128 then 0 else sc n t + 1
def hv : List Int → Int
  | [] => 0
  | b :: t => b % 128 + 128 * hv t
def dl : Nat → Int → Nat
  | 0, _ => 1
  | n + 1, x => if x < 128 then 1 else dl n (x / 128) + 1
theorem hv_nn (l : List Int) : 0 ≤ hv l := by
  induction l with
  | nil => exact Int.le_refl 0
  | cons b t ih => simp only [hv]; omega
theorem hv_lt (l : List Int) : hv l < 128 ^ l.length := by
  induction l with
  | nil => decide
  | cons b t ih => simp only [hv, List.length_cons, Int.pow_succ]; omega
theorem dl_low (n : Nat) (x : Int) (h : x < 128) : dl n x = 1 := by cases n with
  | zero => rfl
  | succ n => simp only [dl]; rw [if_pos h]
theorem dl_pos (n : Nat) (x : Int) : 1 ≤ dl n x := by cases n with
  | zero => exact Nat.le_refl 1
  | succ n => simp only [dl]; split <;> omega
/-- The scanned number, or none. -/
def vv (f : Bool) (n : Nat) (l : List Int) : Int × Int :=
  if sc n l < l.length ∧ sc n l < n ∧ dl n (hv (l.take (sc n l + 1))) = sc n l + 1 ∧ (f = false → hv (l.take (sc n l + 1)) ≠ 0) then (hv (l.take (sc n l + 1)), (sc n l : Int) + 1) else (0, 0)
theorem gvl_vv (n : Nat) : ∀ (f : Bool) (l : List Int), (∀ x ∈ l, 0 ≤ x ∧ x < 256) → gvl f n l = vv f n l := by
  induction n with
  | zero => intro f l _; unfold vv; rw [if_neg (by omega)]; rfl
  | succ n ih =>
    intro f l hl
    cases l with
    | nil => unfold vv; rw [if_neg (by simp)]; rfl
    | cons b t =>
      have hb := hl b (by simp)
      by_cases hlow : b < 128
      · have e : sc (n + 1) (b :: t) = 0 := by simp only [sc]; rw [if_pos hlow]
        have e2 : hv ((b :: t).take (0 + 1)) = b := by simp [hv]; omega
        rw [gvl_low _ _ _ _ hlow]
        unfold vv
        rw [e, e2, dl_low _ _ hlow]
        by_cases hz : b = 0 ∧ f = false
        · rw [if_pos hz, if_neg (fun h => h.2.2.2 hz.2 hz.1)]
        · rw [if_neg hz, if_pos ⟨by simp, by omega, rfl, fun h h2 => hz ⟨h2, h⟩⟩]
          rfl
      · have e : sc (n + 1) (b :: t) = sc n t + 1 := by simp only [sc]; rw [if_neg hlow]
        rw [gvl_high _ _ _ _ hlow, ih false t (fun x hx => hl x (by simp [hx]))]
        unfold vv
        rw [e]
        have e2 : hv ((b :: t).take (sc n t + 1 + 1)) = b - 128 + 128 * hv (t.take (sc n t + 1)) := by simp only [List.take_succ_cons, hv]; omega
        rw [e2]
        have hn := hv_nn (t.take (sc n t + 1))
        generalize hv (t.take (sc n t + 1)) = M at hn
        generalize sc n t = c
        have e3 : (b :: t).length = t.length + 1 := rfl
        by_cases hc : c < t.length ∧ c < n ∧ dl n M = c + 1 ∧ (false = false → M ≠ 0)
        · have hM := hc.2.2.2 rfl
          have ed : dl (n + 1) (b - 128 + 128 * M) = c + 1 + 1 := by
            simp only [dl]
            rw [if_neg (by omega), show (b - 128 + 128 * M) / 128 = M by omega, hc.2.2.1]
          rw [if_pos hc, if_neg (show ¬ (c : Int) + 1 = 0 by omega), if_pos ⟨by omega, by omega, ed, fun _ => by omega⟩]
          rfl
        · rw [if_neg hc, if_pos rfl, if_neg]
          rintro ⟨h1, h2, h3, h4⟩
          by_cases hM : M = 0
          · rw [dl_low _ _ (by omega)] at h3
            omega
          · have ed : dl (n + 1) (b - 128 + 128 * M) = dl n M + 1 := by
              simp only [dl]
              rw [if_neg (by omega), show (b - 128 + 128 * M) / 128 = M by omega]
            exact hc ⟨by omega, by omega, by omega, fun _ => hM⟩
theorem putvar (n : Nat) : ∀ (x : Int) (acc : List Int), 0 ≤ x → x < 128 ^ (n + 1) → x < 9223372036854775808 → acc.length + n < 1000 → ∃ r : List Int, r.length = acc.length + dl n x ∧ Ev (fun k => spec_PutVar.l0 k x acc) r := by
  induction n with
  | zero =>
    intro x acc h0 h1 _ ha
    have h1' : x < 128 := by simpa using h1
    exact ⟨acc ++ [x % 256], by simp [dl], ev_at (fun k => by simp only [spec_PutVar.l0]; rw [if_neg (by omega), if_pos (by omega)])⟩
  | succ n ih =>
    intro x acc h0 h1 h9 ha
    by_cases hlow : x < 128
    · exact ⟨acc ++ [x % 256], by rw [dl_low _ _ hlow]; simp, ev_at (fun k => by simp only [spec_PutVar.l0]; rw [if_neg (by omega), if_pos (by omega)])⟩
    · have hx : x / 128 < 128 ^ (n + 1) := by rw [Int.pow_succ] at h1; omega
      obtain ⟨r, hr, he⟩ := ih (x / 128) (acc ++ [(128 + x % 128) % 256]) (by omega) hx (by omega) (by simp; omega)
      refine ⟨r, ?_, Ev.step (fun k => ?_) he⟩
      · simp only [dl]; rw [if_neg hlow, hr]; simp; omega
      · simp only [spec_PutVar.l0]
        rw [if_pos (by omega), if_pos (by omega), Int.tdiv_eq_ediv_of_nonneg h0, Int.tmod_eq_emod_of_nonneg h0, w64 (x := x / 128) (by omega) (by omega), w64 (x := 128 + x % 128) (by omega) (by omega)]
theorem spec_horner (l : List Int) (hl : ∀ x ∈ l, 0 ≤ x ∧ x < 256) (n : Nat) (hn : n < l.length) (h9 : n < 9) (r : Int × Int) (hr : Ev (fun k => spec_GetVar.l1 k l n (hv (l.take (n + 1))) (-1)) r) :
    ∀ i : Nat, i ≤ n + 1 → Ev (fun k => spec_GetVar.l1 k l n (hv ((l.take (n + 1)).drop i)) ((i : Int) - 1)) r := by
  intro i
  induction i with
  | zero => intro _; simpa using hr
  | succ i ih =>
    intro hi
    refine Ev.step (fun k => ?_) (ih (by omega))
    have hil : i < l.length := by omega
    have hlen : (l.take (n + 1)).length = n + 1 := by simp; omega
    have hg : (l.take (n + 1)).drop i = l[i] :: (l.take (n + 1)).drop (i + 1) := by
      rw [List.drop_eq_getElem_cons (by omega)]
      simp
    have hx := hl l[i] (List.getElem_mem hil)
    have hrd : rd l (((i + 1 : Nat) : Int) - 1) = l[i] := by rw [show ((i + 1 : Nat) : Int) - 1 = (i : Int) by omega]; simp [rd, hil]
    have hM0 := hv_nn ((l.take (n + 1)).drop (i + 1))
    have hM1 := hv_lt ((l.take (n + 1)).drop (i + 1))
    have hM2 : (128 : Int) ^ ((l.take (n + 1)).drop (i + 1)).length ≤ 128 ^ 8 := pow128_le (by simp; omega)
    have h8 : (128 : Int) ^ 8 = 72057594037927936 := by decide
    rw [hg]
    generalize (l.take (n + 1)).drop (i + 1) = m at hM0 hM1 hM2
    have eM : hv (l[i] :: m) = hv m * 128 + l[i] % 128 := by simp only [hv]; omega
    have hML : hv m < 72057594037927936 := by omega
    clear hM1 hM2 h8 hr ih
    rw [eM]
    simp only [spec_GetVar.l1]
    rw [if_pos (by omega), if_pos (by omega), if_pos (by omega), hrd, w64 (x := l[i]) (by omega) (by omega), Int.tmod_eq_emod_of_nonneg hx.1, w64 (x := hv m * 128) (by omega) (by omega), w64 (x := hv m * 128 + l[i] % 128) (by omega) (by omega), w64 (x := ((i + 1 : Nat) : Int) - 1 - 1) (by omega) (by omega)]
    rw [show ((i + 1 : Nat) : Int) - 1 - 1 = (i : Int) - 1 by omega]
theorem sc_le (n : Nat) : ∀ l, sc n l ≤ n ∧ sc n l ≤ l.length := by
  induction n with
  | zero => intro l; simp [sc]
  | succ n ih =>
    intro l
    cases l with
    | nil => simp [sc]
    | cons b t =>
      have := ih t
      simp only [sc, List.length_cons]
      split <;> omega
theorem spec_j1 (l : List Int) (hl : ∀ x ∈ l, 0 ≤ x ∧ x < 256) : Ev (fun k => spec_GetVar.j1 k l ((sc 9 l : Nat) : Int)) (vv true 9 l) := by
  have hs := sc_le 9 l
  unfold vv
  generalize sc 9 l = n at hs
  by_cases h1 : n < l.length ∧ n < 9
  · have hhl := hv_lt (l.take (n + 1))
    have hh0 := hv_nn (l.take (n + 1))
    have hp : (128 : Int) ^ (l.take (n + 1)).length ≤ 128 ^ 9 := pow128_le (by simp; omega)
    have h9 : (128 : Int) ^ 9 = 9223372036854775808 := by decide
    have hlt : hv (l.take (n + 1)) < 9223372036854775808 := by omega
    have h10 : hv (l.take (n + 1)) < 128 ^ (9 + 1) := by rw [show (128 : Int) ^ (9 + 1) = 1180591620717411303424 by decide]; omega
    clear hhl hp h9
    obtain ⟨bs, hbl, hbe⟩ := putvar 9 (hv (l.take (n + 1))) [] hh0 h10 hlt (by simp)
    simp only [List.length_nil, Nat.zero_add] at hbl
    have hput : Ev (fun k => spec_PutVar.f k (hv (l.take (n + 1)))) bs := Ev.congr (fun k => by simp only [spec_PutVar.f, Option.bind_some]; rw [if_neg (by omega)]) hbe
    have hgoal : ∀ r : Int × Int, r = (if dl 9 (hv (l.take (n + 1))) = n + 1 then (hv (l.take (n + 1)), (n : Int) + 1) else (0, 0)) → Ev (fun k => spec_GetVar.l1 k l n (hv (l.take (n + 1))) (-1)) r := by
      intro r hr
      refine Ev.step (f := fun k => (spec_PutVar.f k (hv (l.take (n + 1)))).bind fun t => if (t.length : Int) = wrap64 ((n : Int) + 1) then some (hv (l.take (n + 1)), wrap64 ((n : Int) + 1)) else some (0, 0)) (fun k => by simp only [spec_GetVar.l1]; rw [if_neg (by decide)]) (Ev.bind hput (ev_ret (fun k => ?_)))
      rw [w64 (x := (n : Int) + 1) (by omega) (by omega), hbl, hr]
      by_cases hd : dl 9 (hv (l.take (n + 1))) = n + 1
      · rw [if_pos hd, if_pos (by omega)]
      · rw [if_neg hd, if_neg (by omega)]
    have hgo := spec_horner l hl n h1.1 h1.2 _ (hgoal _ rfl) (n + 1) (Nat.le_refl _)
    have e0 : (l.take (n + 1)).drop (n + 1) = [] := List.drop_eq_nil_of_le (by simp; omega)
    rw [e0] at hgo
    have er : (if n < l.length ∧ n < 9 ∧ dl 9 (hv (l.take (n + 1))) = n + 1 ∧ (true = false → hv (l.take (n + 1)) ≠ 0) then (hv (l.take (n + 1)), (n : Int) + 1) else ((0 : Int), (0 : Int))) = (if dl 9 (hv (l.take (n + 1))) = n + 1 then (hv (l.take (n + 1)), (n : Int) + 1) else (0, 0)) := by
      by_cases hd : dl 9 (hv (l.take (n + 1))) = n + 1
      · rw [if_pos hd, if_pos ⟨h1.1, h1.2, hd, fun h => by cases h⟩]
      · rw [if_neg hd, if_neg (fun h => hd h.2.2.1)]
    rw [er]
    have e1 : ((n + 1 : Nat) : Int) - 1 = (n : Int) := by omega
    rw [e1] at hgo
    have hj2 : Ev (fun k => spec_GetVar.j2 k l n false) (if dl 9 (hv (l.take (n + 1))) = n + 1 then (hv (l.take (n + 1)), (n : Int) + 1) else (0, 0)) := Ev.step (fun k => by simp only [spec_GetVar.j2]; rw [if_neg (by decide)]; rfl) hgo
    exact Ev.step (fun k => by simp only [spec_GetVar.j1]; rw [if_neg (by omega), decide_eq_false (by omega)]) hj2
  · rw [if_neg (fun h => h1 ⟨h.1, h.2.1⟩)]
    have hj2 : Ev (fun k => spec_GetVar.j2 k l n true) (0, 0) := ev_at (fun k => by simp only [spec_GetVar.j2]; rw [if_pos trivial])
    refine Ev.step (fun k => ?_) hj2
    simp only [spec_GetVar.j1]
    by_cases h2 : n < l.length
    · rw [if_neg (by omega), decide_eq_true (by omega)]
    · rw [if_pos (by omega)]
theorem spec_scan (l : List Int) (r : Int × Int) (d : Nat) : ∀ i : Nat, 9 - i = d → i ≤ 9 → Ev (fun k => spec_GetVar.j1 k l ((i + sc d (l.drop i) : Nat) : Int)) r → Ev (fun k => spec_GetVar.l0 k l i) r := by
  induction d with
  | zero =>
    intro i hd hi hr
    simp only [sc, Nat.add_zero] at hr
    refine Ev.step (fun k => ?_) hr
    simp only [spec_GetVar.l0]
    by_cases h : (i : Int) < (l.length : Int)
    · rw [if_pos h, if_neg (by omega)]
    · rw [if_neg h]
  | succ d ih =>
    intro i hd hi hr
    by_cases h : (i : Int) < (l.length : Int)
    · have hil : i < l.length := by omega
      have hrd : rd l (i : Int) = l[i] := by simp [rd, hil]
      rw [List.drop_eq_getElem_cons hil] at hr
      by_cases hlow : l[i] < 128
      · simp only [sc] at hr
        rw [if_pos hlow, Nat.add_zero] at hr
        refine Ev.step (fun k => ?_) hr
        simp only [spec_GetVar.l0]
        rw [if_pos h, if_pos (by omega), if_pos (by omega), hrd, if_neg (by omega)]
      · simp only [sc] at hr
        rw [if_neg hlow, show i + (sc d (l.drop (i + 1)) + 1) = i + 1 + sc d (l.drop (i + 1)) by omega] at hr
        refine Ev.step (fun k => ?_) (ih (i + 1) (by omega) (by omega) hr)
        simp only [spec_GetVar.l0]
        rw [if_pos h, if_pos (by omega), if_pos (by omega), hrd, if_pos (by omega), w64 (by omega) (by omega)]
        rfl
    · rw [List.drop_eq_nil_of_le (by omega)] at hr
      simp only [sc, Nat.add_zero] at hr
      refine Ev.step (fun k => ?_) hr
      simp only [spec_GetVar.l0]
      rw [if_neg h]
theorem spec_var (l : List Int) (hl : ∀ x ∈ l, 0 ≤ x ∧ x < 256) : Ev (fun k => spec_GetVar.f k l) (gv l) := by
  unfold gv
  rw [gvl_vv 9 true l hl]
  refine spec_scan l _ 9 0 rfl (by omega) ?_
  simpa using spec_j1 l hl
theorem gv_nn (l : List Int) (hl : ∀ x ∈ l, 0 ≤ x ∧ x < 256) : 0 ≤ (gv l).1 := by
  unfold gv
  rw [gvl_vv 9 true l hl]
  unfold vv
  split
  · exact hv_nn _
  · exact Int.le_refl 0
theorem spec_word (s : ByteArray) (h : 4 ≤ s.size) : spec_GetWord.f (bytesOf (s.extract 0 4)) = some (WD s, true) := by
  have hl : ((bytesOf (s.extract 0 4)).length : Int) = 4 := by rw [bytesOf_length]; simp; omega
  have a0 := bt_nn s 0; have b0 := bt_nn s 1; have c0 := bt_nn s 2; have d0 := bt_nn s 3
  have a1 := bt_le s 0; have b1 := bt_le s 1; have c1 := bt_le s 2; have d1 := bt_le s 3
  unfold spec_GetWord.f
  rw [if_pos hl, if_pos (by omega), if_pos (by omega), if_pos (by omega), if_pos (by omega)]
  rw [rd_bytesOf, rd_bytesOf, rd_bytesOf, rd_bytesOf]
  rw [show (0 : Int) = ((0 : Nat) : Int) from rfl, show (1 : Int) = ((1 : Nat) : Int) from rfl, show (2 : Int) = ((2 : Nat) : Int) from rfl, show (3 : Int) = ((3 : Nat) : Int) from rfl, bt_extract s 4 h 0 (by decide), bt_extract s 4 h 1 (by decide), bt_extract s 4 h 2 (by decide), bt_extract s 4 h 3 (by decide)]
  simp only [Int.cast_ofNat_Int] at *
  rw [w64 (x := bt s 0) (by omega) (by omega), w64 (x := bt s 1) (by omega) (by omega), w64 (x := bt s 2) (by omega) (by omega), w64 (x := bt s 3) (by omega) (by omega)]
  rw [w64 (x := 256 * bt s 1) (by omega) (by omega), w64 (x := 65536 * bt s 2) (by omega) (by omega), w64 (x := 16777216 * bt s 3) (by omega) (by omega)]
  rw [w64 (x := bt s 0 + 256 * bt s 1) (by omega) (by omega), w64 (x := bt s 0 + 256 * bt s 1 + 65536 * bt s 2) (by omega) (by omega), w64 (x := bt s 0 + 256 * bt s 1 + 65536 * bt s 2 + 16777216 * bt s 3) (by omega) (by omega)]
  have : (bt s 0 + 256 * bt s 1 + 65536 * bt s 2 + 16777216 * bt s 3) % 4294967296 = WD s := by unfold WD; omega
  rw [this]
theorem impl_word (s : ByteArray) (h : 4 ≤ s.size) : impl_readWord.f s = some (WD s) := by
  unfold impl_readWord.f
  rw [if_pos (by omega), if_pos (by omega), if_pos (by omega), if_pos (by omega)]
  rw [word_or _ _ _ _ (bt_nn s 0) (bt_le s 0) (bt_nn s 1) (bt_le s 1) (bt_nn s 2) (bt_le s 2) (bt_nn s 3) (bt_le s 3)]
  rfl
theorem bytesOf_byte (s : ByteArray) : ∀ x ∈ bytesOf s, 0 ≤ x ∧ x < 256 := by
  intro x hx
  simp only [bytesOf, List.mem_map] at hx
  obtain ⟨b, _, rfl⟩ := hx
  have := b.toNat_lt
  omega
theorem gv_bound (s : ByteArray) : 0 ≤ (gv (bytesOf s)).2 ∧ (gv (bytesOf s)).2 ≤ s.size := by
  have h := gvl_snd 9 true (bytesOf s)
  rw [bytesOf_length] at h
  exact ⟨h.1, h.2.2⟩
theorem bytesOf_sub (s : ByteArray) (a b : Nat) : bytesOf (s.extract a b) = ((bytesOf s).drop a).take (b - a) := by
  simp only [bytesOf, ByteArray.data_extract, Array.toList_extract, List.extract_eq_take_drop, List.map_take, List.map_drop]
theorem bytesOf_drop (s : ByteArray) (n : Nat) : (bytesOf s).drop n = bytesOf (s.extract n s.size) := by
  rw [bytesOf_sub, List.take_of_length_le (by rw [List.length_drop, bytesOf_length]; exact Nat.le_refl _)]
theorem bytesOf_take (s : ByteArray) (n : Nat) : (bytesOf s).take n = bytesOf (s.extract 0 n) := by
  rw [bytesOf_sub, List.drop_zero, Nat.sub_zero]
theorem take_ok (s : ByteArray) (n : Int) (h0 : 0 ≤ n) (h1 : n ≤ s.size) : impl_reader_take.f s false n = some (s.extract 0 n.toNat, s.extract n.toNat s.size, false) := by
  unfold impl_reader_take.f
  rw [if_neg (by decide), if_neg (by omega), if_pos h0, if_pos h1]
theorem take_short (s : ByteArray) (n : Int) (h1 : n > s.size) : impl_reader_take.f s false n = some (⟨#[]⟩, s, true) := by
  unfold impl_reader_take.f
  rw [if_neg (by decide), if_pos h1]
theorem take_bad (s : ByteArray) (n : Int) : impl_reader_take.f s true n = some (⟨#[]⟩, s, true) := by
  unfold impl_reader_take.f
  rw [if_pos rfl]
theorem number_bad (s : ByteArray) : ∃ x s', Ev (fun k => impl_reader_number.f k s true) (x, s', true) := by
  refine ⟨(gv (bytesOf s)).1, s, ?_⟩
  unfold impl_reader_number.f
  refine Ev.bind (impl_var s) (ev_ret (fun k => ?_))
  simp only [take_bad, Option.bind_some]
  split <;> rfl
theorem number_none (s : ByteArray) (h : (gv (bytesOf s)).2 = 0) : ∃ x s', Ev (fun k => impl_reader_number.f k s false) (x, s', true) := by
  refine ⟨(gv (bytesOf s)).1, s, ?_⟩
  unfold impl_reader_number.f
  refine Ev.bind (impl_var s) (ev_ret (fun k => ?_))
  rw [if_pos h]
  simp only [take_bad, Option.bind_some]
theorem number_some (s : ByteArray) (h : (gv (bytesOf s)).2 ≠ 0) : Ev (fun k => impl_reader_number.f k s false) ((gv (bytesOf s)).1, s.extract (gv (bytesOf s)).2.toNat s.size, false) := by
  have hb := gv_bound s
  unfold impl_reader_number.f
  refine Ev.bind (impl_var s) (ev_ret (fun k => ?_))
  rw [if_neg h, take_ok _ _ hb.1 hb.2]
  rfl
abbrev Sig5 := Int × Int × List Int × List ByteArray × Bool
def sig0 : Sig5 := (0, 0, [], [], false)
/-- A right signature. -/
def slen (a b : Int) (n : Int) : Int := if 0 < b ∧ 0 < n then a * n - a + b else a * n
def sok (a b : Int) (ws : List Int) (ss : List ByteArray) : Bool :=
  decide (1 ≤ a ∧ a ≤ 256 ∧ 0 ≤ b ∧ b ≤ a - 1 ∧ ws.length ≤ 2500 ∧ ws.length = ss.length ∧ (b = 0 ∨ 0 < ws.length) ∧ (∀ x ∈ ss, x.size = 4) ∧ slen a b ws.length ≤ 20000)
theorem spec_len (a b : Int) (ws : List Int) (ss : List ByteArray) (h1 : 1 ≤ a) (h2 : a ≤ 256) (h3 : 0 ≤ b) (h4 : b ≤ a - 1) (h5 : ws.length ≤ 2500) : Ev (fun k => spec_SigLen.f k a b ws ss) (slen a b ws.length) := by
  have hp0 : 0 ≤ a * (ws.length : Int) := Int.mul_nonneg (by omega) (by omega)
  have hp1 : a * (ws.length : Int) ≤ 256 * 2500 := Int.mul_le_mul h2 (by omega) (by omega) (by omega)
  have hpn : (0 < (ws.length : Int)) ↔ 0 < a * (ws.length : Int) := by
    constructor
    · intro h; exact Int.mul_pos (by omega) h
    · intro h
      by_cases hz : (ws.length : Int) = 0
      · rw [hz, Int.mul_zero] at h; exact absurd h (by decide)
      · omega
  have e1 : spec_l01In.f a 1 256 = some true := by unfold spec_l01In.f; rw [if_pos (by omega), decide_eq_true (by omega)]
  have e2 : spec_l01In.f b 0 (wrap64 (a - 1)) = some true := by unfold spec_l01In.f; rw [w64 (by omega) (by omega), if_pos (by omega), decide_eq_true (by omega)]
  have h : Ev (fun k => spec_SigLen.j0 k false a b ws ss) (slen a b ws.length) := by
    refine ev_at (fun k => ?_)
    simp only [spec_SigLen.j0]
    unfold slen
    rw [if_neg (by decide)]
    generalize a * (ws.length : Int) = p at hp0 hp1 hpn
    rw [w64 (x := p) (by omega) (by omega), w64 (x := p - a) (by omega) (by omega), w64 (x := p - a + b) (by omega) (by omega)]
    by_cases hb : 0 < b
    · by_cases hp : 0 < p
      · rw [if_pos hb, if_pos hp, if_pos ⟨hb, hpn.2 hp⟩]
      · rw [if_pos hb, if_neg hp, if_neg (fun h => hp (hpn.1 h.2))]
    · rw [if_neg hb, if_neg (fun h => hb h.1)]
  refine Ev.congr (fun k => ?_) h
  simp only [spec_SigLen.f]
  rw [e1, e2]
  simp only [Option.bind_some]
  rw [if_pos trivial, if_pos trivial, decide_eq_false (by omega)]
theorem impl_cut (a b : Int) (ws : List Int) (ss : List ByteArray) (h0 : 0 ≤ a) (h1 : a ≤ 9223372036854775807) : impl_Sig_isCut.f a b ws ss = some (decide (1 ≤ a ∧ a ≤ 256 ∧ 0 ≤ b ∧ b ≤ a - 1 ∧ ws.length ≤ 2500)) := by
  unfold impl_Sig_isCut.f impl_within.f
  by_cases c1 : 1 ≤ a
  · rw [if_pos c1]
    simp only [Option.bind_some]
    by_cases c2 : a ≤ 256
    · rw [if_pos (decide_eq_true c2), w64 (by omega) (by omega)]
      by_cases c3 : 0 ≤ b
      · rw [if_pos c3]
        simp only [Option.bind_some]
        by_cases c4 : b ≤ a - 1
        · rw [if_pos (decide_eq_true c4)]
          by_cases c5 : ws.length ≤ 2500
          · rw [decide_eq_true (by omega), decide_eq_true ⟨c1, c2, c3, c4, c5⟩]
          · rw [decide_eq_false (by omega), decide_eq_false (fun h => c5 h.2.2.2.2)]
        · rw [if_neg (by rw [decide_eq_false c4]; decide), decide_eq_false (fun h => c4 h.2.2.2.1)]
      · rw [if_neg c3]
        simp only [Option.bind_some]
        rw [if_neg (by decide), decide_eq_false (fun h => c3 h.2.2.1)]
    · rw [if_neg (by rw [decide_eq_false c2]; decide), decide_eq_false (fun h => c2 h.2.1)]
  · rw [if_neg c1]
    simp only [Option.bind_some]
    rw [if_neg (by decide), decide_eq_false (fun h => c1 h.1)]
theorem impl_len (a b : Int) (ws : List Int) (ss : List ByteArray) (h1 : 1 ≤ a) (h2 : a ≤ 256) (h3 : 0 ≤ b) (h4 : b ≤ a - 1) (h5 : ws.length ≤ 2500) : Ev (fun k => impl_SigLen.f k a b ws ss) (slen a b ws.length) := by
  have hp0 : 0 ≤ a * (ws.length : Int) := Int.mul_nonneg (by omega) (by omega)
  have hp1 : a * (ws.length : Int) ≤ 256 * 2500 := Int.mul_le_mul h2 (by omega) (by omega) (by omega)
  have h : Ev (fun k => impl_SigLen.j0 k ((ws.length : Int) == 0) a b ws ss) (slen a b ws.length) := by
    refine ev_at (fun k => ?_)
    simp only [impl_SigLen.j0]
    unfold slen
    by_cases hz : (ws.length : Int) = 0
    · rw [if_pos (by rw [hz]; rfl), hz, Int.mul_zero, if_neg (fun h => absurd h.2 (by decide))]
    · rw [if_neg (by simpa using hz)]
      generalize a * (ws.length : Int) = p at hp0 hp1
      rw [w64 (x := p) (by omega) (by omega), w64 (x := b - a) (by omega) (by omega), w64 (x := p + (b - a)) (by omega) (by omega)]
      by_cases hb : 0 < b
      · rw [if_pos hb, if_pos ⟨hb, by omega⟩]
        congr 1
        omega
      · rw [if_neg hb, if_neg (fun h => hb h.1)]
  refine Ev.congr (fun k => ?_) h
  simp only [impl_SigLen.f]
  rw [impl_cut a b ws ss (by omega) (by omega), decide_eq_true ⟨h1, h2, h3, h4, h5⟩]
  simp only [Option.bind_some]
  rw [if_pos trivial]
theorem impl_any (ss : List ByteArray) : ∀ i : Int, 0 ≤ i → ∃ r : Int, slices_IndexFunc_string_string.go ss i = some r ∧ (0 ≤ r ↔ ¬ ∀ x ∈ ss, x.size = 4) := by
  induction ss with
  | nil => intro i hi; exact ⟨-1, rfl, by simp⟩
  | cons x t ih =>
    intro i hi
    by_cases hx : x.size = 4
    · obtain ⟨r, hr, hr2⟩ := ih (i + 1) (by omega)
      refine ⟨r, ?_, ?_⟩
      · simp only [slices_IndexFunc_string_string.go, impl_SigOk_1.f, Option.bind_some]
        rw [if_neg (by simp [hx]), hr]
      · rw [hr2]; simp [hx]
    · refine ⟨i, ?_, ?_⟩
      · simp only [slices_IndexFunc_string_string.go, impl_SigOk_1.f, Option.bind_some]
        rw [if_pos (by simp; omega)]
      · simp [hx, hi]
theorem impl_contains (ss : List ByteArray) : slices_ContainsFunc_string_string.f ss () = some (decide (¬ ∀ x ∈ ss, x.size = 4)) := by
  obtain ⟨r, hr, hr2⟩ := impl_any ss 0 (by decide)
  unfold slices_ContainsFunc_string_string.f slices_IndexFunc_string_string.f
  rw [hr]
  simp only [Option.bind_some]
  by_cases h : 0 ≤ r
  · rw [decide_eq_true h, decide_eq_true (hr2.1 h)]
  · rw [decide_eq_false h, decide_eq_false (fun h' => h (hr2.2 h'))]
theorem impl_ok (a b : Int) (ws : List Int) (ss : List ByteArray) (ha0 : 0 ≤ a) (ha1 : a ≤ 9223372036854775807) : Ev (fun k => impl_SigOk.f k a b ws ss) (sok a b ws ss) := by
  unfold sok
  simp only [impl_SigOk.f, impl_contains]
  rw [impl_cut a b ws ss ha0 ha1]
  simp only [Option.bind_some]
  by_cases hc : 1 ≤ a ∧ a ≤ 256 ∧ 0 ≤ b ∧ b ≤ a - 1 ∧ ws.length ≤ 2500
  · obtain ⟨h1, h2, h3, h4, h5⟩ := hc
    refine Ev.congr (fun k => by rw [if_pos (decide_eq_true ⟨h1, h2, h3, h4, h5⟩)]) ?_
    by_cases h6 : ws.length = ss.length
    · refine Ev.congr (fun k => by rw [if_pos (by omega)]) ?_
      by_cases h8 : ∀ x ∈ ss, x.size = 4
      · have hb : Ev (fun k => (impl_SigLen.f k a b ws ss).bind fun t => some (decide (t ≤ 20000))) (decide (slen a b ws.length ≤ 20000)) := Ev.bind (impl_len a b ws ss h1 h2 h3 h4 h5) (ev_ret (fun k => rfl))
        by_cases h7 : b = 0
        · refine Ev.congr (fun k => by rw [if_pos h7, if_neg (by simpa using h8)]) ?_
          refine cast (by rw [show decide (slen a b ws.length ≤ 20000) = decide (1 ≤ a ∧ a ≤ 256 ∧ 0 ≤ b ∧ b ≤ a - 1 ∧ ws.length ≤ 2500 ∧ ws.length = ss.length ∧ (b = 0 ∨ 0 < ws.length) ∧ (∀ x ∈ ss, x.size = 4) ∧ slen a b ws.length ≤ 20000) from decide_eq_decide.2 ⟨fun h => ⟨h1, h2, h3, h4, h5, h6, .inl h7, h8, h⟩, fun h => h.2.2.2.2.2.2.2.2⟩]) hb
        · by_cases h9 : 0 < ws.length
          · refine Ev.congr (fun k => by rw [if_neg h7, if_pos (by omega), if_neg (by simpa using h8)]) ?_
            refine cast (by rw [show decide (slen a b ws.length ≤ 20000) = decide (1 ≤ a ∧ a ≤ 256 ∧ 0 ≤ b ∧ b ≤ a - 1 ∧ ws.length ≤ 2500 ∧ ws.length = ss.length ∧ (b = 0 ∨ 0 < ws.length) ∧ (∀ x ∈ ss, x.size = 4) ∧ slen a b ws.length ≤ 20000) from decide_eq_decide.2 ⟨fun h => ⟨h1, h2, h3, h4, h5, h6, .inr h9, h8, h⟩, fun h => h.2.2.2.2.2.2.2.2⟩]) hb
          · refine ev_ret (fun k => ?_)
            rw [if_neg h7, if_neg (by omega), decide_eq_false]
            rintro ⟨_, _, _, _, _, _, h, _⟩
            rcases h with h | h
            · exact h7 h
            · exact h9 h
      · refine ev_ret (fun k => ?_)
        rw [decide_eq_true h8, if_pos rfl, decide_eq_false (fun h => h8 h.2.2.2.2.2.2.2.1)]
        split
        · rfl
        · split <;> rfl
    · refine ev_ret (fun k => ?_)
      rw [if_neg (by omega), decide_eq_false (fun h => h6 h.2.2.2.2.2.1)]
  · refine ev_ret (fun k => ?_)
    rw [if_neg (by rw [decide_eq_false hc]; decide), decide_eq_false (fun h => hc ⟨h.1, h.2.1, h.2.2.1, h.2.2.2.1, h.2.2.2.2.1⟩)]
theorem rdS_mid (ss : List ByteArray) (i : Nat) (h : i < ss.length) : rdOf ByteArray.empty ss (i : Int) = ss[i] := by simp [rdOf, h]
theorem spec_ok_l (a b : Int) (ws : List Int) (ss : List ByteArray) (hs : ss.length ≤ 4611686018427387904) (r : Bool) (d : Nat) : ∀ i : Nat, ss.length - i = d → i ≤ ss.length →
    (r = false ∨ ∀ x ∈ ss.drop i, x.size = 4) → ((∃ x ∈ ss.drop i, x.size ≠ 4) ∨ ∀ j : Int, j = ss.length → Ev (fun k => spec_SigOk.l0 k j a b ws ss) r) → Ev (fun k => spec_SigOk.l0 k i a b ws ss) r := by
  induction d with
  | zero =>
    intro i hd hi hr h
    obtain rfl : i = ss.length := by omega
    rcases h with ⟨x, hx, _⟩ | h
    · simp at hx
    · exact h _ rfl
  | succ d ih =>
    intro i hd hi hr h
    have hil : i < ss.length := by omega
    rw [List.drop_eq_getElem_cons hil] at hr h
    by_cases h4 : ss[i].size = 4
    · refine Ev.step (fun k => ?_) (ih (i + 1) (by clear h hr; omega) (by clear h hr; omega) ?_ ?_)
      · clear h hr
        simp only [spec_SigOk.l0]
        rw [if_pos (by omega), if_pos (by omega), rdS_mid ss i hil, if_pos (by omega), w64 (by omega) (by omega)]
        rfl
      · rcases hr with hr | hr
        · exact .inl hr
        · exact .inr (fun x hx => hr x (List.mem_cons_of_mem _ hx))
      · rcases h with ⟨x, hx, hx4⟩ | h
        · rcases List.mem_cons.1 hx with rfl | hx
          · exact absurd h4 hx4
          · exact .inl ⟨x, hx, hx4⟩
        · exact .inr h
    · obtain rfl : r = false := by
        rcases hr with hr | hr
        · exact hr
        · exact absurd (hr _ List.mem_cons_self) h4
      refine ev_at (fun k => ?_)
      simp only [spec_SigOk.l0]
      rw [if_pos (by omega), if_pos (by omega), rdS_mid ss i hil, if_neg (by omega)]
theorem spec_ok (a b : Int) (ws : List Int) (ss : List ByteArray) (ha0 : 0 ≤ a) (ha1 : a ≤ 9223372036854775807) (hs : ss.length ≤ 4611686018427387904) : Ev (fun k => spec_SigOk.f k a b ws ss) (sok a b ws ss) := by
  have hbad : Ev (fun k => spec_SigOk.j0 k true a b ws ss) false := ev_at (fun k => by simp only [spec_SigOk.j0]; rw [if_pos trivial])
  unfold spec_SigOk.f spec_l01In.f
  by_cases h1 : 1 ≤ a
  · by_cases h2 : a ≤ 256
    · by_cases h3 : 0 ≤ b
      · by_cases h4 : b ≤ a - 1
        · by_cases h5 : ws.length ≤ 2500
          · refine Ev.congr (fun k => by rw [w64 (by omega) (by omega), if_pos (by omega), decide_eq_true h2, Option.bind_some, if_pos rfl, if_pos (by omega), decide_eq_true h4, Option.bind_some, if_pos rfl, if_neg (by omega)]) ?_
            by_cases h6 : ws.length = ss.length
            · refine Ev.congr (fun k => by rw [show ((ws.length : Int) != (ss.length : Int)) = false by simp [h6]]) ?_
              refine Ev.step (f := fun k => spec_SigOk.l0 k ((0 : Nat) : Int) a b ws ss) (fun k => by simp only [spec_SigOk.j0]; rw [if_neg (by decide)]; rfl) ?_
              refine spec_ok_l a b ws ss hs _ ss.length 0 (by omega) (by omega) ?_ ?_
              · by_cases h8 : ∀ x ∈ ss, x.size = 4
                · exact .inr (by simpa using h8)
                · exact .inl (by unfold sok; rw [decide_eq_false (fun h => h8 h.2.2.2.2.2.2.2.1)])
              · by_cases h8 : ∀ x ∈ ss, x.size = 4
                · refine .inr (fun j hj => ?_)
                  have hb : Ev (fun k => (spec_SigLen.f k a b ws ss).bind fun t => some (decide (t ≤ 20000))) (decide (slen a b ws.length ≤ 20000)) := Ev.bind (spec_len a b ws ss h1 h2 h3 h4 h5) (ev_ret (fun k => rfl))
                  by_cases h7 : b = 0
                  · refine Ev.step (fun k => by simp only [spec_SigOk.l0]; rw [if_neg (by omega), if_pos h7]) (cast ?_ hb)
                    unfold sok
                    rw [show decide (slen a b ws.length ≤ 20000) = decide (1 ≤ a ∧ a ≤ 256 ∧ 0 ≤ b ∧ b ≤ a - 1 ∧ ws.length ≤ 2500 ∧ ws.length = ss.length ∧ (b = 0 ∨ 0 < ws.length) ∧ (∀ x ∈ ss, x.size = 4) ∧ slen a b ws.length ≤ 20000) from decide_eq_decide.2 ⟨fun h => ⟨h1, h2, h3, h4, h5, h6, .inl h7, h8, h⟩, fun h => h.2.2.2.2.2.2.2.2⟩]
                  · by_cases h9 : 0 < ws.length
                    · refine Ev.step (fun k => by simp only [spec_SigOk.l0]; rw [if_neg (by omega), if_neg h7, if_pos (by omega)]) (cast ?_ hb)
                      unfold sok
                      rw [show decide (slen a b ws.length ≤ 20000) = decide (1 ≤ a ∧ a ≤ 256 ∧ 0 ≤ b ∧ b ≤ a - 1 ∧ ws.length ≤ 2500 ∧ ws.length = ss.length ∧ (b = 0 ∨ 0 < ws.length) ∧ (∀ x ∈ ss, x.size = 4) ∧ slen a b ws.length ≤ 20000) from decide_eq_decide.2 ⟨fun h => ⟨h1, h2, h3, h4, h5, h6, .inr h9, h8, h⟩, fun h => h.2.2.2.2.2.2.2.2⟩]
                    · refine ev_at (fun k => ?_)
                      simp only [spec_SigOk.l0]
                      rw [if_neg (by omega), if_neg h7, if_neg (by omega)]
                      unfold sok
                      rw [decide_eq_false]
                      rintro ⟨_, _, _, _, _, _, h, _⟩
                      rcases h with h | h
                      · exact h7 h
                      · exact h9 h
                · refine .inl ?_
                  simp only [List.drop_zero]
                  exact Classical.byContradiction (fun hn => h8 (fun x hx => Classical.byContradiction (fun hn2 => hn ⟨x, hx, hn2⟩)))
            · rw [show sok a b ws ss = false from decide_eq_false (fun h => h6 h.2.2.2.2.2.1)]
              exact Ev.congr (fun k => by rw [show ((ws.length : Int) != (ss.length : Int)) = true by simp; omega]) hbad
          · rw [show sok a b ws ss = false from decide_eq_false (fun h => h5 h.2.2.2.2.1)]
            exact Ev.congr (fun k => by rw [w64 (by omega) (by omega), if_pos (by omega), decide_eq_true h2, Option.bind_some, if_pos rfl, if_pos (by omega), decide_eq_true h4, Option.bind_some, if_pos rfl, if_pos (by omega)]) hbad
        · rw [show sok a b ws ss = false from decide_eq_false (fun h => h4 h.2.2.2.1)]
          exact Ev.congr (fun k => by rw [w64 (by omega) (by omega), if_pos (by omega), decide_eq_true h2, Option.bind_some, if_pos rfl, if_pos (by omega), decide_eq_false h4, Option.bind_some, if_neg (by decide)]) hbad
      · rw [show sok a b ws ss = false from decide_eq_false (fun h => h3 h.2.2.1)]
        exact Ev.congr (fun k => by rw [if_pos (by omega), decide_eq_true h2, Option.bind_some, if_pos rfl, if_neg (by omega), Option.bind_some, if_neg (by decide)]) hbad
    · rw [show sok a b ws ss = false from decide_eq_false (fun h => h2 h.2.1)]
      exact Ev.congr (fun k => by rw [if_pos (by omega), decide_eq_false h2, Option.bind_some, if_neg (by decide)]) hbad
  · rw [show sok a b ws ss = false from decide_eq_false (fun h => h1 h.1)]
    exact Ev.congr (fun k => by rw [if_neg (by omega), Option.bind_some, if_neg (by decide)]) hbad
def sgv (a b : Int) (n : Int) : Nat → ByteArray → List Int → List ByteArray → Sig5
  | 0, s, ws, ss => if s.size = 0 ∧ sok a b ws ss = true ∧ (ws.length : Int) = n then (a, b, ws, ss, true) else sig0
  | r + 1, s, ws, ss => if s.size < 8 then sig0 else sgv a b n r (s.extract 8 s.size) (ws ++ [WD s]) (ss ++ [s.extract 4 8])
theorem sgv_len (a b n : Int) (r : Nat) : ∀ (s : ByteArray) (ws : List Int) (ss : List ByteArray), s.size ≠ 8 * r → sgv a b n r s ws ss = sig0 := by
  induction r with
  | zero => intro s ws ss h; simp only [sgv]; rw [if_neg (fun h2 => h (by omega))]
  | succ r ih =>
    intro s ws ss h
    simp only [sgv]
    split
    · rfl
    · exact ih _ _ _ (by simp; omega)
theorem sgv_big (a b n : Int) (r : Nat) : ∀ (s : ByteArray) (ws : List Int) (ss : List ByteArray), 2500 < ws.length + r → sgv a b n r s ws ss = sig0 := by
  induction r with
  | zero =>
    intro s ws ss h
    simp only [sgv]
    rw [if_neg]
    rintro ⟨_, h2, _⟩
    have h3 := (of_decide_eq_true h2).2.2.2.2.1
    omega
  | succ r ih =>
    intro s ws ss h
    simp only [sgv]
    split
    · rfl
    · exact ih _ _ _ (by simp; omega)
theorem sgv_lens (a b n : Int) (r : Nat) : ∀ (s : ByteArray) (ws : List Int) (ss : List ByteArray), (sgv a b n r s ws ss).2.2.1.length ≤ 2500 ∧ (sgv a b n r s ws ss).2.2.2.1.length ≤ 2500 := by
  induction r with
  | zero =>
    intro s ws ss
    simp only [sgv]
    split
    · rename_i h
      have h3 := of_decide_eq_true h.2.1
      exact ⟨h3.2.2.2.2.1, by show ss.length ≤ 2500; omega⟩
    · exact ⟨Nat.zero_le _, Nat.zero_le _⟩
  | succ r ih =>
    intro s ws ss
    simp only [sgv]
    split
    · exact ⟨Nat.zero_le _, Nat.zero_le _⟩
    · exact ih _ _ _
theorem ext_sub (s : ByteArray) (a b c d : Nat) (hd : a + d ≤ b) : (s.extract a b).extract c d = s.extract (a + c) (a + d) := by
  apply bytesOf_inj
  rw [bytesOf_sub, bytesOf_sub, bytesOf_sub, List.drop_take, List.drop_drop, List.take_take]
  congr 1
  omega
theorem impl_wordN (s : ByteArray) (h : 8 ≤ s.size) : impl_reader_word.f s false = some (WD s, s.extract 4 s.size, false) := by
  unfold impl_reader_word.f
  rw [take_ok s 4 (by decide) (by omega)]
  simp only [Option.bind_some]
  rw [if_neg (by decide)]
  have hw := impl_word (s.extract 0 4) (by simp; omega)
  have e : WD (s.extract 0 4) = WD s := by
    unfold WD
    rw [show (0 : Int) = ((0 : Nat) : Int) from rfl, show (1 : Int) = ((1 : Nat) : Int) from rfl, show (2 : Int) = ((2 : Nat) : Int) from rfl, show (3 : Int) = ((3 : Nat) : Int) from rfl, bt_extract s 4 (by omega) 0 (by decide), bt_extract s 4 (by omega) 1 (by decide), bt_extract s 4 (by omega) 2 (by decide), bt_extract s 4 (by omega) 3 (by decide)]
  rw [show (4 : Int).toNat = 4 from rfl, hw, e]
  rfl
theorem impl_blocks_bad (n i a b : Int) (s : ByteArray) (ws : List Int) (ss : List ByteArray) : Ev (fun k => impl_readSig.l0 k n i s true a b ws ss) sig0 := by
  have hj : Ev (fun k => impl_readSig.j1 k n i false s true a b ws ss) sig0 := ev_at (fun k => by simp only [impl_readSig.j1]; rw [if_neg (by decide), if_pos trivial]; rfl)
  refine Ev.step (fun k => ?_) hj
  simp only [impl_readSig.l0]
  split
  · split <;> rfl
  · rfl
theorem impl_blocks (n a b : Int) (hn : 0 ≤ n) (ha0 : 0 ≤ a) (ha1 : a ≤ 9223372036854775807) (r : Nat) : ∀ (i : Int) (s : ByteArray) (ws : List Int) (ss : List ByteArray), 0 ≤ i → i ≤ 2501 → (r : Int) = min n 2501 - i → ws.length + r ≤ 2501 → ss.length + r ≤ 2501 →
    Ev (fun k => impl_readSig.l0 k n i s false a b ws ss) (sgv a b n r s ws ss) := by
  induction r with
  | zero =>
    intro i s ws ss hi0 hi1 hr hw hs
    have hj : Ev (fun k => impl_readSig.j1 k n i false s false a b ws ss) (sgv a b n 0 s ws ss) := by
      simp only [sgv]
      by_cases h0 : s.size = 0
      · refine Ev.step (f := fun k => (impl_SigOk.f k a b ws ss).bind fun t221 => (if t221 = true then (if (ws.length : Int) = n then (some (a, b, ws, ss, true)) else (some sig0)) else (some sig0))) (fun k => ?_) (Ev.bind (impl_ok a b ws ss ha0 ha1) (ev_ret (fun k => ?_)))
        · simp only [impl_readSig.j1]
          rw [if_neg (by decide), if_neg (by decide), if_pos ((emp_iff s).2 h0)]
          rfl
        · by_cases h1 : sok a b ws ss = true
          · rw [if_pos h1]
            by_cases h2 : (ws.length : Int) = n
            · rw [if_pos h2, if_pos ⟨h0, h1, h2⟩]
            · rw [if_neg h2, if_neg (fun h => h2 h.2.2)]
          · rw [if_neg h1, if_neg (fun h => h1 h.2.1)]
      · rw [if_neg (fun h => h0 h.1)]
        refine ev_at (fun k => ?_)
        simp only [impl_readSig.j1]
        rw [if_neg (by decide), if_neg (by decide), if_neg (fun h => h0 ((emp_iff s).1 h))]
        rfl
    refine Ev.step (fun k => ?_) hj
    simp only [impl_readSig.l0]
    by_cases h1 : i < n
    · rw [if_pos h1, if_neg (by omega)]
    · rw [if_neg h1]
  | succ r ih =>
    intro i s ws ss hi0 hi1 hr hw hs
    have e1 : wrap64 (i + 1) = i + 1 := w64 (by omega) (by omega)
    refine Ev.step (f := fun k => impl_readSig.j1 k n i true s false a b ws ss) (fun k => ?_) ?_
    · simp only [impl_readSig.l0]
      rw [if_pos (by omega), if_pos (by omega)]
      rfl
    by_cases h8 : s.size < 8
    · rw [show sgv a b n (r + 1) s ws ss = sig0 by simp only [sgv]; rw [if_pos h8]]
      by_cases h4 : s.size < 4
      · have hw4 : impl_reader_word.f s false = some (0, s, true) := by
          unfold impl_reader_word.f
          rw [take_short s 4 (by omega)]
          rfl
        refine Ev.step (fun k => ?_) (impl_blocks_bad n (i + 1) a b s (ws ++ [0]) (ss ++ [⟨#[]⟩]))
        simp only [impl_readSig.j1]
        rw [if_pos trivial, hw4]
        simp only [Option.bind_some, take_bad]
        rw [if_pos (by omega), if_pos (by omega), e1]
      · have hw4 : ∃ v, impl_reader_word.f s false = some (v, s.extract 4 s.size, false) := by
          refine ⟨WD (s.extract 0 4), ?_⟩
          unfold impl_reader_word.f
          rw [take_ok s 4 (by decide) (by omega)]
          simp only [Option.bind_some]
          rw [if_neg (by decide), show (4 : Int).toNat = 4 from rfl, impl_word (s.extract 0 4) (by simp; omega)]
          rfl
        obtain ⟨v, hv⟩ := hw4
        have ht := take_short (s.extract 4 s.size) 4 (by simp; omega)
        refine Ev.step (fun k => ?_) (impl_blocks_bad n (i + 1) a b (s.extract 4 s.size) (ws ++ [v]) (ss ++ [⟨#[]⟩]))
        simp only [impl_readSig.j1]
        rw [if_pos trivial, hv]
        simp only [Option.bind_some, ht]
        rw [if_pos (by omega), if_pos (by omega), e1]
    · rw [show sgv a b n (r + 1) s ws ss = sgv a b n r (s.extract 8 s.size) (ws ++ [WD s]) (ss ++ [s.extract 4 8]) by simp only [sgv]; rw [if_neg h8]]
      have ht := take_ok (s.extract 4 s.size) 4 (by decide) (by simp; omega)
      have hsz : (s.extract 4 s.size).size = s.size - 4 := by simp
      have hx1 : (s.extract 4 s.size).extract 0 (4 : Int).toNat = s.extract 4 8 := ext_sub s 4 s.size 0 4 (by omega)
      have hx2 : (s.extract 4 s.size).extract (4 : Int).toNat (s.extract 4 s.size).size = s.extract 8 s.size := by
        rw [hsz, show (4 : Int).toNat = 4 from rfl, ext_sub s 4 s.size 4 (s.size - 4) (by omega)]
        congr 1
        omega
      rw [hx1, hx2] at ht
      refine Ev.step (fun k => ?_) (ih (i + 1) (s.extract 8 s.size) (ws ++ [WD s]) (ss ++ [s.extract 4 8]) (by omega) (by omega) (by omega) (by simp; omega) (by simp; omega))
      simp only [impl_readSig.j1]
      rw [if_pos trivial, impl_wordN s (by omega)]
      simp only [Option.bind_some, ht]
      rw [if_pos (by omega), if_pos (by omega), e1]
/-- What a signature's bytes say. -/
def gsv (s : ByteArray) : Sig5 :=
  if (gv (bytesOf s)).2 = 0 then sig0 else
  let s1 := s.extract (gv (bytesOf s)).2.toNat s.size
  if (gv (bytesOf s1)).2 = 0 then sig0 else
  let s2 := s1.extract (gv (bytesOf s1)).2.toNat s1.size
  if (gv (bytesOf s2)).2 = 0 then sig0 else
  let s3 := s2.extract (gv (bytesOf s2)).2.toNat s2.size
  sgv (gv (bytesOf s)).1 (gv (bytesOf s1)).1 (gv (bytesOf s2)).1 (min (gv (bytesOf s2)).1 2501).toNat s3 [] []
theorem gsv_lens (s : ByteArray) : (gsv s).2.2.1.length ≤ 2500 ∧ (gsv s).2.2.2.1.length ≤ 2500 := by
  unfold gsv
  split
  · exact ⟨Nat.zero_le _, Nat.zero_le _⟩
  simp only
  split
  · exact ⟨Nat.zero_le _, Nat.zero_le _⟩
  split
  · exact ⟨Nat.zero_le _, Nat.zero_le _⟩
  exact sgv_lens _ _ _ _ _ _ _
theorem gv_lt (s : ByteArray) : 0 ≤ (gv (bytesOf s)).1 ∧ (gv (bytesOf s)).1 ≤ 9223372036854775807 := by
  refine ⟨gv_nn _ (bytesOf_byte s), ?_⟩
  unfold gv
  rw [gvl_vv 9 true _ (bytesOf_byte s)]
  unfold vv
  split
  · rename_i h
    have h1 := hv_lt ((bytesOf s).take (sc 9 (bytesOf s) + 1))
    have h2 : (128 : Int) ^ ((bytesOf s).take (sc 9 (bytesOf s) + 1)).length ≤ 128 ^ 9 := pow128_le (by simp; omega)
    have h9 : (128 : Int) ^ 9 = 9223372036854775808 := by decide
    show hv ((bytesOf s).take (sc 9 (bytesOf s) + 1)) ≤ _
    omega
  · exact Int.zero_le_ofNat _
theorem impl_bad2 (s : ByteArray) (x : Int) : Ev (fun k => (impl_reader_number.f k s true).bind fun bt202 => ((impl_reader_number.f k bt202.2.1 bt202.2.2).bind fun bt206 => (impl_readSig.l0 k bt206.1 0 bt206.2.1 bt206.2.2 x bt202.1 ([] : List Int) ([] : List ByteArray)))) sig0 := by
  obtain ⟨y, s1, h1⟩ := number_bad s
  obtain ⟨z, s2, h2⟩ := number_bad s1
  exact Ev.bind h1 (Ev.bind h2 (impl_blocks_bad _ _ _ _ _ _ _))
theorem impl_sig (s : ByteArray) : Ev (fun k => impl_readSig.f k s) (gsv s) := by
  unfold impl_readSig.f gsv
  by_cases h1 : (gv (bytesOf s)).2 = 0
  · rw [if_pos h1]
    obtain ⟨x, s1, hb⟩ := number_none s h1
    exact Ev.bind hb (impl_bad2 s1 x)
  rw [if_neg h1]
  have g1 := gv_lt s
  refine Ev.bind (number_some s h1) ?_
  generalize s.extract (gv (bytesOf s)).2.toNat s.size = s1
  generalize (gv (bytesOf s)).1 = a at g1
  simp only
  by_cases h2 : (gv (bytesOf s1)).2 = 0
  · rw [if_pos h2]
    obtain ⟨x, s2, hb⟩ := number_none s1 h2
    obtain ⟨z, s3, h3⟩ := number_bad s2
    exact Ev.bind hb (Ev.bind h3 (impl_blocks_bad _ _ _ _ _ _ _))
  rw [if_neg h2]
  refine Ev.bind (number_some s1 h2) ?_
  generalize s1.extract (gv (bytesOf s1)).2.toNat s1.size = s2
  generalize (gv (bytesOf s1)).1 = b
  simp only
  by_cases h3 : (gv (bytesOf s2)).2 = 0
  · rw [if_pos h3]
    obtain ⟨x, s3, hb⟩ := number_none s2 h3
    exact Ev.bind hb (impl_blocks_bad _ _ _ _ _ _ _)
  rw [if_neg h3]
  have g3 := gv_lt s2
  refine Ev.bind (number_some s2 h3) ?_
  generalize s2.extract (gv (bytesOf s2)).2.toNat s2.size = s3
  generalize (gv (bytesOf s2)).1 = n at g3
  exact impl_blocks n a b g3.1 g1.1 g1.2 (min n 2501).toNat 0 s3 [] [] (by omega) (by omega) (by omega) (by simp; omega) (by simp; omega)
theorem spec_blocks (l : List Int) (a b : Int) (ha0 : 0 ≤ a) (ha1 : a ≤ 9223372036854775807) (hl : l.length ≤ 1000000000) (r : Nat) : ∀ (o : Nat) (s : ByteArray) (ws : List Int) (ss : List ByteArray), l.drop o = bytesOf s → l.length = o + s.size → s.size = 8 * r → ws.length + r ≤ 2501 → ss.length + r ≤ 2501 →
    Ev (fun k => spec_GetSig.l1 k l o a b ws ss) (sgv a b (ws.length + r) r s ws ss) := by
  induction r with
  | zero =>
    intro o s ws ss hd hlen hs hw hss
    simp only [sgv]
    refine Ev.step (f := fun k => (spec_SigOk.f k a b ws ss).bind fun t => (if t = true then some (a, b, ws, ss, true) else some sig0)) (fun k => ?_) (Ev.bind (spec_ok a b ws ss ha0 ha1 (by omega)) (ev_ret (fun k => ?_)))
    · simp only [spec_GetSig.l1]
      rw [if_neg (by omega)]
      rfl
    · by_cases h : sok a b ws ss = true
      · rw [if_pos h, if_pos ⟨by omega, h, by omega⟩]
      · rw [if_neg h, if_neg (fun h2 => h h2.2.1)]
  | succ r ih =>
    intro o s ws ss hd hlen hs hw hss
    have h8 : ¬ s.size < 8 := by omega
    have e4 : wrap64 ((o : Int) + 4) = ((o + 4 : Nat) : Int) := by rw [w64 (by omega) (by omega)]; rfl
    have e8 : wrap64 ((o : Int) + 8) = ((o + 8 : Nat) : Int) := by rw [w64 (by omega) (by omega)]; rfl
    have w1 : (l.take ((o + 4 : Nat) : Int).toNat).drop (o : Int).toNat = bytesOf (s.extract 0 4) := by
      rw [Int.toNat_natCast, Int.toNat_natCast, List.drop_take, hd, show o + 4 - o = 4 by omega, bytesOf_take]
    have w2 : (l.take ((o + 8 : Nat) : Int).toNat).drop ((o + 4 : Nat) : Int).toNat = bytesOf (s.extract 4 8) := by
      rw [Int.toNat_natCast, Int.toNat_natCast, List.drop_take, ← List.drop_drop, hd, show o + 8 - (o + 4) = 4 by omega, bytesOf_sub]
    have w3 : l.drop (o + 8) = bytesOf (s.extract 8 s.size) := by rw [← List.drop_drop, hd, bytesOf_drop]
    have hi := ih (o + 8) (s.extract 8 s.size) (ws ++ [WD s]) (ss ++ [s.extract 4 8]) w3 (by simp; omega) (by simp; omega) (by simp; omega) (by simp; omega)
    have er : sgv a b ((ws.length : Int) + ((r + 1 : Nat) : Int)) (r + 1) s ws ss = sgv a b (((ws ++ [WD s]).length : Int) + (r : Int)) r (s.extract 8 s.size) (ws ++ [WD s]) (ss ++ [s.extract 4 8]) := by
      simp only [sgv]
      rw [if_neg h8]
      congr 1
      simp
      omega
    rw [er]
    refine Ev.step (fun k => ?_) hi
    simp only [spec_GetSig.l1]
    rw [if_pos (by omega), if_pos (by omega), e4, e8, if_pos (by omega), if_pos (by omega), w1, w2, spec_word s (by omega), strOf_bytesOf]
    simp only [Option.bind_some]
    rw [if_pos (by omega), if_pos (by omega), if_pos (by omega), if_pos (by omega), if_pos (by omega)]
theorem spec_num (s : ByteArray) (xs : List Int) (hx : xs.length < 3) (r : Sig5) (h : (gv (bytesOf s)).2 ≠ 0 → Ev (fun k => spec_GetSig.l0 k (bytesOf (s.extract (gv (bytesOf s)).2.toNat s.size)) (xs ++ [(gv (bytesOf s)).1])) r) (h0 : (gv (bytesOf s)).2 = 0 → r = sig0) :
    Ev (fun k => spec_GetSig.l0 k (bytesOf s) xs) r := by
  have hb := gv_bound s
  have hv := spec_var (bytesOf s) (bytesOf_byte s)
  generalize gv (bytesOf s) = v at hb hv h h0
  by_cases hz : v.2 = 0
  · rw [h0 hz]
    refine Ev.step (fun k => by simp only [spec_GetSig.l0]; rw [if_pos (by omega)]) (Ev.bind hv (ev_ret (fun k => ?_)))
    rw [if_pos hz]
    rfl
  · refine Ev.step (fun k => by simp only [spec_GetSig.l0]; rw [if_pos (by omega)]) (Ev.bind hv (Ev.congr (fun k => ?_) (h hz)))
    rw [if_neg hz, if_pos (by omega), if_pos hb.1, if_pos (by rw [bytesOf_length]; exact hb.2), bytesOf_drop]
theorem spec_sig (s : ByteArray) (hs : s.size ≤ 1000000000) : Ev (fun k => spec_GetSig.f k (bytesOf s)) (gsv s) := by
  unfold spec_GetSig.f gsv
  refine spec_num s [] (by decide) _ (fun h1 => ?_) (fun h1 => by rw [if_pos h1])
  have hs1 : (s.extract (gv (bytesOf s)).2.toNat s.size).size ≤ 1000000000 := by simp; omega
  rw [if_neg h1]
  have g1 := gv_lt s
  generalize s.extract (gv (bytesOf s)).2.toNat s.size = s1 at hs1
  generalize (gv (bytesOf s)).1 = a at g1
  simp only [List.nil_append]
  refine spec_num s1 [a] (by simp) _ (fun h2 => ?_) (fun h2 => by rw [if_pos h2])
  have hs2 : (s1.extract (gv (bytesOf s1)).2.toNat s1.size).size ≤ 1000000000 := by simp; omega
  rw [if_neg h2]
  generalize s1.extract (gv (bytesOf s1)).2.toNat s1.size = s2 at hs2
  generalize (gv (bytesOf s1)).1 = b
  simp only [List.cons_append, List.nil_append]
  refine spec_num s2 [a, b] (by simp) _ (fun h3 => ?_) (fun h3 => by rw [if_pos h3])
  have hs3 : (s2.extract (gv (bytesOf s2)).2.toNat s2.size).size ≤ 1000000000 := by simp; omega
  rw [if_neg h3]
  have g3 := gv_lt s2
  generalize s2.extract (gv (bytesOf s2)).2.toNat s2.size = s3 at hs3
  generalize (gv (bytesOf s2)).1 = n at g3
  simp only [List.cons_append, List.nil_append]
  have r0 : rd [a, b, n] 0 = a := rfl
  have r1 : rd [a, b, n] 1 = b := rfl
  have r2 : rd [a, b, n] 2 = n := rfl
  have hbad : Ev (fun k => spec_GetSig.j1 k (bytesOf s3) [a, b, n] true) sig0 := ev_at (fun k => by simp only [spec_GetSig.j1]; rw [if_pos trivial]; rfl)
  by_cases hbig : n > 2500
  · rw [sgv_big _ _ _ _ _ _ _ (by simp; omega)]
    refine Ev.step (fun k => ?_) hbad
    simp only [spec_GetSig.l0]
    rw [if_neg (by simp), if_pos (by simp), r2, if_pos hbig]
  · have e8 : wrap64 (8 * n) = 8 * n := w64 (by omega) (by omega)
    by_cases hsz : (s3.size : Int) = 8 * n
    · obtain ⟨m, rfl⟩ := Int.eq_ofNat_of_zero_le g3.1
      have hb := spec_blocks (bytesOf s3) a b g1.1 g1.2 (by rw [bytesOf_length]; exact hs3) m 0 s3 [] [] rfl (by rw [bytesOf_length]; omega) (by omega) (by simp; omega) (by simp; omega)
      rw [show (([] : List Int).length : Int) + (m : Int) = (m : Int) by simp] at hb
      rw [show (min (m : Int) 2501).toNat = m by omega]
      refine Ev.step (f := fun k => spec_GetSig.j1 k (bytesOf s3) [a, b, (m : Int)] false) (fun k => ?_) (Ev.step (fun k => ?_) hb)
      · simp only [spec_GetSig.l0]
        rw [if_neg (by simp), if_pos (by simp), r2, if_neg hbig, e8, bytesOf_length, show ((s3.size : Int) != 8 * (m : Int)) = false by simp [hsz]]
      · simp only [spec_GetSig.j1]
        rw [if_neg (by decide), if_pos (by simp), if_pos (by simp), r0, r1]
        rfl
    · rw [sgv_len _ _ _ _ _ _ _ (by omega)]
      refine Ev.step (fun k => ?_) hbad
      simp only [spec_GetSig.l0]
      rw [if_neg (by simp), if_pos (by simp), r2, if_neg hbig, e8, bytesOf_length, show ((s3.size : Int) != 8 * n) = true by simp [hsz]]
theorem tdiv10 {n : Int} (h0 : 0 < n) (h1 : n ≤ 9223372036854775807) : wrap64 (Int.tdiv n 10) = n / 10 := by
  rw [Int.tdiv_eq_ediv_of_nonneg (by omega)]
  exact w64 (by omega) (by omega)
theorem one_size (x : Int) : (strOfNums [x]).size = 1 := by rw [strOfNums_size]; rfl
theorem mark_l0 (d : Nat) : ∀ (n : Int) (s : ByteArray), n < 10 ^ d → n ≤ 9223372036854775807 → s.size + d ≤ 1000 → ∃ r, Ev (fun k => laws_markText.l0 k n s) r := by
  induction d with
  | zero =>
    intro n s hn _ hs
    exact ⟨(⟨#[109]⟩ : ByteArray) ++ s, ev_at (fun k => by simp only [laws_markText.l0]; rw [if_neg (by simp at hn; omega), if_pos (by omega)])⟩
  | succ d ih =>
    intro n s hn hb hs
    by_cases h0 : n > 0
    · have hsz : (strOfNums [(wrap64 (48 + (Int.tmod n 10))) % 256] ++ s).size = 1 + s.size := by rw [ByteArray.size_append, one_size]
      obtain ⟨r, h⟩ := ih (n / 10) (strOfNums [(wrap64 (48 + (Int.tmod n 10))) % 256] ++ s) (by rw [Int.pow_succ] at hn; omega) (by omega) (by omega)
      refine ⟨r, Ev.step (fun k => ?_) h⟩
      simp only [laws_markText.l0]
      rw [if_pos h0]
      simp only [Option.bind_some]
      rw [if_pos (by rw [one_size]; omega), tdiv10 h0 hb]
    · exact ⟨(⟨#[109]⟩ : ByteArray) ++ s, ev_at (fun k => by simp only [laws_markText.l0]; rw [if_neg h0, if_pos (by omega)])⟩
theorem mark_total {n : Int} (hn : n ≤ 9223372036854775807) : ∃ r, Ev (fun k => laws_markText.f k n) r := by
  by_cases h : n ≤ 0
  · exact ⟨_, 0, fun k _ => by simp only [laws_markText.f]; rw [if_pos h]⟩
  · obtain ⟨r, hr⟩ := mark_l0 19 n ⟨#[]⟩ (by have : (10 : Int) ^ 19 = 10000000000000000000 := by decide
                                             omega) hn (by decide)
    exact ⟨r, Ev.congr (fun k => by simp only [laws_markText.f]; rw [if_neg h]) hr⟩
noncomputable def mt (n : Int) : ByteArray := open Classical in if h : ∃ r, Ev (fun k => laws_markText.f k n) r then h.choose else ⟨#[]⟩
theorem mt_ev {n : Int} (hn : n ≤ 9223372036854775807) : Ev (fun k => laws_markText.f k n) (mt n) := by
  have h := mark_total hn
  unfold mt
  rw [dif_pos h]
  exact h.choose_spec
theorem rd_midB (pre : List Int) (x : Int) (t : List Int) {i : Int} (hi : i = pre.length) : rd (pre ++ x :: t) i = x := by
  subst hi
  simp [rd]
theorem set_midB (pre : List Int) (x y : Int) (t : List Int) {i : Int} (hi : i = pre.length) : (pre ++ x :: t).set i.toNat y = pre ++ y :: t := by
  subst hi
  simp
theorem toB (suf : List Int) : ∀ (pre : List Int) (i : Int), i = pre.length → pre.length + suf.length ≤ 281474976710656 →
    Ev (fun k => laws_toByteS.l0 k (pre ++ suf) (pre ++ List.replicate suf.length 0) i) (pre ++ suf) := by
  induction suf with
  | nil =>
    intro pre i hi hl
    refine ev_at (fun k => ?_)
    simp only [laws_toByteS.l0]
    rw [if_neg (by simp; omega)]
    simp
  | cons x t ih =>
    intro pre i hi hl
    simp only [List.length_cons] at hl
    have h := ih (pre ++ [x]) (i + 1) (by simp; omega) (by simp; omega)
    have e3 : wrap64 (i + 1) = i + 1 := w64 (by omega) (by omega)
    have c1 : i < ((pre ++ x :: t).length : Int) := by simp; omega
    have c2 : 0 ≤ i := by omega
    have c3 : i < ((pre ++ List.replicate (x :: t).length (0 : Int)).length : Int) := by simp; omega
    refine Ev.step (f := fun k => laws_toByteS.l0 k (pre ++ x :: t) (pre ++ x :: List.replicate t.length 0) (i + 1)) (fun k => ?_) (by simpa using h)
    simp only [laws_toByteS.l0]
    rw [if_pos c1, if_pos c2, if_pos c3, rd_midB pre x t hi, e3, List.length_cons, List.replicate_succ, set_midB _ _ _ _ hi]
theorem toBS (xs : List Int) (hl : xs.length ≤ 281474976710656) : Ev (fun k => laws_toByteS.f k xs) xs := by
  have h := toB xs [] 0 rfl (by simpa using hl)
  exact Ev.congr (fun k => by simp only [laws_toByteS.f]; rw [if_pos (by omega), if_pos (by simpa using hl)]; rfl) h
theorem eqB (xs : List Int) (hx : xs.length ≤ 4611686018427387904) (d : Nat) : ∀ i : Int, 0 ≤ i → (xs.length : Int) - i = d → Ev (fun k => laws_eqByteS.l0 k xs xs i) true := by
  induction d with
  | zero =>
    intro i h0 hd
    exact ev_at (fun k => by simp only [laws_eqByteS.l0]; rw [if_neg (by omega)])
  | succ d ih =>
    intro i h0 hd
    refine Ev.step (fun k => ?_) (ih (i + 1) (by omega) (by omega))
    simp only [laws_eqByteS.l0]
    rw [if_pos (by omega), if_pos h0, if_pos (by omega)]
    simp only [if_true]
    rw [w64 (by omega) (by omega)]
theorem eqBS (xs : List Int) (hx : xs.length ≤ 4611686018427387904) : Ev (fun k => laws_eqByteS.f k xs xs) true :=
  Ev.congr (fun k => by simp only [laws_eqByteS.f]; rw [if_pos trivial]) (eqB xs hx xs.length 0 (by omega) (by omega))
def mkB : Int → List Int → List Int
  | _, [] => []
  | m, _ :: t => (m % 256) :: mkB (m + 1) t
theorem mkB_length (m : Int) (xs : List Int) : (mkB m xs).length = xs.length := by
  induction xs generalizing m with
  | nil => rfl
  | cons x t ih => simp [mkB, ih]
theorem markB (suf : List Int) : ∀ (pre : List Int) (m i : Int), i = pre.length → 0 ≤ m → m + suf.length ≤ 4611686018427387904 → pre.length + suf.length ≤ 4611686018427387904 →
    Ev (fun k => laws_markByteS.l0 k (pre ++ suf) m i) (m + suf.length, pre ++ mkB m suf) := by
  induction suf with
  | nil =>
    intro pre m i hi h0 hm hl
    refine ev_at (fun k => ?_)
    simp only [laws_markByteS.l0]
    rw [if_neg (by simp; omega)]
    simp [mkB]
  | cons x t ih =>
    intro pre m i hi h0 hm hl
    simp only [List.length_cons, Int.natCast_succ] at hm hl
    have h := ih (pre ++ [m % 256]) (m + 1) (i + 1) (by simp; omega) (by omega) (by omega) (by simp; omega)
    have e1 : wrap64 (m + 1) = m + 1 := w64 (by omega) (by omega)
    have e3 : wrap64 (i + 1) = i + 1 := w64 (by omega) (by omega)
    have hres : ((m + ((x :: t).length : Int), pre ++ mkB m (x :: t)) : Int × List Int) = (m + 1 + (t.length : Int), pre ++ [m % 256] ++ mkB (m + 1) t) := by
      simp [mkB]
      omega
    rw [hres]
    refine Ev.step (f := fun k => laws_markByteS.l0 k (pre ++ (m % 256) :: t) (m + 1) (i + 1)) (fun k => ?_) (by simpa using h)
    simp only [laws_markByteS.l0]
    rw [if_pos (by simp; omega), if_pos (by omega), set_midB pre x _ t hi, e1, e3]
theorem markBS (xs : List Int) (m : Int) (h0 : 0 ≤ m) (hm : m + xs.length ≤ 4611686018427387904) : Ev (fun k => laws_markByteS.f k xs m) (m + xs.length, mkB m xs) := by
  have h := markB xs [] m 0 rfl h0 hm (by simp; omega)
  simp only [List.nil_append] at h
  exact h
theorem rd_midS (pre : List ByteArray) (x : ByteArray) (t : List ByteArray) {i : Int} (hi : i = pre.length) : rdOf ByteArray.empty (pre ++ x :: t) i = x := by
  subst hi
  simp [rdOf]
theorem set_midS (pre : List ByteArray) (x y : ByteArray) (t : List ByteArray) {i : Int} (hi : i = pre.length) : (pre ++ x :: t).set i.toNat y = pre ++ y :: t := by
  subst hi
  simp
theorem eqStr (xs : List ByteArray) (hx : xs.length ≤ 4611686018427387904) (d : Nat) : ∀ i : Int, 0 ≤ i → (xs.length : Int) - i = d → Ev (fun k => laws_eqStringS.l0 k xs xs i) true := by
  induction d with
  | zero =>
    intro i h0 hd
    exact ev_at (fun k => by simp only [laws_eqStringS.l0]; rw [if_neg (by omega)])
  | succ d ih =>
    intro i h0 hd
    refine Ev.step (fun k => ?_) (ih (i + 1) (by omega) (by omega))
    simp only [laws_eqStringS.l0]
    rw [if_pos (by omega), if_pos h0, if_pos (by omega)]
    simp only [if_true]
    rw [w64 (by omega) (by omega)]
theorem eqStrS (xs : List ByteArray) (hx : xs.length ≤ 4611686018427387904) : Ev (fun k => laws_eqStringS.f k xs xs) true :=
  Ev.congr (fun k => by simp only [laws_eqStringS.f]; rw [if_pos trivial]) (eqStr xs hx xs.length 0 (by omega) (by omega))
noncomputable def mkT : Int → List ByteArray → List ByteArray
  | _, [] => []
  | m, _ :: t => mt m :: mkT (m + 1) t
theorem mkT_length (m : Int) (xs : List ByteArray) : (mkT m xs).length = xs.length := by
  induction xs generalizing m with
  | nil => rfl
  | cons x t ih => simp [mkT, ih]
theorem markT (suf : List ByteArray) : ∀ (pre : List ByteArray) (m i : Int), i = pre.length → 0 ≤ m → m + suf.length ≤ 4611686018427387904 → pre.length + suf.length ≤ 4611686018427387904 →
    Ev (fun k => laws_markStringS.l0 k (pre ++ suf) m i) (m + suf.length, pre ++ mkT m suf) := by
  induction suf with
  | nil =>
    intro pre m i hi h0 hm hl
    refine ev_at (fun k => ?_)
    simp only [laws_markStringS.l0]
    rw [if_neg (by simp; omega)]
    simp [mkT]
  | cons x t ih =>
    intro pre m i hi h0 hm hl
    simp only [List.length_cons, Int.natCast_succ] at hm hl
    have h := ih (pre ++ [mt m]) (m + 1) (i + 1) (by simp; omega) (by omega) (by omega) (by simp; omega)
    have e1 : wrap64 (m + 1) = m + 1 := w64 (by omega) (by omega)
    have e3 : wrap64 (i + 1) = i + 1 := w64 (by omega) (by omega)
    have hres : ((m + ((x :: t).length : Int), pre ++ mkT m (x :: t)) : Int × List ByteArray) = (m + 1 + (t.length : Int), pre ++ [mt m] ++ mkT (m + 1) t) := by
      simp [mkT]
      omega
    rw [hres]
    refine Ev.step (f := fun k => (laws_markText.f k m).bind fun q => laws_markStringS.l0 k (pre ++ q :: t) (m + 1) (i + 1)) (fun k => ?_) (Ev.bind (mt_ev (by omega)) (by simpa using h))
    simp only [laws_markStringS.l0]
    rw [if_pos (by simp; omega)]
    congr 1
    funext q
    rw [if_pos (by omega), set_midS pre x _ t hi, e1, e3]
theorem heldT (suf : List ByteArray) : ∀ (pre : List ByteArray) (m i : Int), i = pre.length → 0 ≤ m → m + suf.length ≤ 4611686018427387904 → pre.length + suf.length ≤ 4611686018427387904 →
    Ev (fun k => laws_heldStringS.l0 k (pre ++ mkT m suf) m i) (m + suf.length) := by
  induction suf with
  | nil =>
    intro pre m i hi h0 hm hl
    refine ev_at (fun k => ?_)
    simp only [laws_heldStringS.l0]
    rw [if_neg (by simp [mkT]; omega)]
    simp
  | cons x t ih =>
    intro pre m i hi h0 hm hl
    simp only [List.length_cons, Int.natCast_succ] at hm hl
    have h := ih (pre ++ [mt m]) (m + 1) (i + 1) (by simp; omega) (by omega) (by omega) (by simp; omega)
    have e1 : wrap64 (m + 1) = m + 1 := w64 (by omega) (by omega)
    have e3 : wrap64 (i + 1) = i + 1 := w64 (by omega) (by omega)
    have hres : m + ((x :: t).length : Int) = m + 1 + (t.length : Int) := by simp; omega
    rw [hres]
    refine Ev.step (f := fun k => (laws_markText.f k m).bind fun q => if (mt m).toList = q.toList then laws_heldStringS.l0 k (pre ++ mkT m (x :: t)) (m + 1) (i + 1) else some (-1)) (fun k => ?_) (Ev.bind (mt_ev (by omega)) ?_)
    · rw [show mkT m (x :: t) = mt m :: mkT (m + 1) t from rfl]
      simp only [laws_heldStringS.l0]
      have c1 : i < ((pre ++ mt m :: mkT (m + 1) t).length : Int) := by simp; omega
      have c2 : 0 ≤ i := by omega
      rw [if_pos c1, if_pos c2, rd_midS pre _ _ hi, e1, e3]
    · simp only [if_pos]
      simpa [mkT] using h
theorem markTS (xs : List ByteArray) (m : Int) (h0 : 0 ≤ m) (hm : m + xs.length ≤ 4611686018427387904) : Ev (fun k => laws_markStringS.f k xs m) (m + xs.length, mkT m xs) := by
  have h := markT xs [] m 0 rfl h0 hm (by simp; omega)
  simp only [List.nil_append] at h
  exact h
theorem heldTS (xs : List ByteArray) (m : Int) (h0 : 0 ≤ m) (hm : m + xs.length ≤ 4611686018427387904) : Ev (fun k => laws_heldStringS.f k (mkT m xs) m) (m + xs.length) := by
  have h := heldT xs [] m 0 rfl h0 hm (by simp; omega)
  simp only [List.nil_append] at h
  exact h
theorem eqU (xs : List Int) (hx : xs.length ≤ 4611686018427387904) (d : Nat) : ∀ i : Int, 0 ≤ i → (xs.length : Int) - i = d → Ev (fun k => laws_eqUint32S.l0 k xs xs i) true := by
  induction d with
  | zero =>
    intro i h0 hd
    exact ev_at (fun k => by simp only [laws_eqUint32S.l0]; rw [if_neg (by omega)])
  | succ d ih =>
    intro i h0 hd
    refine Ev.step (fun k => ?_) (ih (i + 1) (by omega) (by omega))
    simp only [laws_eqUint32S.l0]
    rw [if_pos (by omega), if_pos h0, if_pos (by omega)]
    simp only [if_true]
    rw [w64 (by omega) (by omega)]
theorem eqUS (xs : List Int) (hx : xs.length ≤ 4611686018427387904) : Ev (fun k => laws_eqUint32S.f k xs xs) true :=
  Ev.congr (fun k => by simp only [laws_eqUint32S.f]; rw [if_pos trivial]) (eqU xs hx xs.length 0 (by omega) (by omega))
def mkU : Int → List Int → List Int
  | _, [] => []
  | m, _ :: t => (m % 4294967296) :: mkU (m + 1) t
theorem mkU_length (m : Int) (xs : List Int) : (mkU m xs).length = xs.length := by
  induction xs generalizing m with
  | nil => rfl
  | cons x t ih => simp [mkU, ih]
theorem markU (suf : List Int) : ∀ (pre : List Int) (m i : Int), i = pre.length → 0 ≤ m → m + suf.length ≤ 4611686018427387904 → pre.length + suf.length ≤ 4611686018427387904 →
    Ev (fun k => laws_markUint32S.l0 k (pre ++ suf) m i) (m + suf.length, pre ++ mkU m suf) := by
  induction suf with
  | nil =>
    intro pre m i hi h0 hm hl
    refine ev_at (fun k => ?_)
    simp only [laws_markUint32S.l0]
    rw [if_neg (by simp; omega)]
    simp [mkU]
  | cons x t ih =>
    intro pre m i hi h0 hm hl
    simp only [List.length_cons, Int.natCast_succ] at hm hl
    have h := ih (pre ++ [m % 4294967296]) (m + 1) (i + 1) (by simp; omega) (by omega) (by omega) (by simp; omega)
    have e1 : wrap64 (m + 1) = m + 1 := w64 (by omega) (by omega)
    have e3 : wrap64 (i + 1) = i + 1 := w64 (by omega) (by omega)
    have hres : ((m + ((x :: t).length : Int), pre ++ mkU m (x :: t)) : Int × List Int) = (m + 1 + (t.length : Int), pre ++ [m % 4294967296] ++ mkU (m + 1) t) := by
      simp [mkU]
      omega
    rw [hres]
    refine Ev.step (f := fun k => laws_markUint32S.l0 k (pre ++ (m % 4294967296) :: t) (m + 1) (i + 1)) (fun k => ?_) (by simpa using h)
    simp only [laws_markUint32S.l0]
    rw [if_pos (by simp; omega), if_pos (by omega), set_midB pre x _ t hi, e1, e3]
theorem markUS (xs : List Int) (m : Int) (h0 : 0 ≤ m) (hm : m + xs.length ≤ 4611686018427387904) : Ev (fun k => laws_markUint32S.f k xs m) (m + xs.length, mkU m xs) := by
  have h := markU xs [] m 0 rfl h0 hm (by simp; omega)
  simp only [List.nil_append] at h
  exact h
theorem heldU (suf : List Int) : ∀ (pre : List Int) (m i : Int), i = pre.length → 0 ≤ m → m + suf.length ≤ 4611686018427387904 → pre.length + suf.length ≤ 4611686018427387904 →
    Ev (fun k => laws_heldUint32S.l0 k (pre ++ mkU m suf) m i) (m + suf.length) := by
  induction suf with
  | nil =>
    intro pre m i hi h0 hm hl
    refine ev_at (fun k => ?_)
    simp only [laws_heldUint32S.l0]
    rw [if_neg (by simp [mkU]; omega)]
    simp
  | cons x t ih =>
    intro pre m i hi h0 hm hl
    simp only [List.length_cons, Int.natCast_succ] at hm hl
    have h := ih (pre ++ [m % 4294967296]) (m + 1) (i + 1) (by simp; omega) (by omega) (by omega) (by simp; omega)
    have e1 : wrap64 (m + 1) = m + 1 := w64 (by omega) (by omega)
    have e3 : wrap64 (i + 1) = i + 1 := w64 (by omega) (by omega)
    have hres : m + ((x :: t).length : Int) = m + 1 + (t.length : Int) := by simp; omega
    rw [hres]
    refine Ev.step (f := fun k => laws_heldUint32S.l0 k (pre ++ (m % 4294967296) :: mkU (m + 1) t) (m + 1) (i + 1)) (fun k => ?_) (by simpa using h)
    rw [show mkU m (x :: t) = (m % 4294967296) :: mkU (m + 1) t from rfl]
    simp only [laws_heldUint32S.l0]
    rw [if_pos (by simp; omega), if_pos (by omega), rd_midB pre _ _ hi, if_pos rfl, e1, e3]
theorem heldUS (xs : List Int) (m : Int) (h0 : 0 ≤ m) (hm : m + xs.length ≤ 4611686018427387904) : Ev (fun k => laws_heldUint32S.f k (mkU m xs) m) (m + xs.length) := by
  have h := heldU xs [] m 0 rfl h0 hm (by simp; omega)
  simp only [List.nil_append] at h
  exact h
theorem lit_u8 {x : Int} (h : (Lit.int .u8 x).wf = true) : 0 ≤ x ∧ x < 256 := by
  simp only [Lit.wf, Bool.and_eq_true, decide_eq_true_eq] at h
  have e1 : IntKind.u8.min = 0 := rfl
  have e2 : IntKind.u8.max = 255 := rfl
  omega
theorem bytesOf_strOf : ∀ (l : List Int), (∀ x ∈ l, 0 ≤ x ∧ x < 256) → bytesOf (strOfNums l) = l := by
  intro l h
  unfold bytesOf
  rw [strOfNums_data, List.map_map]
  conv => rhs; rw [← List.map_id l]
  refine List.map_congr_left (fun x hx => ?_)
  obtain ⟨h0, h1⟩ := h x hx
  simp
  omega
theorem eqSigS (a b : Int) (ws : List Int) (ss : List ByteArray) (hw : ws.length ≤ 2500) (hs : ss.length ≤ 2500) : Ev (fun k => laws_eqSig.f k a b ws ss a b ws ss) true := by
  refine Ev.congr (fun k => by simp only [laws_eqSig.f]; rw [if_pos trivial, if_pos trivial]) (Ev.bind (eqUS ws (by omega)) ?_)
  refine Ev.congr (fun k => by rw [if_pos rfl]) (Ev.bind (eqStrS ss (by omega)) (ev_ret (fun k => by rw [if_pos rfl])))
theorem markSigS (a b : Int) (ws : List Int) (ss : List ByteArray) (hw : ws.length ≤ 2500) (hs : ss.length ≤ 2500) : Ev (fun k => laws_markSig.f k a b ws ss 1) (1 + (ws.length : Int) + (ss.length : Int), mkU 1 ws, mkT (1 + (ws.length : Int)) ss) := by
  refine Ev.bind (markUS ws 1 (by decide) (by omega)) ?_
  exact Ev.bind (markTS ss _ (by omega) (by omega)) (ev_ret (fun k => rfl))
theorem heldSigS (a b : Int) (ws : List Int) (ss : List ByteArray) (hw : ws.length ≤ 2500) (hs : ss.length ≤ 2500) : Ev (fun k => laws_heldSig.f k a b (mkU 1 ws) (mkT (1 + (ws.length : Int)) ss) 1) (1 + (ws.length : Int) + (ss.length : Int)) := by
  refine Ev.bind (heldUS ws 1 (by decide) (by omega)) ?_
  refine Ev.congr (fun k => by rw [if_neg (by omega)]) (Ev.bind (heldTS ss _ (by omega) (by omega)) (ev_ret (fun k => by rw [if_neg (by omega)])))
theorem FnExactGetSig : laws_FnExactGetSig.Pure := by
  intro b _ _ hb
  by_cases hbig : (b.length : Int) > 1048576
  · exact ⟨0, by simp only [laws_FnExactGetSig.f]; rw [if_pos hbig]⟩
  have hbb : ∀ x ∈ b, 0 ≤ x ∧ x < 256 := fun x hx => (lit_u8 (hb x hx))
  have htb := toBS b (by omega)
  have hbe : bytesOf (strOfNums b) = b := bytesOf_strOf b hbb
  have hsz : (strOfNums b).size = b.length := strOfNums_size b
  have hs := spec_sig (strOfNums b) (by omega)
  rw [hbe] at hs
  have hi : Ev (fun k => impl_GetSig.f k b) (gsv (strOfNums b)) := Ev.bind (impl_sig (strOfNums b)) (ev_ret (fun k => rfl))
  have hl := gsv_lens (strOfNums b)
  generalize gsv (strOfNums b) = v at hs hi hl
  obtain ⟨va, vb, vw, vs, vo⟩ := v
  simp only at hl
  have he := eqSigS va vb vw vs hl.1 hl.2
  have hm := markSigS va vb vw vs hl.1 hl.2
  have hh := heldSigS va vb vw vs hl.1 hl.2
  have heb := eqBS b (by omega)
  have hmb := markBS b 1 (by decide) (by omega)
  have e1 : (vo != vo) = false := by simp
  have hj2 : Ev (fun k => laws_FnExactGetSig.j2 k (1 + (vw.length : Int) + (vs.length : Int)) false va vb (mkU 1 vw) (mkT (1 + (vw.length : Int)) vs)) true := by
    refine Ev.step (fun k => by simp only [laws_FnExactGetSig.j2]; rw [if_neg (by decide)]) (Ev.bind hh ?_)
    exact ev_ret (fun k => by rw [if_neg (by omega), if_pos rfl])
  have hj1 : Ev (fun k => laws_FnExactGetSig.j1 k b vo false va vb vw vs va vb vw vs) true := by
    refine Ev.step (fun k => by simp only [laws_FnExactGetSig.j1]; rw [if_neg (by decide)]) (Ev.bind hm (Ev.bind hh ?_))
    refine Ev.congr (fun k => by rw [if_neg (by omega), if_pos rfl]) (Ev.bind htb (Ev.bind hi (Ev.bind he ?_)))
    exact Ev.congr (fun k => by rw [if_pos rfl, e1]) hj2
  have hj0 : Ev (fun k => laws_FnExactGetSig.j0 k b vo b vo false va vb vw vs va vb vw vs) true := by
    refine Ev.step (fun k => by simp only [laws_FnExactGetSig.j0]; rw [if_neg (by decide)]) (Ev.bind htb (Ev.bind heb ?_))
    refine Ev.congr (fun k => by rw [if_pos rfl]) (Ev.bind hmb ?_)
    refine Ev.congr (fun k => by rw [if_neg (by omega)]) (Ev.bind he ?_)
    exact Ev.congr (fun k => by rw [if_pos rfl, e1]) hj1
  refine Ev.rounds ?_
  simp only [laws_FnExactGetSig.f]
  refine Ev.congr (fun k => by rw [if_neg hbig]) (Ev.bind htb (Ev.bind hs (Ev.bind htb (Ev.bind hi (Ev.bind he ?_)))))
  exact Ev.congr (fun k => by rw [if_pos rfl, e1]) hj0
end Go.Proofs.Ytbiaakkmmkddfaa.Pure
