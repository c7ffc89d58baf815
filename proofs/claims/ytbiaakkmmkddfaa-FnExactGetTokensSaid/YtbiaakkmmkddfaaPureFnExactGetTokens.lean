/- The program's GetTokens answers as the reference's, at all bytes; it writes into no argument, and its answer is its own, behind a second call too. No condition beside the form's own reach. -/
import Derived.Test.YtbiaakkmmkddfaaPFnExactGetTokensx7
namespace Go.Proofs.Ytbiaakkmmkddfaa.Pure
open Go.RowKit Go.Proofs.Ytbiaakkmmkddfaa.PFnExactGetTokens Go.Proofs.YtbiaakkmmkddfaaW.PrintWords Go.Proofs.YtbiaakkmmkddfaaW.PrintLast Go.Proofs.YtbiaakkmmkddfaaW.PrintMore
theorem w64 {x : Int} (h0 : -9223372036854775808 ≤ x) (h1 : x ≤ 9223372036854775807) : wrap64 x = x := by unfold wrap64; omega
theorem emp_iff (s : ByteArray) : s.toList = ([] : List UInt8) ↔ s.size = 0 := by
  rw [ByteArray.toList_eq]
  obtain ⟨⟨d⟩⟩ := s
  cases d <;> simp [ByteArray.size]
theorem ev_at {α : Type} {g : Nat → Option α} {r : α} (h : ∀ k, g (k + 1) = some r) : Ev g r := ⟨1, fun k hk => by
  obtain ⟨j, rfl⟩ : ∃ j, k = j + 1 := ⟨k - 1, by omega⟩
  exact h j⟩
theorem ev_ret {α : Type} {g : Nat → Option α} {r : α} (h : ∀ k, g k = some r) : Ev g r := ⟨0, fun k _ => h k⟩
theorem ev_det {α : Type} {g : Nat → Option α} {r s : α} (h : Ev g r) (k : Ev g s) : r = s := by
  obtain ⟨K, h⟩ := h
  obtain ⟨L, k⟩ := k
  have h1 := h (K + L) (by omega)
  have h2 := k (K + L) (by omega)
  rw [h1] at h2
  exact Option.some.inj h2
theorem ba_ext {a b : ByteArray} (h : a.toList = b.toList) : a = b := by
  rw [ByteArray.toList_eq, ByteArray.toList_eq] at h
  exact ByteArray.ext (Array.toList_inj.1 h)
theorem bytesOf_append (a b : ByteArray) : bytesOf (a ++ b) = bytesOf a ++ bytesOf b := by simp [bytesOf, ByteArray.data_append]
theorem strOf_bytesOf (s : ByteArray) : strOfNums (bytesOf s) = s := by
  apply ByteArray.ext
  apply Array.toList_inj.1
  rw [strOfNums_data, bytesOf, List.map_map]
  exact (List.map_congr_left (fun b _ => by simp)).trans (List.map_id _)
theorem bytesOf_inj {a b : ByteArray} (h : bytesOf a = bytesOf b) : a = b := by rw [← strOf_bytesOf a, h, strOf_bytesOf]
theorem bt_nn (s : ByteArray) (i : Int) : 0 ≤ bt s i := by unfold bt; split <;> omega
theorem bt_le (s : ByteArray) (i : Int) : bt s i ≤ 255 := by
  unfold bt
  split
  · rename_i h
    have := (s[i.toNat]'h).toNat_lt
    omega
  · omega
theorem or_sum (i j : Nat) (hj : j ≤ 32) (hij : i ≤ j) (x y : Int) (hx0 : 0 ≤ x) (hx : x < 2 ^ i) (hy0 : 0 ≤ y) (hy : y % 2 ^ i = 0) (hy1 : y < 2 ^ j) : Go.bits .or .u32 x y = x + y := by
  have hx1 : x < 2 ^ j := Int.lt_of_lt_of_le hx (by exact_mod_cast Nat.pow_le_pow_right (by decide) hij)
  have wr : ∀ n : Int, 0 ≤ n → n < 2 ^ j → IntKind.u32.wrap n = n := by
    intro n h0 h1
    have : (2 : Int) ^ j ≤ 2 ^ 32 := by exact_mod_cast Nat.pow_le_pow_right (by decide) hj
    rw [IntKind.wrap_u32]
    have e : (2 : Int) ^ 32 = 4294967296 := by decide
    omega
  have h := bits_join .u32 j hj wr i y x hy0 hy hy1 hx0 hx hx1
  obtain ⟨a, rfl⟩ := Int.eq_ofNat_of_zero_le hx0
  obtain ⟨b, rfl⟩ := Int.eq_ofNat_of_zero_le hy0
  have ha : a < 2 ^ j := by exact_mod_cast hx1
  have hb : b < 2 ^ j := by exact_mod_cast hy1
  rw [(bits_nat .u32 j hj wr a b ha hb).2, Nat.or_comm, ← (bits_nat .u32 j hj wr b a hb ha).2, h]
  omega
/-- The word of a text's first four bytes. -/
def WD (s : ByteArray) : Int := bt s 0 + 256 * bt s 1 + 65536 * bt s 2 + 16777216 * bt s 3
theorem WD_nn (s : ByteArray) : 0 ≤ WD s := by
  have := bt_nn s 0; have := bt_nn s 1; have := bt_nn s 2; have := bt_nn s 3
  unfold WD; omega
theorem WD_lt (s : ByteArray) : WD s < 4294967296 := by
  have := bt_le s 0; have := bt_le s 1; have := bt_le s 2; have := bt_le s 3
  unfold WD; omega
theorem word_or (a b c d : Int) (a0 : 0 ≤ a) (a1 : a ≤ 255) (b0 : 0 ≤ b) (b1 : b ≤ 255) (c0 : 0 ≤ c) (c1 : c ≤ 255) (d0 : 0 ≤ d) (d1 : d ≤ 255) :
    Go.bits .or .u32 (Go.bits .or .u32 (Go.bits .or .u32 (a % 4294967296) (((b % 4294967296) * 256) % 4294967296)) (((c % 4294967296) * 65536) % 4294967296)) (((d % 4294967296) * 16777216) % 4294967296) = a + 256 * b + 65536 * c + 16777216 * d := by
  rw [show a % 4294967296 = a by omega, show ((b % 4294967296) * 256) % 4294967296 = b * 256 by omega, show ((c % 4294967296) * 65536) % 4294967296 = c * 65536 by omega, show ((d % 4294967296) * 16777216) % 4294967296 = d * 16777216 by omega]
  rw [or_sum 8 16 (by decide) (by decide) a (b * 256) a0 (by omega) (by omega) (by omega) (by omega)]
  rw [or_sum 16 24 (by decide) (by decide) (a + b * 256) (c * 65536) (by omega) (by omega) (by omega) (by omega) (by omega)]
  rw [or_sum 24 32 (by decide) (by decide) (a + b * 256 + c * 65536) (d * 16777216) (by omega) (by omega) (by omega) (by omega) (by omega)]
  omega
theorem bt_extract (s : ByteArray) (n : Nat) (hn : n ≤ s.size) (i : Nat) (hi : i < n) : bt (s.extract 0 n) i = bt s i := by
  unfold bt
  have h1 : ((i : Int)).toNat < (s.extract 0 n).size := by simp; omega
  have h2 : ((i : Int)).toNat < s.size := by simp; omega
  rw [dif_pos h1, dif_pos h2]
  simp only [Int.toNat_natCast, ByteArray.getElem_extract, Nat.zero_add]
theorem or_sumK (k : IntKind) (i j : Nat) (hj : j ≤ k.bits) (hk : ∀ n : Int, 0 ≤ n → n < 2 ^ j → k.wrap n = n) (hij : i ≤ j) (x y : Int) (hx0 : 0 ≤ x) (hx : x < 2 ^ i) (hy0 : 0 ≤ y) (hy : y % 2 ^ i = 0) (hy1 : y < 2 ^ j) : Go.bits .or k x y = x + y := by
  have hx1 : x < 2 ^ j := Int.lt_of_lt_of_le hx (by exact_mod_cast Nat.pow_le_pow_right (by decide) hij)
  have h := bits_join k j hj hk i y x hy0 hy hy1 hx0 hx hx1
  obtain ⟨a, rfl⟩ := Int.eq_ofNat_of_zero_le hx0
  obtain ⟨b, rfl⟩ := Int.eq_ofNat_of_zero_le hy0
  have ha : a < 2 ^ j := by exact_mod_cast hx1
  have hb : b < 2 ^ j := by exact_mod_cast hy1
  rw [(bits_nat k j hj hk a b ha hb).2, Nat.or_comm, ← (bits_nat k j hj hk b a hb ha).2, h]
  omega
theorem u8_and127 (b : Int) (h0 : 0 ≤ b) (h1 : b ≤ 255) : Go.bits .and .u8 b 127 = b % 128 := by
  have hk : ∀ n : Int, 0 ≤ n → n < 2 ^ 8 → IntKind.u8.wrap n = n := by
    intro n h0 h1
    rw [IntKind.wrap_u8]
    have e : (2 : Int) ^ 8 = 256 := by decide
    omega
  obtain ⟨a, rfl⟩ := Int.eq_ofNat_of_zero_le h0
  have h := (bits_nat .u8 8 (by decide) hk a 127 (by omega) (by decide)).1
  rw [show ((127 : Nat) : Int) = 127 from rfl] at h
  rw [h, show (127 : Nat) = 2 ^ 7 - 1 from rfl, Nat.and_two_pow_sub_one_eq_mod]
  omega
theorem pow128 (i : Nat) : (128 : Int) ^ i = 2 ^ (7 * i) := by rw [Int.pow_mul]; rfl
theorem pow128_pos (i : Nat) : (0 : Int) < 128 ^ i := Int.pow_pos (by decide)
theorem pow128_le {i j : Nat} (h : i ≤ j) : (128 : Int) ^ i ≤ 128 ^ j := by exact_mod_cast Nat.pow_le_pow_right (by decide) h
theorem var_or (b x : Int) (i : Nat) (hb0 : 0 ≤ b) (hb1 : b ≤ 255) (hi : i ≤ 8) (hx0 : 0 ≤ x) (hx : x < 128 ^ i) :
    Go.bits .or .i64 x (shl .i64 (wrap64 (Go.bits .and .u8 b 127)) (wrap64 (7 * (i : Int)))) = x + b % 128 * 128 ^ i := by
  have hp := pow128_pos i
  have hpl : (128 : Int) ^ i ≤ 128 ^ 8 := pow128_le hi
  have h8 : (128 : Int) ^ 8 = 72057594037927936 := by decide
  have hm0 : 0 ≤ b % 128 := by omega
  have hm1 : b % 128 ≤ 127 := by omega
  have hv0 : 0 ≤ b % 128 * 128 ^ i := Int.mul_nonneg hm0 (by omega)
  have hv1 : b % 128 * 128 ^ i ≤ 127 * 128 ^ i := Int.mul_le_mul_of_nonneg_right hm1 (by omega)
  have hs : shl .i64 (b % 128) (7 * (i : Int)) = b % 128 * 128 ^ i := by
    unfold shl
    rw [show (7 * (i : Int)).toNat = 7 * i by omega, show min (7 * i) IntKind.i64.bits = 7 * i by simp [IntKind.bits]; omega, ← pow128, IntKind.wrap_i64]
    omega
  rw [u8_and127 b hb0 hb1, w64 (x := b % 128) (by omega) (by omega), w64 (x := 7 * (i : Int)) (by omega) (by omega), hs]
  refine or_sumK .i64 (7 * i) 63 (by decide) (fun n h0 h1 => ?_) (by omega) x _ hx0 (by rw [← pow128]; exact hx) hv0 ?_ ?_
  · rw [IntKind.wrap_i64]
    have e : (2 : Int) ^ 63 = 9223372036854775808 := by decide
    omega
  · rw [← pow128]; exact Int.mul_emod_left _ _
  · have e : (2 : Int) ^ 63 = 9223372036854775808 := by decide
    omega
/-- What a number's bytes say: its value and how many they are; (0, 0) of none. -/
def gvl : Bool → Nat → List Int → Int × Int
  | _, 0, _ => (0, 0)
  | _, _ + 1, [] => (0, 0)
  | fst, n + 1, b :: t => if b < 128 then (if b = 0 ∧ fst = false then (0, 0) else (b, 1)) else if (gvl false n t).2 = 0 then (0, 0) else (b - 128 + 128 * (gvl false n t).1, (gvl false n t).2 + 1)
def gv (l : List Int) : Int × Int := gvl true 9 l
theorem gvl_snd (n : Nat) : ∀ (f : Bool) (l : List Int), 0 ≤ (gvl f n l).2 ∧ (gvl f n l).2 ≤ n ∧ (gvl f n l).2 ≤ l.length := by
  induction n with
  | zero => intro f l; simp [gvl]
  | succ n ih =>
    intro f l
    cases l with
    | nil => simp [gvl]; omega
    | cons b t =>
      have := ih false t
      simp only [gvl, List.length_cons]
      split
      · split
        · simp; omega
        · simp; omega
      · split
        · simp; omega
        · simp; omega
theorem drop_bt (s : ByteArray) (i : Nat) (h : i < s.size) : (bytesOf s).drop i = bt s i :: (bytesOf s).drop (i + 1) := by
  have hl : i < (bytesOf s).length := by rw [bytesOf_length]; exact h
  rw [List.drop_eq_getElem_cons hl, ← rd_bytesOf]
  simp [rd, hl]
def rvp (i : Nat) (x : Int) (r : Int × Int) : Int × Int := if r.2 = 0 then (0, 0) else (x + 128 ^ i * r.1, i + r.2)
def rvv (i : Nat) (x : Int) (l : List Int) : Int × Int := rvp i x (gvl (decide (i = 0)) (9 - i) l)
theorem rvp_zero (i : Nat) (x : Int) : rvp i x (0, 0) = (0, 0) := rfl
theorem gvl_low (f : Bool) (n : Nat) (b : Int) (t : List Int) (h : b < 128) : gvl f (n + 1) (b :: t) = if b = 0 ∧ f = false then (0, 0) else (b, 1) := by
  simp only [gvl]
  rw [if_pos h]
theorem gvl_high (f : Bool) (n : Nat) (b : Int) (t : List Int) (h : ¬ b < 128) : gvl f (n + 1) (b :: t) = if (gvl false n t).2 = 0 then (0, 0) else (b - 128 + 128 * (gvl false n t).1, (gvl false n t).2 + 1) := by
  simp only [gvl]
  rw [if_neg h]
theorem impl_rv (s : ByteArray) (d : Nat) : ∀ (i : Nat) (x : Int), 9 - i = d → i ≤ 9 → 0 ≤ x → x < 128 ^ i → Ev (fun k => impl_readVar.l0 k s x i) (rvv i x ((bytesOf s).drop i)) := by
  induction d with
  | zero =>
    intro i x hd hi hx0 hx
    obtain rfl : i = 9 := by omega
    have hr : rvv 9 x ((bytesOf s).drop 9) = (0, 0) := rfl
    rw [hr]
    have hj : Ev (fun k => impl_readVar.j1 k s x ((9 : Nat) : Int) false) (0, 0) := ev_at (fun k => by simp only [impl_readVar.j1]; rw [if_neg (by decide)])
    refine Ev.step (fun k => ?_) hj
    simp only [impl_readVar.l0]
    by_cases h : ((9 : Nat) : Int) < (s.size : Int)
    · rw [if_pos h, decide_eq_false (by decide)]
    · rw [if_neg h]
  | succ d ih =>
    intro i x hd hi hx0 hx
    have hi8 : i ≤ 8 := by omega
    by_cases h : (i : Int) < (s.size : Int)
    · have hb0 := bt_nn s i
      have hb1 := bt_le s i
      have e7 : (0 : Int) ≤ wrap64 (7 * (i : Int)) := by rw [w64 (by omega) (by omega)]; omega
      have e1 : wrap64 ((i : Int) + 1) = (i : Int) + 1 := w64 (by omega) (by omega)
      have hp := pow128_pos i
      have hg : gvl (decide (i = 0)) (9 - i) ((bytesOf s).drop i) = gvl (decide (i = 0)) (d + 1) (bt s i :: (bytesOf s).drop (i + 1)) := congr (congrArg (gvl (decide (i = 0))) hd) (drop_bt s i (by omega))
      by_cases hlow : bt s i < 128
      · have hm : bt s i % 128 = bt s i := by omega
        refine Ev.step (f := fun k => impl_readVar.j1 k s x i true) (fun k => by simp only [impl_readVar.l0]; rw [if_pos h, decide_eq_true (by omega)]) ?_
        by_cases hz : bt s i = 0 ∧ i > 0
        · have hr : rvv i x ((bytesOf s).drop i) = (0, 0) := by
            unfold rvv
            rw [hg, gvl_low _ _ _ _ hlow, if_pos ⟨hz.1, decide_eq_false (by omega)⟩]
            rfl
          rw [hr]
          refine ev_at (fun k => ?_)
          simp only [impl_readVar.j1]
          rw [if_pos trivial, if_pos (by omega), if_pos h, if_pos e7, if_pos hlow, if_pos hz.1, if_pos (by omega)]
        · have hr : rvv i x ((bytesOf s).drop i) = (x + bt s i * 128 ^ i, (i : Int) + 1) := by
            unfold rvv
            rw [hg, gvl_low _ _ _ _ hlow, if_neg (fun hh => hz ⟨hh.1, by have := of_decide_eq_false hh.2; omega⟩)]
            unfold rvp
            rw [if_neg (show ¬ ((1 : Int) = 0) by decide), Int.mul_comm]
          rw [hr]
          refine ev_at (fun k => ?_)
          simp only [impl_readVar.j1]
          rw [if_pos trivial, if_pos (by omega), if_pos h, if_pos e7, if_pos hlow, var_or (bt s i) x i hb0 hb1 hi8 hx0 hx, hm, e1]
          by_cases hz0 : bt s i = 0
          · rw [if_pos hz0, if_neg (by intro h2; exact hz ⟨hz0, by omega⟩)]
          · rw [if_neg hz0]
      · have hm : bt s i % 128 = bt s i - 128 := by omega
        have hx2 : x + (bt s i - 128) * 128 ^ i < 128 ^ (i + 1) := by
          have : (bt s i - 128) * 128 ^ i ≤ 127 * 128 ^ i := Int.mul_le_mul_of_nonneg_right (by omega) (by omega)
          rw [Int.pow_succ]
          omega
        have hx3 : 0 ≤ (bt s i - 128) * 128 ^ i := Int.mul_nonneg (by omega) (by omega)
        have hn := ih (i + 1) (x + (bt s i - 128) * 128 ^ i) (by omega) (by omega) (by omega) hx2
        have hr : rvv i x ((bytesOf s).drop i) = rvv (i + 1) (x + (bt s i - 128) * 128 ^ i) ((bytesOf s).drop (i + 1)) := by
          unfold rvv
          have hd2 : 9 - (i + 1) = d := by omega
          rw [hg, gvl_high _ _ _ _ hlow, hd2, show decide (i + 1 = 0) = false from decide_eq_false (by omega)]
          have hs := (gvl_snd d false ((bytesOf s).drop (i + 1))).1
          generalize gvl false d ((bytesOf s).drop (i + 1)) = r at hs
          unfold rvp
          by_cases hc : r.2 = 0
          · rw [if_pos hc, if_pos rfl, if_pos hc]
          · rw [if_neg hc, if_neg (show ¬ r.2 + 1 = 0 by omega), if_neg hc]
            refine Prod.ext ?_ ?_
            · show x + 128 ^ i * (bt s i - 128 + 128 * r.1) = x + (bt s i - 128) * 128 ^ i + 128 ^ (i + 1) * r.1
              rw [Int.pow_succ, Int.mul_add, Int.mul_comm (bt s i - 128), Int.mul_assoc, Int.add_assoc]
            · show (i : Int) + (r.2 + 1) = ((i + 1 : Nat) : Int) + r.2
              omega
        rw [hr]
        refine Ev.step (f := fun k => impl_readVar.j1 k s x i true) (fun k => by simp only [impl_readVar.l0]; rw [if_pos h, decide_eq_true (by omega)]) ?_
        refine Ev.step (fun k => ?_) hn
        simp only [impl_readVar.j1]
        rw [if_pos trivial, if_pos (by omega), if_pos h, if_pos e7, if_neg hlow, var_or (bt s i) x i hb0 hb1 hi8 hx0 hx, hm, e1, Int.natCast_succ]
    · have hr : rvv i x ((bytesOf s).drop i) = (0, 0) := by
        unfold rvv
        rw [List.drop_eq_nil_of_le (by rw [bytesOf_length]; omega), hd]
        rfl
      rw [hr]
      have hj : Ev (fun k => impl_readVar.j1 k s x i false) (0, 0) := ev_at (fun k => by simp only [impl_readVar.j1]; rw [if_neg (by decide)])
      refine Ev.step (fun k => ?_) hj
      simp only [impl_readVar.l0]
      rw [if_neg h]
theorem gvl_zero (n : Nat) : ∀ (f : Bool) (l : List Int), (gvl f n l).2 = 0 → gvl f n l = (0, 0) := by
  induction n with
  | zero => intro f l _; rfl
  | succ n ih =>
    intro f l h
    cases l with
    | nil => rfl
    | cons b t =>
      by_cases hb : b < 128
      · rw [gvl_low _ _ _ _ hb] at h ⊢
        split at h
        · rename_i h2; rw [if_pos h2]
        · exact absurd (show (1 : Int) = 0 from h) (by decide)
      · rw [gvl_high _ _ _ _ hb] at h ⊢
        have h3 := (gvl_snd n false t).1
        by_cases hc : (gvl false n t).2 = 0
        · rw [if_pos hc]
        · rw [if_neg hc] at h
          have h4 : (gvl false n t).2 + 1 = 0 := h
          omega
theorem impl_var (s : ByteArray) : Ev (fun k => impl_readVar.f k s) (gv (bytesOf s)) := by
  have h := impl_rv s 9 0 0 rfl (by omega) (by decide) (by decide)
  have e : rvv 0 0 ((bytesOf s).drop 0) = gv (bytesOf s) := by
    show rvp 0 0 (gvl true 9 (bytesOf s)) = gvl true 9 (bytesOf s)
    unfold rvp
    by_cases h0 : (gvl true 9 (bytesOf s)).2 = 0
    · rw [if_pos h0, gvl_zero 9 true _ h0]
    · rw [if_neg h0]
      refine Prod.ext ?_ ?_
      · show 0 + 128 ^ 0 * (gvl true 9 (bytesOf s)).1 = _
        rw [Int.pow_zero]; omega
      · show ((0 : Nat) : Int) + (gvl true 9 (bytesOf s)).2 = _
        omega
  rw [e] at h
  exact h
def sc : Nat → List Int → Nat
  | 0, _ => 0
  | _ + 1, [] => 0
  | n + 1, b :: t => if b < 128 then 0 else sc n t + 1
def hv : List Int → Int
  | [] => 0
  | b :: t => b % 128 + 128 * hv t
def dl : Nat → Int → Nat
  | 0, _ => 1
  | n + 1, x => if x < 128 then 1 else dl n (x / 128) + 1
theorem hv_nn (l : List Int) : 0 ≤ hv l := by
  induction l with
  | nil => exact Int.le_refl 0
  | cons b t ih => simp only [hv]; omega
theorem hv_lt (l : List Int) : hv l < 128 ^ l.length := by
  induction l with
  | nil => decide
  | cons b t ih => simp only [hv, List.length_cons, Int.pow_succ]; omega
theorem dl_low (n : Nat) (x : Int) (h : x < 128) : dl n x = 1 := by cases n with
  | zero => rfl
  | succ n => simp only [dl]; rw [if_pos h]
theorem dl_pos (n : Nat) (x : Int) : 1 ≤ dl n x := by cases n with
  | zero => exact Nat.le_refl 1
  | succ n => simp only [dl]; split <;> omega
/-- The scanned number, or none. -/
def vv (f : Bool) (n : Nat) (l : List Int) : Int × Int :=
  if sc n l < l.length ∧ sc n l < n ∧ dl n (hv (l.take (sc n l + 1))) = sc n l + 1 ∧ (f = false → hv (l.take (sc n l + 1)) ≠ 0) then (hv (l.take (sc n l + 1)), (sc n l : Int) + 1) else (0, 0)
theorem gvl_vv (n : Nat) : ∀ (f : Bool) (l : List Int), (∀ x ∈ l, 0 ≤ x ∧ x < 256) → gvl f n l = vv f n l := by
  induction n with
  | zero => intro f l _; unfold vv; rw [if_neg (by omega)]; rfl
  | succ n ih =>
    intro f l hl
    cases l with
    | nil => unfold vv; rw [if_neg (by simp)]; rfl
    | cons b t =>
      have hb := hl b (by simp)
      by_cases hlow : b < 128
      · have e : sc (n + 1) (b :: t) = 0 := by simp only [sc]; rw [if_pos hlow]
        have e2 : hv ((b :: t).take (0 + 1)) = b := by simp [hv]; omega
        rw [gvl_low _ _ _ _ hlow]
        unfold vv
        rw [e, e2, dl_low _ _ hlow]
        by_cases hz : b = 0 ∧ f = false
        · rw [if_pos hz, if_neg (fun h => h.2.2.2 hz.2 hz.1)]
        · rw [if_neg hz, if_pos ⟨by simp, by omega, rfl, fun h h2 => hz ⟨h2, h⟩⟩]
          rfl
      · have e : sc (n + 1) (b :: t) = sc n t + 1 := by simp only [sc]; rw [if_neg hlow]
        rw [gvl_high _ _ _ _ hlow, ih false t (fun x hx => hl x (by simp [hx]))]
        unfold vv
        rw [e]
        have e2 : hv ((b :: t).take (sc n t + 1 + 1)) = b - 128 + 128 * hv (t.take (sc n t + 1)) := by simp only [List.take_succ_cons, hv]; omega
        rw [e2]
        have hn := hv_nn (t.take (sc n t + 1))
        generalize hv (t.take (sc n t + 1)) = M at hn
        generalize sc n t = c
        have e3 : (b :: t).length = t.length + 1 := rfl
        by_cases hc : c < t.length ∧ c < n ∧ dl n M = c + 1 ∧ (false = false → M ≠ 0)
        · have hM := hc.2.2.2 rfl
          have ed : dl (n + 1) (b - 128 + 128 * M) = c + 1 + 1 := by
            simp only [dl]
            rw [if_neg (by omega), show (b - 128 + 128 * M) / 128 = M by omega, hc.2.2.1]
          rw [if_pos hc, if_neg (show ¬ (c : Int) + 1 = 0 by omega), if_pos ⟨by omega, by omega, ed, fun _ => by omega⟩]
          rfl
        · rw [if_neg hc, if_pos rfl, if_neg]
          rintro ⟨h1, h2, h3, h4⟩
          by_cases hM : M = 0
          · rw [dl_low _ _ (by omega)] at h3
            omega
          · have ed : dl (n + 1) (b - 128 + 128 * M) = dl n M + 1 := by
              simp only [dl]
              rw [if_neg (by omega), show (b - 128 + 128 * M) / 128 = M by omega]
            exact hc ⟨by omega, by omega, by omega, fun _ => hM⟩
theorem putvar (n : Nat) : ∀ (x : Int) (acc : List Int), 0 ≤ x → x < 128 ^ (n + 1) → x < 9223372036854775808 → acc.length + n < 1000 → ∃ r : List Int, r.length = acc.length + dl n x ∧ Ev (fun k => spec_PutVar.l0 k x acc) r := by
  induction n with
  | zero =>
    intro x acc h0 h1 _ ha
    have h1' : x < 128 := by simpa using h1
    exact ⟨acc ++ [x % 256], by simp [dl], ev_at (fun k => by simp only [spec_PutVar.l0]; rw [if_neg (by omega), if_pos (by omega)])⟩
  | succ n ih =>
    intro x acc h0 h1 h9 ha
    by_cases hlow : x < 128
    · exact ⟨acc ++ [x % 256], by rw [dl_low _ _ hlow]; simp, ev_at (fun k => by simp only [spec_PutVar.l0]; rw [if_neg (by omega), if_pos (by omega)])⟩
    · have hx : x / 128 < 128 ^ (n + 1) := by rw [Int.pow_succ] at h1; omega
      obtain ⟨r, hr, he⟩ := ih (x / 128) (acc ++ [(128 + x % 128) % 256]) (by omega) hx (by omega) (by simp; omega)
      refine ⟨r, ?_, Ev.step (fun k => ?_) he⟩
      · simp only [dl]; rw [if_neg hlow, hr]; simp; omega
      · simp only [spec_PutVar.l0]
        rw [if_pos (by omega), if_pos (by omega), Int.tdiv_eq_ediv_of_nonneg h0, Int.tmod_eq_emod_of_nonneg h0, w64 (x := x / 128) (by omega) (by omega), w64 (x := 128 + x % 128) (by omega) (by omega)]
theorem spec_horner (l : List Int) (hl : ∀ x ∈ l, 0 ≤ x ∧ x < 256) (n : Nat) (hn : n < l.length) (h9 : n < 9) (r : Int × Int) (hr : Ev (fun k => spec_GetVar.l1 k l n (hv (l.take (n + 1))) (-1)) r) :
    ∀ i : Nat, i ≤ n + 1 → Ev (fun k => spec_GetVar.l1 k l n (hv ((l.take (n + 1)).drop i)) ((i : Int) - 1)) r := by
  intro i
  induction i with
  | zero => intro _; simpa using hr
  | succ i ih =>
    intro hi
    refine Ev.step (fun k => ?_) (ih (by omega))
    have hil : i < l.length := by omega
    have hlen : (l.take (n + 1)).length = n + 1 := by simp; omega
    have hg : (l.take (n + 1)).drop i = l[i] :: (l.take (n + 1)).drop (i + 1) := by
      rw [List.drop_eq_getElem_cons (by omega)]
      simp
    have hx := hl l[i] (List.getElem_mem hil)
    have hrd : rd l (((i + 1 : Nat) : Int) - 1) = l[i] := by rw [show ((i + 1 : Nat) : Int) - 1 = (i : Int) by omega]; simp [rd, hil]
    have hM0 := hv_nn ((l.take (n + 1)).drop (i + 1))
    have hM1 := hv_lt ((l.take (n + 1)).drop (i + 1))
    have hM2 : (128 : Int) ^ ((l.take (n + 1)).drop (i + 1)).length ≤ 128 ^ 8 := pow128_le (by simp; omega)
    have h8 : (128 : Int) ^ 8 = 72057594037927936 := by decide
    rw [hg]
    generalize (l.take (n + 1)).drop (i + 1) = m at hM0 hM1 hM2
    have eM : hv (l[i] :: m) = hv m * 128 + l[i] % 128 := by simp only [hv]; omega
    have hML : hv m < 72057594037927936 := by omega
    clear hM1 hM2 h8 hr ih
    rw [eM]
    simp only [spec_GetVar.l1]
    rw [if_pos (by omega), if_pos (by omega), if_pos (by omega), hrd, w64 (x := l[i]) (by omega) (by omega), Int.tmod_eq_emod_of_nonneg hx.1, w64 (x := hv m * 128) (by omega) (by omega), w64 (x := hv m * 128 + l[i] % 128) (by omega) (by omega), w64 (x := ((i + 1 : Nat) : Int) - 1 - 1) (by omega) (by omega)]
    rw [show ((i + 1 : Nat) : Int) - 1 - 1 = (i : Int) - 1 by omega]
theorem sc_le (n : Nat) : ∀ l, sc n l ≤ n ∧ sc n l ≤ l.length := by
  induction n with
  | zero => intro l; simp [sc]
  | succ n ih =>
    intro l
    cases l with
    | nil => simp [sc]
    | cons b t =>
      have := ih t
      simp only [sc, List.length_cons]
      split <;> omega
theorem spec_j1 (l : List Int) (hl : ∀ x ∈ l, 0 ≤ x ∧ x < 256) : Ev (fun k => spec_GetVar.j1 k l ((sc 9 l : Nat) : Int)) (vv true 9 l) := by
  have hs := sc_le 9 l
  unfold vv
  generalize sc 9 l = n at hs
  by_cases h1 : n < l.length ∧ n < 9
  · have hhl := hv_lt (l.take (n + 1))
    have hh0 := hv_nn (l.take (n + 1))
    have hp : (128 : Int) ^ (l.take (n + 1)).length ≤ 128 ^ 9 := pow128_le (by simp; omega)
    have h9 : (128 : Int) ^ 9 = 9223372036854775808 := by decide
    have hlt : hv (l.take (n + 1)) < 9223372036854775808 := by omega
    have h10 : hv (l.take (n + 1)) < 128 ^ (9 + 1) := by rw [show (128 : Int) ^ (9 + 1) = 1180591620717411303424 by decide]; omega
    clear hhl hp h9
    obtain ⟨bs, hbl, hbe⟩ := putvar 9 (hv (l.take (n + 1))) [] hh0 h10 hlt (by simp)
    simp only [List.length_nil, Nat.zero_add] at hbl
    have hput : Ev (fun k => spec_PutVar.f k (hv (l.take (n + 1)))) bs := Ev.congr (fun k => by simp only [spec_PutVar.f, Option.bind_some]; rw [if_neg (by omega)]) hbe
    have hgoal : ∀ r : Int × Int, r = (if dl 9 (hv (l.take (n + 1))) = n + 1 then (hv (l.take (n + 1)), (n : Int) + 1) else (0, 0)) → Ev (fun k => spec_GetVar.l1 k l n (hv (l.take (n + 1))) (-1)) r := by
      intro r hr
      refine Ev.step (f := fun k => (spec_PutVar.f k (hv (l.take (n + 1)))).bind fun t => if (t.length : Int) = wrap64 ((n : Int) + 1) then some (hv (l.take (n + 1)), wrap64 ((n : Int) + 1)) else some (0, 0)) (fun k => by simp only [spec_GetVar.l1]; rw [if_neg (by decide)]) (Ev.bind hput (ev_ret (fun k => ?_)))
      rw [w64 (x := (n : Int) + 1) (by omega) (by omega), hbl, hr]
      by_cases hd : dl 9 (hv (l.take (n + 1))) = n + 1
      · rw [if_pos hd, if_pos (by omega)]
      · rw [if_neg hd, if_neg (by omega)]
    have hgo := spec_horner l hl n h1.1 h1.2 _ (hgoal _ rfl) (n + 1) (Nat.le_refl _)
    have e0 : (l.take (n + 1)).drop (n + 1) = [] := List.drop_eq_nil_of_le (by simp; omega)
    rw [e0] at hgo
    have er : (if n < l.length ∧ n < 9 ∧ dl 9 (hv (l.take (n + 1))) = n + 1 ∧ (true = false → hv (l.take (n + 1)) ≠ 0) then (hv (l.take (n + 1)), (n : Int) + 1) else ((0 : Int), (0 : Int))) = (if dl 9 (hv (l.take (n + 1))) = n + 1 then (hv (l.take (n + 1)), (n : Int) + 1) else (0, 0)) := by
      by_cases hd : dl 9 (hv (l.take (n + 1))) = n + 1
      · rw [if_pos hd, if_pos ⟨h1.1, h1.2, hd, fun h => by cases h⟩]
      · rw [if_neg hd, if_neg (fun h => hd h.2.2.1)]
    rw [er]
    have e1 : ((n + 1 : Nat) : Int) - 1 = (n : Int) := by omega
    rw [e1] at hgo
    have hj2 : Ev (fun k => spec_GetVar.j2 k l n false) (if dl 9 (hv (l.take (n + 1))) = n + 1 then (hv (l.take (n + 1)), (n : Int) + 1) else (0, 0)) := Ev.step (fun k => by simp only [spec_GetVar.j2]; rw [if_neg (by decide)]; rfl) hgo
    exact Ev.step (fun k => by simp only [spec_GetVar.j1]; rw [if_neg (by omega), decide_eq_false (by omega)]) hj2
  · rw [if_neg (fun h => h1 ⟨h.1, h.2.1⟩)]
    have hj2 : Ev (fun k => spec_GetVar.j2 k l n true) (0, 0) := ev_at (fun k => by simp only [spec_GetVar.j2]; rw [if_pos trivial])
    refine Ev.step (fun k => ?_) hj2
    simp only [spec_GetVar.j1]
    by_cases h2 : n < l.length
    · rw [if_neg (by omega), decide_eq_true (by omega)]
    · rw [if_pos (by omega)]
theorem spec_scan (l : List Int) (r : Int × Int) (d : Nat) : ∀ i : Nat, 9 - i = d → i ≤ 9 → Ev (fun k => spec_GetVar.j1 k l ((i + sc d (l.drop i) : Nat) : Int)) r → Ev (fun k => spec_GetVar.l0 k l i) r := by
  induction d with
  | zero =>
    intro i hd hi hr
    simp only [sc, Nat.add_zero] at hr
    refine Ev.step (fun k => ?_) hr
    simp only [spec_GetVar.l0]
    by_cases h : (i : Int) < (l.length : Int)
    · rw [if_pos h, if_neg (by omega)]
    · rw [if_neg h]
  | succ d ih =>
    intro i hd hi hr
    by_cases h : (i : Int) < (l.length : Int)
    · have hil : i < l.length := by omega
      have hrd : rd l (i : Int) = l[i] := by simp [rd, hil]
      rw [List.drop_eq_getElem_cons hil] at hr
      by_cases hlow : l[i] < 128
      · simp only [sc] at hr
        rw [if_pos hlow, Nat.add_zero] at hr
        refine Ev.step (fun k => ?_) hr
        simp only [spec_GetVar.l0]
        rw [if_pos h, if_pos (by omega), if_pos (by omega), hrd, if_neg (by omega)]
      · simp only [sc] at hr
        rw [if_neg hlow, show i + (sc d (l.drop (i + 1)) + 1) = i + 1 + sc d (l.drop (i + 1)) by omega] at hr
        refine Ev.step (fun k => ?_) (ih (i + 1) (by omega) (by omega) hr)
        simp only [spec_GetVar.l0]
        rw [if_pos h, if_pos (by omega), if_pos (by omega), hrd, if_pos (by omega), w64 (by omega) (by omega)]
        rfl
    · rw [List.drop_eq_nil_of_le (by omega)] at hr
      simp only [sc, Nat.add_zero] at hr
      refine Ev.step (fun k => ?_) hr
      simp only [spec_GetVar.l0]
      rw [if_neg h]
theorem spec_var (l : List Int) (hl : ∀ x ∈ l, 0 ≤ x ∧ x < 256) : Ev (fun k => spec_GetVar.f k l) (gv l) := by
  unfold gv
  rw [gvl_vv 9 true l hl]
  refine spec_scan l _ 9 0 rfl (by omega) ?_
  simpa using spec_j1 l hl
theorem gv_nn (l : List Int) (hl : ∀ x ∈ l, 0 ≤ x ∧ x < 256) : 0 ≤ (gv l).1 := by
  unfold gv
  rw [gvl_vv 9 true l hl]
  unfold vv
  split
  · exact hv_nn _
  · exact Int.le_refl 0
theorem bytesOf_byte (s : ByteArray) : ∀ x ∈ bytesOf s, 0 ≤ x ∧ x < 256 := by
  intro x hx
  simp only [bytesOf, List.mem_map] at hx
  obtain ⟨b, _, rfl⟩ := hx
  have := b.toNat_lt
  omega
theorem gv_bound (s : ByteArray) : 0 ≤ (gv (bytesOf s)).2 ∧ (gv (bytesOf s)).2 ≤ s.size := by
  have h := gvl_snd 9 true (bytesOf s)
  rw [bytesOf_length] at h
  exact ⟨h.1, h.2.2⟩
theorem gv_lt (s : ByteArray) : 0 ≤ (gv (bytesOf s)).1 ∧ (gv (bytesOf s)).1 ≤ 9223372036854775807 := by
  refine ⟨gv_nn _ (bytesOf_byte s), ?_⟩
  unfold gv
  rw [gvl_vv 9 true _ (bytesOf_byte s)]
  unfold vv
  split
  · rename_i h
    have h1 := hv_lt ((bytesOf s).take (sc 9 (bytesOf s) + 1))
    have h2 : (128 : Int) ^ ((bytesOf s).take (sc 9 (bytesOf s) + 1)).length ≤ 128 ^ 9 := pow128_le (by simp; omega)
    have h9 : (128 : Int) ^ 9 = 9223372036854775808 := by decide
    show hv ((bytesOf s).take (sc 9 (bytesOf s) + 1)) ≤ _
    omega
  · exact Int.zero_le_ofNat _
theorem bytesOf_sub (s : ByteArray) (a b : Nat) : bytesOf (s.extract a b) = ((bytesOf s).drop a).take (b - a) := by
  simp only [bytesOf, ByteArray.data_extract, Array.toList_extract, List.extract_eq_take_drop, List.map_take, List.map_drop]
theorem bytesOf_drop (s : ByteArray) (n : Nat) : (bytesOf s).drop n = bytesOf (s.extract n s.size) := by
  rw [bytesOf_sub, List.take_of_length_le (by rw [List.length_drop, bytesOf_length]; exact Nat.le_refl _)]
theorem bytesOf_take (s : ByteArray) (n : Nat) : (bytesOf s).take n = bytesOf (s.extract 0 n) := by
  rw [bytesOf_sub, List.drop_zero, Nat.sub_zero]
theorem take_ok (s : ByteArray) (n : Int) (h0 : 0 ≤ n) (h1 : n ≤ s.size) : impl_reader_take.f s false n = some (s.extract 0 n.toNat, s.extract n.toNat s.size, false) := by
  unfold impl_reader_take.f
  rw [if_neg (by decide), if_neg (by omega), if_pos h0, if_pos h1]
theorem take_short (s : ByteArray) (n : Int) (h1 : n > s.size) : impl_reader_take.f s false n = some (⟨#[]⟩, s, true) := by
  unfold impl_reader_take.f
  rw [if_neg (by decide), if_pos h1]
theorem take_bad (s : ByteArray) (n : Int) : impl_reader_take.f s true n = some (⟨#[]⟩, s, true) := by
  unfold impl_reader_take.f
  rw [if_pos rfl]
theorem number_bad (s : ByteArray) : ∃ x s', Ev (fun k => impl_reader_number.f k s true) (x, s', true) := by
  refine ⟨(gv (bytesOf s)).1, s, ?_⟩
  unfold impl_reader_number.f
  refine Ev.bind (impl_var s) (ev_ret (fun k => ?_))
  simp only [take_bad, Option.bind_some]
  split <;> rfl
theorem number_none (s : ByteArray) (h : (gv (bytesOf s)).2 = 0) : ∃ x s', Ev (fun k => impl_reader_number.f k s false) (x, s', true) := by
  refine ⟨(gv (bytesOf s)).1, s, ?_⟩
  unfold impl_reader_number.f
  refine Ev.bind (impl_var s) (ev_ret (fun k => ?_))
  rw [if_pos h]
  simp only [take_bad, Option.bind_some]
theorem number_some (s : ByteArray) (h : (gv (bytesOf s)).2 ≠ 0) : Ev (fun k => impl_reader_number.f k s false) ((gv (bytesOf s)).1, s.extract (gv (bytesOf s)).2.toNat s.size, false) := by
  have hb := gv_bound s
  unfold impl_reader_number.f
  refine Ev.bind (impl_var s) (ev_ret (fun k => ?_))
  rw [if_neg h, take_ok _ _ hb.1 hb.2]
  rfl
theorem bytesOf_push (s : ByteArray) (x : Int) (h0 : 0 ≤ x) (h1 : x < 256) : bytesOf (s.push (UInt8.ofNat x.toNat)) = bytesOf s ++ [x] := by
  simp only [bytesOf, ByteArray.data_push, Array.toList_push, List.map_append, List.map_cons, List.map_nil]
  congr 2
  simp
  omega
def vtl : Nat → Int → List Int
  | 0, x => [x % 256]
  | n + 1, x => if x > 127 then (x % 128 + 128) :: vtl n (x / 128) else [x % 256]
theorem vt_bytes (n : Nat) : ∀ (x : Int) (acc : ByteArray), 0 ≤ x → bytesOf (impl_varText.vt n x acc) = bytesOf acc ++ vtl n x := by
  induction n with
  | zero => intro x acc h0; simp only [impl_varText.vt, vtl]; exact bytesOf_push _ _ (by omega) (by omega)
  | succ n ih =>
    intro x acc h0
    simp only [impl_varText.vt, vtl]
    by_cases h : x > 127
    · rw [if_pos h, if_pos h, ih _ _ (by omega), bytesOf_push _ _ (by omega) (by omega), List.append_assoc]
      rfl
    · rw [if_neg h, if_neg h]
      exact bytesOf_push _ _ (by omega) (by omega)
theorem vtl_len (n : Nat) : ∀ x : Int, (vtl n x).length ≤ n + 1 := by
  induction n with
  | zero => intro x; simp [vtl]
  | succ n ih =>
    intro x
    simp only [vtl]
    split
    · have := ih (x / 128); simp; omega
    · simp
theorem gvl_pos (n : Nat) : ∀ l : List Int, (∀ x ∈ l, 0 ≤ x ∧ x < 256) → (gvl false n l).2 ≠ 0 → 0 < (gvl false n l).1 := by
  induction n with
  | zero => intro l _ h; exact absurd rfl h
  | succ n ih =>
    intro l hl h
    cases l with
    | nil => exact absurd rfl h
    | cons b t =>
      have hb := hl b (by simp)
      by_cases hlow : b < 128
      · rw [gvl_low _ _ _ _ hlow] at h ⊢
        by_cases hz : b = 0 ∧ false = false
        · rw [if_pos hz] at h; exact absurd rfl h
        · rw [if_neg hz]
          have : b ≠ 0 := fun h2 => hz ⟨h2, rfl⟩
          show 0 < b
          omega
      · rw [gvl_high _ _ _ _ hlow] at h ⊢
        by_cases hc : (gvl false n t).2 = 0
        · rw [if_pos hc] at h; exact absurd rfl h
        · rw [if_neg hc]
          have := ih t (fun x hx => hl x (by simp [hx])) hc
          show 0 < b - 128 + 128 * (gvl false n t).1
          omega
theorem gvl_vtl (n : Nat) : ∀ (f : Bool) (m : Nat) (l : List Int), n ≤ m → (∀ x ∈ l, 0 ≤ x ∧ x < 256) → (gvl f n l).2 ≠ 0 → vtl m (gvl f n l).1 = l.take (gvl f n l).2.toNat := by
  induction n with
  | zero => intro f m l _ _ h; exact absurd rfl h
  | succ n ih =>
    intro f m l hm hl h
    obtain ⟨m, rfl⟩ : ∃ j, m = j + 1 := ⟨m - 1, by omega⟩
    cases l with
    | nil => exact absurd rfl h
    | cons b t =>
      have hb := hl b (by simp)
      by_cases hlow : b < 128
      · rw [gvl_low _ _ _ _ hlow] at h ⊢
        by_cases hz : b = 0 ∧ f = false
        · rw [if_pos hz] at h; exact absurd rfl h
        · rw [if_neg hz]
          simp only [vtl]
          rw [if_neg (by omega), show b % 256 = b by omega]
          rfl
      · rw [gvl_high _ _ _ _ hlow] at h ⊢
        by_cases hc : (gvl false n t).2 = 0
        · rw [if_pos hc] at h; exact absurd rfl h
        · rw [if_neg hc]
          have hl2 : ∀ x ∈ t, 0 ≤ x ∧ x < 256 := fun x hx => hl x (by simp [hx])
          have hp := gvl_pos n t hl2 hc
          have hi := ih false m t (by omega) hl2 hc
          have hn := (gvl_snd n false t).1
          simp only [vtl]
          rw [if_pos (by omega), show (b - 128 + 128 * (gvl false n t).1) % 128 + 128 = b by omega, show (b - 128 + 128 * (gvl false n t).1) / 128 = (gvl false n t).1 by omega, hi]
          rw [show ((gvl false n t).2 + 1).toNat = (gvl false n t).2.toNat + 1 by omega, List.take_succ_cons]
def vl (x : Int) : List Int := vtl 10 x
theorem vl_len (x : Int) : (vl x).length ≤ 11 := vtl_len 10 x
theorem gv_bytes (s : ByteArray) (h : (gv (bytesOf s)).2 ≠ 0) : bytesOf s = vl (gv (bytesOf s)).1 ++ bytesOf (s.extract (gv (bytesOf s)).2.toNat s.size) := by
  unfold vl gv at *
  rw [gvl_vtl 9 true 10 _ (by decide) (bytesOf_byte s) h, ← bytesOf_drop, List.take_append_drop]
theorem varText_ok (x : Int) (h0 : 0 ≤ x) (h1 : x ≤ 9223372036854775807) : ∃ v, impl_varText.f x = some v ∧ bytesOf v = vl x ∧ v.size ≤ 11 := by
  refine ⟨impl_varText.vt 10 x ⟨#[]⟩, by unfold impl_varText.f; rw [if_pos h1], ?_, ?_⟩
  · rw [vt_bytes 10 x _ h0]; rfl
  · rw [← bytesOf_length, vt_bytes 10 x _ h0]
    exact vl_len x
/-- A right token. -/
def tokok (t : S121) : Prop := (t.f0 = 0 ∧ 1 ≤ t.f1.size ∧ t.f1.size ≤ 100 ∧ t.f2 = 0 ∧ t.f3 = 0) ∨ (t.f0 = 1 ∧ t.f1.size = 0 ∧ 0 ≤ t.f2 ∧ t.f2 ≤ 1000000 ∧ 1 ≤ t.f3 ∧ t.f3 ≤ 1000000)
instance (t : S121) : Decidable (tokok t) := by unfold tokok; infer_instance
def txl (t : S121) : List Int := if t.f0 = 0 then vl (2 * (t.f1.size : Int)) ++ bytesOf t.f1 else vl (2 * t.f3 + 1) ++ vl t.f2
theorem one_ok (t : S121) : impl_tokensText_1.f t.f0 t.f1 t.f2 t.f3 = some (decide (¬ tokok t)) := by
  unfold impl_tokensText_1.f impl_TokenOk.f impl_within.f tokok
  by_cases h0 : t.f0 = 0
  · rw [if_pos h0]
    by_cases h1 : 1 ≤ (t.f1.size : Int)
    · rw [if_pos h1]
      simp only [Option.bind_some]
      by_cases h2 : (t.f1.size : Int) ≤ 100
      · rw [if_pos (decide_eq_true h2)]
        by_cases h3 : t.f2 = 0
        · rw [if_pos h3]
          simp only [Option.bind_some]
          by_cases h4 : t.f3 = 0
          · rw [if_pos (by rw [h4]; rfl), if_neg (by omega), decide_eq_false (by omega), decide_eq_false (by omega)]
          · rw [if_neg (by simpa using h4), decide_eq_true (by omega)]
        · rw [if_neg h3]
          simp only [Option.bind_some]
          rw [if_neg (by decide), decide_eq_true (by omega)]
      · rw [if_neg (by simpa using h2)]
        simp only [Option.bind_some]
        rw [if_neg (by decide), decide_eq_true (by omega)]
    · rw [if_neg h1]
      simp only [Option.bind_some]
      rw [if_neg (by decide)]
      simp only [Option.bind_some]
      rw [if_neg (by decide), decide_eq_true (by omega)]
  · rw [if_neg h0]
    by_cases h1 : t.f0 = 1
    · rw [if_pos h1]
      by_cases h2 : t.f1.size = 0
      · rw [if_pos ((emp_iff _).2 h2)]
        by_cases h3 : 0 ≤ t.f2
        · rw [if_pos h3]
          simp only [Option.bind_some]
          by_cases h4 : 1 ≤ t.f3
          · rw [if_pos (decide_eq_true h4)]
            by_cases h5 : t.f3 > 1000000
            · rw [if_pos h5, decide_eq_true (by omega)]
            · rw [if_neg h5]
              by_cases h6 : t.f2 > 1000000
              · rw [decide_eq_true h6, decide_eq_true (by omega)]
              · rw [decide_eq_false h6, decide_eq_false (by omega)]
          · rw [if_neg (by simpa using h4), decide_eq_true (by omega)]
        · rw [if_neg h3]
          simp only [Option.bind_some]
          rw [if_neg (by decide), decide_eq_true (by omega)]
      · rw [if_neg (fun h => h2 ((emp_iff _).1 h))]
        simp only [Option.bind_some]
        rw [if_neg (by decide), decide_eq_true (by omega)]
    · rw [if_neg h1]
      simp only [Option.bind_some]
      rw [if_neg (by decide), decide_eq_true (by omega)]
theorem tok_any (l : List S121) : ∀ i : Int, 0 ≤ i → ∃ r : Int, impl_Token_124.go l i = some r ∧ (0 ≤ r ↔ ¬ ∀ x ∈ l, tokok x) := by
  induction l with
  | nil => intro i hi; exact ⟨-1, rfl, by simp⟩
  | cons x t ih =>
    intro i hi
    by_cases hx : tokok x
    · obtain ⟨r, hr, hr2⟩ := ih (i + 1) (by omega)
      refine ⟨r, ?_, ?_⟩
      · simp only [impl_Token_124.go, one_ok, Option.bind_some]
        rw [if_neg (by simpa using hx), hr]
      · rw [hr2]; simp [hx]
    · refine ⟨i, ?_, ?_⟩
      · simp only [impl_Token_124.go, one_ok, Option.bind_some]
        rw [if_pos (by simpa using hx)]
      · simp [hx, hi]
theorem tok_contains (l : List S121) : impl_Token_118.f l () = some (decide (¬ ∀ x ∈ l, tokok x)) := by
  obtain ⟨r, hr, hr2⟩ := tok_any l 0 (by decide)
  unfold impl_Token_118.f impl_Token_124.f
  rw [hr]
  simp only [Option.bind_some]
  by_cases h : 0 ≤ r
  · rw [decide_eq_true h, decide_eq_true (hr2.1 h)]
  · rw [decide_eq_false h, decide_eq_false (fun h' => h (hr2.2 h'))]
theorem tx_ok (t : S121) (h : tokok t) : ∃ s, impl_tokensText.tx t = some s ∧ bytesOf s = txl t ∧ s.size ≤ 120 ∧ t.f1.size ≤ 100 := by
  unfold impl_tokensText.tx txl
  rcases h with ⟨h0, h1, h2, h3, h4⟩ | ⟨h0, h1, h2, h3, h4, h5⟩
  · rw [if_pos h0, if_pos h0, w64 (by omega) (by omega)]
    obtain ⟨v, hv, hb, hs⟩ := varText_ok (2 * (t.f1.size : Int)) (by omega) (by omega)
    rw [hv]
    exact ⟨v ++ t.f1, rfl, by rw [bytesOf_append, hb], by rw [ByteArray.size_append]; omega, h2⟩
  · rw [if_neg (by omega), if_neg (by omega), w64 (x := 2 * t.f3) (by omega) (by omega), w64 (by omega) (by omega)]
    obtain ⟨v, hv, hb, hs⟩ := varText_ok (2 * t.f3 + 1) (by omega) (by omega)
    obtain ⟨u, hu, hc, hs2⟩ := varText_ok t.f2 (by omega) (by omega)
    rw [hv, hu]
    exact ⟨v ++ u, rfl, by rw [bytesOf_append, hb, hc], by rw [ByteArray.size_append]; omega, by omega⟩
def txs (l : List S121) : List Int := (l.map txl).flatten
theorem txs_append (a b : List S121) : txs (a ++ b) = txs a ++ txs b := by simp [txs]
theorem txs_one (x : S121) : txs [x] = txl x := by simp [txs]
theorem go_ok (l : List S121) : ∀ acc : ByteArray, (∀ x ∈ l, tokok x) → acc.size + 120 * l.length ≤ 10000000 → ∃ r, impl_tokensText.go l acc = some r ∧ bytesOf r = bytesOf acc ++ txs l ∧ r.size ≤ acc.size + 120 * l.length := by
  induction l with
  | nil => intro acc _ _; exact ⟨acc, rfl, by simp [txs], by simp⟩
  | cons x t ih =>
    intro acc hx hs
    simp only [List.length_cons] at hs
    obtain ⟨s, h1, h2, h3, h4⟩ := tx_ok x (hx x (by simp))
    obtain ⟨r, hr, hb, hsz⟩ := ih (acc ++ s) (fun y hy => hx y (by simp [hy])) (by rw [ByteArray.size_append]; omega)
    rw [ByteArray.size_append] at hsz
    refine ⟨r, ?_, ?_, ?_⟩
    · simp only [impl_tokensText.go]
      rw [h1]
      simp only [Option.bind_some]
      rw [if_pos ⟨by omega, by omega⟩, hr]
    · rw [hb, bytesOf_append, h2, show x :: t = [x] ++ t from rfl, txs_append, txs_one, List.append_assoc]
    · simp only [List.length_cons]; omega
theorem text_ok (l : List S121) (hl : l.length ≤ 20000) (h : ∀ x ∈ l, tokok x) : ∃ r, impl_tokensText.f l = some (r, true) ∧ bytesOf r = txs l ++ [0] := by
  obtain ⟨r, hr, hb, hs⟩ := go_ok l ⟨#[]⟩ h (by show 0 + _ ≤ _; omega)
  have hs2 : r.size ≤ 0 + 120 * l.length := hs
  refine ⟨r.push (UInt8.ofNat (0 : Int).toNat), ?_, ?_⟩
  · unfold impl_tokensText.f
    rw [if_neg (by omega), tok_contains]
    simp only [Option.bind_some]
    rw [if_neg (by simpa using h), hr]
    simp only [Option.bind_some]
    rw [if_pos (by omega)]
  · rw [bytesOf_push _ 0 (by decide) (by decide), hb]
    rfl
theorem text_bad (l : List S121) (h : ¬ ∀ x ∈ l, tokok x) : impl_tokensText.f l = some (⟨#[]⟩, false) := by
  unfold impl_tokensText.f
  by_cases hl : 20000 < l.length
  · rw [if_pos hl]
  · rw [if_neg hl, tok_contains, decide_eq_true h]
    rfl
theorem text_some (l : List S121) : ∃ r, impl_tokensText.f l = some r := by
  by_cases hl : 20000 < l.length
  · exact ⟨_, by unfold impl_tokensText.f; rw [if_pos hl]⟩
  by_cases h : ∀ x ∈ l, tokok x
  · obtain ⟨r, hr, _⟩ := text_ok l (by omega) h
    exact ⟨_, hr⟩
  · exact ⟨_, text_bad l h⟩
abbrev TR := List S121 × Bool
def tr0 : TR := ([], false)
/-- What the bytes of tokens say. -/
def rtk : Nat → ByteArray → List S121 → TR
  | 0, _, _ => tr0
  | n + 1, s, acc =>
    if (gv (bytesOf s)).2 = 0 then tr0 else
    if (gv (bytesOf s)).1 = 0 then (if (s.extract (gv (bytesOf s)).2.toNat s.size).size = 0 ∧ acc.length ≤ 20000 then (acc, true) else tr0) else
    if (gv (bytesOf s)).1 % 2 = 0 then
      (if (gv (bytesOf s)).1 / 2 > ((s.extract (gv (bytesOf s)).2.toNat s.size).size : Int) ∨ (gv (bytesOf s)).1 / 2 > 100 then tr0
       else rtk n ((s.extract (gv (bytesOf s)).2.toNat s.size).extract ((gv (bytesOf s)).1 / 2).toNat (s.extract (gv (bytesOf s)).2.toNat s.size).size) (acc ++ [⟨0, (s.extract (gv (bytesOf s)).2.toNat s.size).extract 0 ((gv (bytesOf s)).1 / 2).toNat, 0, 0⟩]))
    else
      (if (gv (bytesOf (s.extract (gv (bytesOf s)).2.toNat s.size))).2 = 0 then tr0 else
       if (gv (bytesOf (s.extract (gv (bytesOf s)).2.toNat s.size))).1 > 1000000 ∨ (gv (bytesOf s)).1 / 2 > 1000000 ∨ (gv (bytesOf s)).1 / 2 < 1 then tr0
       else rtk n ((s.extract (gv (bytesOf s)).2.toNat s.size).extract (gv (bytesOf (s.extract (gv (bytesOf s)).2.toNat s.size))).2.toNat (s.extract (gv (bytesOf s)).2.toNat s.size).size) (acc ++ [⟨1, ⟨#[]⟩, (gv (bytesOf (s.extract (gv (bytesOf s)).2.toNat s.size))).1, (gv (bytesOf s)).1 / 2⟩]))
/-- One round, by its parts: v and s1, the first number and what is behind it. -/
theorem rtk_round (n : Nat) (s : ByteArray) (acc : List S121) (v : Int × Int) (s1 : ByteArray) (hv : gv (bytesOf s) = v) (hs1 : s.extract v.2.toNat s.size = s1) : rtk (n + 1) s acc =
    if v.2 = 0 then tr0 else
    if v.1 = 0 then (if s1.size = 0 ∧ acc.length ≤ 20000 then (acc, true) else tr0) else
    if v.1 % 2 = 0 then (if v.1 / 2 > (s1.size : Int) ∨ v.1 / 2 > 100 then tr0 else rtk n (s1.extract (v.1 / 2).toNat s1.size) (acc ++ [⟨0, s1.extract 0 (v.1 / 2).toNat, 0, 0⟩]))
    else (if (gv (bytesOf s1)).2 = 0 then tr0 else if (gv (bytesOf s1)).1 > 1000000 ∨ v.1 / 2 > 1000000 ∨ v.1 / 2 < 1 then tr0
       else rtk n (s1.extract (gv (bytesOf s1)).2.toNat s1.size) (acc ++ [⟨1, ⟨#[]⟩, (gv (bytesOf s1)).1, v.1 / 2⟩])) := by
  subst hs1
  subst hv
  rfl
theorem rtk_long (n : Nat) : ∀ (s : ByteArray) (acc : List S121), 20000 < acc.length → rtk n s acc = tr0 := by
  induction n with
  | zero => intro s acc _; rfl
  | succ n ih =>
    intro s acc h
    rw [rtk_round n s acc _ _ rfl rfl]
    split
    · rfl
    split
    · rw [if_neg (by omega)]
    split
    · split
      · rfl
      · exact ih _ _ (by simp; omega)
    split
    · rfl
    split
    · rfl
    · exact ih _ _ (by simp; omega)
theorem rtk_len (n : Nat) : ∀ (s : ByteArray) (acc : List S121), (rtk n s acc).1.length ≤ 20000 := by
  induction n with
  | zero => intro s acc; exact Nat.zero_le _
  | succ n ih =>
    intro s acc
    rw [rtk_round n s acc _ _ rfl rfl]
    split
    · exact Nat.zero_le _
    split
    · split
      · rename_i h; exact h.2
      · exact Nat.zero_le _
    split
    · split
      · exact Nat.zero_le _
      · exact ih _ _
    split
    · exact Nat.zero_le _
    split
    · exact Nat.zero_le _
    · exact ih _ _
theorem spec_lit (s : ByteArray) : spec_TokenOk.f 0 s 0 0 = some (decide (1 ≤ s.size ∧ s.size ≤ 100)) := by
  unfold spec_TokenOk.f spec_l01In.f
  rw [if_pos rfl]
  by_cases h1 : 1 ≤ (s.size : Int)
  · rw [if_pos h1]
    simp only [Option.bind_some]
    by_cases h2 : (s.size : Int) ≤ 100
    · rw [if_pos (decide_eq_true h2), if_pos trivial, decide_eq_true (by omega)]
      rfl
    · rw [if_neg (by simpa using h2), decide_eq_false (by omega)]
  · rw [if_neg h1]
    simp only [Option.bind_some]
    rw [if_neg (by decide), decide_eq_false (by omega)]
theorem spec_cpy (a b : Int) (h : 0 ≤ a) : spec_TokenOk.f 1 ⟨#[]⟩ a b = some (decide (b ≥ 1)) := by
  unfold spec_TokenOk.f
  rw [if_neg (by decide), if_pos rfl, if_pos ((emp_iff _).2 rfl), if_pos h]
theorem spec_rtk (n : Nat) : ∀ (s : ByteArray) (acc : List S121), s.size < n → acc.length + n ≤ 3518437208000 → s.size ≤ 1000000000 → Ev (fun k => spec_GetTokens.l0 k (bytesOf s) acc) (rtk n s acc) := by
  induction n with
  | zero => intro s acc h _ _; omega
  | succ n ih =>
    intro s acc hs ha hbig
    have hb := gv_bound s
    have hv := spec_var (bytesOf s) (bytesOf_byte s)
    have hl := gv_lt s
    obtain ⟨s1, hs1⟩ : ∃ s1, s.extract (gv (bytesOf s)).2.toNat s.size = s1 := ⟨_, rfl⟩
    rw [rtk_round n s acc _ s1 rfl hs1]
    have hdr : (bytesOf s).drop (gv (bytesOf s)).2.toNat = bytesOf s1 := by rw [bytesOf_drop, hs1]
    have hsz1 : s1.size = s.size - (gv (bytesOf s)).2.toNat := by rw [← hs1]; simp
    clear hs1
    generalize gv (bytesOf s) = v at hb hv hl hdr hsz1
    have hlen : ((bytesOf s).length : Int) = s.size := by rw [bytesOf_length]
    refine Ev.step (fun k => by simp only [spec_GetTokens.l0]; rfl) (Ev.bind hv ?_)
    by_cases h0 : v.2 = 0
    · rw [if_pos h0]
      exact ev_ret (fun k => by rw [if_pos h0]; rfl)
    rw [if_neg h0]
    refine Ev.congr (fun k => by rw [if_neg h0, if_pos hb.1, if_pos (by omega), hdr, Option.bind_some]) ?_
    by_cases h1 : v.1 = 0
    · rw [if_pos h1]
      refine ev_ret (fun k => ?_)
      rw [if_pos h1, bytesOf_length]
      by_cases h2 : s1.size = 0
      · rw [if_pos (by omega)]
        by_cases h3 : acc.length ≤ 20000
        · rw [if_neg (by omega), if_pos ⟨h2, h3⟩]
        · rw [if_pos (by omega), if_neg (fun h => h3 h.2)]
          rfl
      · rw [if_neg (by omega), if_neg (fun h => h2 h.1)]
        rfl
    rw [if_neg h1]
    have ed : wrap64 (Int.tdiv v.1 2) = v.1 / 2 := by rw [Int.tdiv_eq_ediv_of_nonneg hl.1]; exact w64 (by omega) (by omega)
    have em : Int.tmod v.1 2 = v.1 % 2 := Int.tmod_eq_emod_of_nonneg hl.1
    refine Ev.congr (fun k => by rw [if_neg h1, ed, em, bytesOf_length]) ?_
    by_cases h2 : v.1 % 2 = 0
    · rw [if_pos h2]
      refine Ev.congr (fun k => by rw [if_pos h2]) ?_
      by_cases h3 : v.1 / 2 > (s1.size : Int)
      · rw [if_pos (.inl h3)]
        exact ev_ret (fun k => by rw [if_pos h3]; rfl)
      · have hz : (s1.extract 0 (v.1 / 2).toNat).size = (v.1 / 2).toNat := by simp; omega
        refine Ev.congr (fun k => by rw [if_neg h3, if_pos (by omega), if_pos (by omega), Option.bind_some, bytesOf_take, strOf_bytesOf, spec_lit, hz, Option.bind_some]) ?_
        by_cases h4 : v.1 / 2 > 100
        · rw [if_pos (.inr h4)]
          exact ev_ret (fun k => by rw [if_neg (by simp; omega)]; rfl)
        · rw [if_neg (fun h => h.elim h3 h4)]
          refine Ev.congr (fun k => by rw [if_pos (decide_eq_true (by omega)), if_pos (by omega), bytesOf_drop]) ?_
          exact ih _ _ (by simp; omega) (by simp; omega) (by simp; omega)
    · rw [if_neg h2]
      have hb2 := gv_bound s1
      have hl2 := gv_lt s1
      have hv2 := spec_var (bytesOf s1) (bytesOf_byte s1)
      generalize gv (bytesOf s1) = u at hb2 hv2 hl2
      refine Ev.congr (fun k => by rw [if_neg h2]) (Ev.bind hv2 ?_)
      by_cases h3 : u.2 = 0
      · rw [if_pos h3]
        exact ev_ret (fun k => by rw [if_pos h3]; rfl)
      rw [if_neg h3]
      refine Ev.congr (fun k => by rw [if_neg h3, if_pos hb2.1, if_pos hb2.2, spec_cpy _ _ hl2.1, Option.bind_some]) ?_
      by_cases h4 : v.1 / 2 < 1
      · rw [if_pos (.inr (.inr h4))]
        exact ev_ret (fun k => by rw [if_neg (by simp; omega)]; rfl)
      · refine Ev.congr (fun k => by rw [if_pos (decide_eq_true (by omega))]) ?_
        by_cases h5 : u.1 > 1000000
        · rw [if_pos (.inl h5)]
          exact ev_ret (fun k => by rw [if_pos h5]; rfl)
        · by_cases h6 : v.1 / 2 > 1000000
          · rw [if_pos (.inr (.inl h6))]
            exact ev_ret (fun k => by rw [if_neg h5, if_pos h6]; rfl)
          · rw [if_neg (fun h => h.elim h5 (fun h => h.elim h6 h4))]
            refine Ev.congr (fun k => by rw [if_neg h5, if_neg h6, if_pos (by omega), bytesOf_drop]) ?_
            exact ih _ _ (by simp; omega) (by simp; omega) (by simp; omega)
theorem rtk_full (n : Nat) (s : ByteArray) (acc : List S121) (h : acc.length = 20000) (h0 : (gv (bytesOf s)).1 ≠ 0) : rtk (n + 1) s acc = tr0 := by
  rw [rtk_round n s acc _ _ rfl rfl]
  split
  · rfl
  split
  · split
    · rfl
    · exact rtk_long _ _ _ (by simp; omega)
  split
  · rfl
  split
  · rfl
  · exact rtk_long _ _ _ (by simp; omega)
theorem impl_badl (x0 s : ByteArray) (acc : List S121) (n : Int) : Ev (fun k => impl_readTokens.l0 k x0 acc n s true) tr0 := by
  obtain ⟨r, hr⟩ := text_some acc
  have hj : Ev (fun k => impl_readTokens.j1 k x0 acc n false s true) tr0 := ev_at (fun k => by
    simp only [impl_readTokens.j1]
    rw [if_neg (by decide), hr, Option.bind_some, if_pos trivial]
    rfl)
  refine Ev.step (fun k => ?_) hj
  simp only [impl_readTokens.l0]
  split <;> rfl
theorem impl_badn (x0 s : ByteArray) (acc : List S121) : Ev (fun k => (impl_reader_number.f k s true).bind fun b => impl_readTokens.l0 k x0 acc b.1 b.2.1 b.2.2) tr0 := by
  obtain ⟨x, s', h⟩ := number_bad s
  exact Ev.bind h (impl_badl x0 s' acc x)
theorem all_append (acc : List S121) (x : S121) : (∀ y ∈ acc ++ [x], tokok y) ↔ (∀ y ∈ acc, tokok y) ∧ tokok x := by
  constructor
  · intro h; exact ⟨fun y hy => h y (by simp [hy]), h x (by simp)⟩
  · rintro ⟨h1, h2⟩ y hy
    rcases List.mem_append.1 hy with hy | hy
    · exact h1 y hy
    · rw [List.mem_singleton.1 hy]; exact h2
theorem impl_rtk (x0 : ByteArray) (n : Nat) : ∀ (s : ByteArray) (acc : List S121), s.size < n → acc.length ≤ 20000 → ∀ r : TR, ((∀ x ∈ acc, tokok x) ∧ bytesOf x0 = txs acc ++ bytesOf s ∧ r = rtk n s acc) ∨ ((¬ ∀ x ∈ acc, tokok x) ∧ r = tr0) →
    Ev (fun k => (impl_reader_number.f k s false).bind fun b => impl_readTokens.l0 k x0 acc b.1 b.2.1 b.2.2) r := by
  induction n with
  | zero => intro s acc h; omega
  | succ n ih =>
    intro s acc hs ha r hr
    have hb := gv_bound s
    have hl := gv_lt s
    obtain ⟨s1, hs1⟩ : ∃ s1, s.extract (gv (bytesOf s)).2.toNat s.size = s1 := ⟨_, rfl⟩
    have hround := rtk_round n s acc _ s1 rfl hs1
    have hsz1 : s1.size = s.size - (gv (bytesOf s)).2.toNat := by rw [← hs1]; simp
    by_cases h0 : (gv (bytesOf s)).2 = 0
    · have er : r = tr0 := by
        rcases hr with ⟨_, _, h⟩ | ⟨_, h⟩
        · rw [h, hround, if_pos h0]
        · exact h
      rw [er]
      obtain ⟨x, s', hn⟩ := number_none s h0
      exact Ev.bind hn (impl_badl x0 s' acc x)
    rw [if_neg h0] at hround
    have hnum := number_some s h0
    have hbytes := gv_bytes s h0
    have hfull := rtk_full n s acc
    rw [hs1] at hnum hbytes
    clear hs1
    generalize gv (bytesOf s) = v at hb hl hround hsz1 h0 hnum hbytes hfull
    refine Ev.bind hnum ?_
    clear hnum
    have ed : wrap64 (Int.tdiv v.1 2) = v.1 / 2 := by rw [Int.tdiv_eq_ediv_of_nonneg hl.1]; exact w64 (by omega) (by omega)
    have em : Int.tmod v.1 2 = v.1 % 2 := Int.tmod_eq_emod_of_nonneg hl.1
    by_cases h1 : v.1 = 0
    · rw [if_pos h1] at hround
      refine Ev.step (f := fun k => impl_readTokens.j1 k x0 acc v.1 false s1 false) (fun k => by simp only [impl_readTokens.l0]; rw [if_neg (by omega)]) ?_
      rcases hr with ⟨hg, hx, h⟩ | ⟨hg, h⟩
      · rw [h, hround]
        obtain ⟨t, ht, htb⟩ := text_ok acc ha hg
        have hx0 : bytesOf x0 = txs acc ++ ([0] ++ bytesOf s1) := by
          rw [hx, hbytes, h1]
          rfl
        refine ev_at (fun k => ?_)
        simp only [impl_readTokens.j1]
        rw [if_neg (by decide), ht, Option.bind_some, if_neg (by decide), if_pos rfl]
        by_cases hz : s1.size = 0
        · have hnil : bytesOf s1 = [] := List.eq_nil_of_length_eq_zero (by rw [bytesOf_length]; exact hz)
          have e : t = x0 := bytesOf_inj (by rw [htb, hx0, hnil]; simp)
          rw [if_pos (show t.toList = x0.toList by rw [e]), if_pos ⟨hz, ha⟩]
        · have e : ¬ t.toList = x0.toList := by
            intro he
            have h2 := congrArg List.length (show txs acc ++ [0] = txs acc ++ ([0] ++ bytesOf s1) by rw [← htb, ← hx0, ba_ext he])
            simp only [List.length_append, bytesOf_length, List.length_cons, List.length_nil] at h2
            omega
          rw [if_neg e, if_neg (fun h => hz h.1)]
          rfl
      · rw [h]
        refine ev_at (fun k => ?_)
        simp only [impl_readTokens.j1]
        rw [if_neg (by decide), text_bad acc hg, Option.bind_some, if_neg (by decide), if_neg (by decide)]
        rfl
    rw [if_neg h1] at hround
    refine Ev.step (f := fun k => impl_readTokens.j1 k x0 acc v.1 true s1 false) (fun k => by simp only [impl_readTokens.l0]; rw [if_pos (by omega)]; rfl) ?_
    by_cases hfl : acc.length = 20000
    · have er : r = tr0 := by
        rcases hr with ⟨_, _, h⟩ | ⟨_, h⟩
        · rw [h]; exact hfull hfl h1
        · exact h
      rw [er]
      refine ev_at (fun k => ?_)
      simp only [impl_readTokens.j1]
      rw [if_pos trivial, if_pos (by omega)]
      rfl
    by_cases h2 : v.1 % 2 = 0
    · rw [if_pos h2] at hround
      refine Ev.step (f := fun k => impl_readTokens.j2 k x0 acc v.1 (decide (v.1 / 2 ≤ 100)) s1 false) (fun k => by simp only [impl_readTokens.j1]; rw [if_pos trivial, if_neg (by omega), em, if_pos h2, ed]) ?_
      by_cases h4 : v.1 / 2 > 100
      · have er : r = tr0 := by
          rcases hr with ⟨_, _, h⟩ | ⟨_, h⟩
          · rw [h, hround, if_pos (.inr h4)]
          · exact h
        rw [er]
        refine ev_at (fun k => ?_)
        simp only [impl_readTokens.j2]
        rw [if_neg (by simp; omega), em, if_neg (by omega)]
        rfl
      by_cases h3 : v.1 / 2 > (s1.size : Int)
      · have er : r = tr0 := by
          rcases hr with ⟨_, _, h⟩ | ⟨_, h⟩
          · rw [h, hround, if_pos (.inl h3)]
          · exact h
        rw [er]
        refine Ev.step (fun k => ?_) (impl_badn x0 s1 (acc ++ [⟨0, ⟨#[]⟩, 0, 0⟩]))
        simp only [impl_readTokens.j2]
        rw [if_pos (decide_eq_true (by omega)), ed, take_short _ _ h3, Option.bind_some, if_pos (by omega)]
      · rw [if_neg (fun h => h.elim h3 h4)] at hround
        have hz : (s1.extract 0 (v.1 / 2).toNat).size = (v.1 / 2).toNat := by simp; omega
        have hih := ih (s1.extract (v.1 / 2).toNat s1.size) (acc ++ [⟨0, s1.extract 0 (v.1 / 2).toNat, 0, 0⟩]) (by simp; omega) (by simp; omega) r ?_
        · refine Ev.step (fun k => ?_) hih
          simp only [impl_readTokens.j2]
          rw [if_pos (decide_eq_true (by omega)), ed, take_ok _ _ (by omega) (by omega), Option.bind_some, if_pos (by omega)]
        · rcases hr with ⟨hg, hx, h⟩ | ⟨hg, h⟩
          · refine .inl ⟨(all_append _ _).2 ⟨hg, .inl ⟨rfl, ?_, ?_, rfl, rfl⟩⟩, ?_, by rw [h, hround]⟩
            · show 1 ≤ (s1.extract 0 (v.1 / 2).toNat).size
              omega
            · show (s1.extract 0 (v.1 / 2).toNat).size ≤ 100
              omega
            · rw [hx, hbytes, txs_append, txs_one, List.append_assoc]
              congr 1
              unfold txl
              rw [if_pos rfl]
              rw [show (2 * ((s1.extract 0 (v.1 / 2).toNat).size : Int)) = v.1 by omega, List.append_assoc, ← bytesOf_take, ← bytesOf_drop, List.take_append_drop]
          · exact .inr ⟨fun hh => hg ((all_append _ _).1 hh).1, h⟩
    · rw [if_neg h2] at hround
      refine Ev.step (f := fun k => impl_readTokens.j2 k x0 acc v.1 false s1 false) (fun k => by simp only [impl_readTokens.j1]; rw [if_pos trivial, if_neg (by omega), em, if_neg h2]) ?_
      by_cases h3 : (gv (bytesOf s1)).2 = 0
      · have er : r = tr0 := by
          rcases hr with ⟨_, _, h⟩ | ⟨_, h⟩
          · rw [h, hround, if_pos h3]
          · exact h
        rw [er]
        obtain ⟨x, s', hn⟩ := number_none s1 h3
        refine Ev.step (f := fun k => (impl_reader_number.f k s1 false).bind fun b => (impl_reader_number.f k b.2.1 b.2.2).bind fun c => impl_readTokens.l0 k x0 (acc ++ [⟨1, ⟨#[]⟩, b.1, v.1 / 2⟩]) c.1 c.2.1 c.2.2) (fun k => ?_) (Ev.bind hn (impl_badn x0 s' _))
        simp only [impl_readTokens.j2]
        rw [if_neg (by decide), em, if_pos (by omega), ed]
        congr 1
        funext b
        rw [if_pos (by omega)]
      rw [if_neg h3] at hround
      have hn := number_some s1 h3
      have hb2 := gv_bound s1
      have hl2 := gv_lt s1
      have hbytes2 := gv_bytes s1 h3
      obtain ⟨s2, hs2⟩ : ∃ s2, s1.extract (gv (bytesOf s1)).2.toNat s1.size = s2 := ⟨_, rfl⟩
      have hsz2 : s2.size = s1.size - (gv (bytesOf s1)).2.toNat := by rw [← hs2]; simp
      rw [hs2] at hn hbytes2 hround
      clear hs2
      generalize gv (bytesOf s1) = u at hround hn hb2 hl2 hbytes2 hsz2 h3
      have hih := ih s2 (acc ++ [⟨1, ⟨#[]⟩, u.1, v.1 / 2⟩]) (by omega) (by simp; omega) r ?_
      · refine Ev.step (f := fun k => (impl_reader_number.f k s1 false).bind fun b => (impl_reader_number.f k b.2.1 b.2.2).bind fun c => impl_readTokens.l0 k x0 (acc ++ [⟨1, ⟨#[]⟩, b.1, v.1 / 2⟩]) c.1 c.2.1 c.2.2) (fun k => ?_) (Ev.bind hn hih)
        simp only [impl_readTokens.j2]
        rw [if_neg (by decide), em, if_pos (by omega), ed]
        congr 1
        funext b
        rw [if_pos (by omega)]
      · rcases hr with ⟨hg, hx, h⟩ | ⟨hg, h⟩
        · by_cases h4 : u.1 > 1000000 ∨ v.1 / 2 > 1000000 ∨ v.1 / 2 < 1
          · rw [if_pos h4] at hround
            refine .inr ⟨fun hh => ?_, by rw [h, hround]⟩
            rcases ((all_append _ _).1 hh).2 with ⟨h5, _⟩ | ⟨_, _, h6, h7, h8, h9⟩
            · exact absurd (show (1 : Int) = 0 from h5) (by decide)
            · have h7' : u.1 ≤ 1000000 := h7
              have h8' : 1 ≤ v.1 / 2 := h8
              have h9' : v.1 / 2 ≤ 1000000 := h9
              omega
          · rw [if_neg h4] at hround
            refine .inl ⟨(all_append _ _).2 ⟨hg, .inr ⟨rfl, rfl, hl2.1, ?_, ?_, ?_⟩⟩, ?_, by rw [h, hround]⟩
            · show u.1 ≤ 1000000
              omega
            · show 1 ≤ v.1 / 2
              omega
            · show v.1 / 2 ≤ 1000000
              omega
            · rw [hx, hbytes, hbytes2, txs_append, txs_one, List.append_assoc]
              congr 1
              unfold txl
              rw [if_neg (show ¬ (1 : Int) = 0 by decide)]
              rw [show 2 * (v.1 / 2) + 1 = v.1 by omega, List.append_assoc]
        · exact .inr ⟨fun hh => hg ((all_append _ _).1 hh).1, h⟩
theorem impl_tokens (x0 : ByteArray) : Ev (fun k => impl_readTokens.f k x0) (rtk (x0.size + 1) x0 []) := by
  unfold impl_readTokens.f
  exact impl_rtk x0 (x0.size + 1) x0 [] (by omega) (by simp) _ (.inl ⟨fun x h => absurd h (by simp), rfl, rfl⟩)
theorem spec_tokens (s : ByteArray) (h : s.size ≤ 1000000000) : Ev (fun k => spec_GetTokens.f k (bytesOf s)) (rtk (s.size + 1) s []) := by
  unfold spec_GetTokens.f
  exact spec_rtk (s.size + 1) s [] (by omega) (by simp; omega) h
theorem tdiv10 {n : Int} (h0 : 0 < n) (h1 : n ≤ 9223372036854775807) : wrap64 (Int.tdiv n 10) = n / 10 := by
  rw [Int.tdiv_eq_ediv_of_nonneg (by omega)]
  exact w64 (by omega) (by omega)
theorem one_size (x : Int) : (strOfNums [x]).size = 1 := by rw [strOfNums_size]; rfl
theorem mark_l0 (d : Nat) : ∀ (n : Int) (s : ByteArray), n < 10 ^ d → n ≤ 9223372036854775807 → s.size + d ≤ 1000 → ∃ r, Ev (fun k => laws_markText.l0 k n s) r := by
  induction d with
  | zero =>
    intro n s hn _ hs
    exact ⟨(⟨#[109]⟩ : ByteArray) ++ s, ev_at (fun k => by simp only [laws_markText.l0]; rw [if_neg (by simp at hn; omega), if_pos (by omega)])⟩
  | succ d ih =>
    intro n s hn hb hs
    by_cases h0 : n > 0
    · have hsz : (strOfNums [(wrap64 (48 + (Int.tmod n 10))) % 256] ++ s).size = 1 + s.size := by rw [ByteArray.size_append, one_size]
      obtain ⟨r, h⟩ := ih (n / 10) (strOfNums [(wrap64 (48 + (Int.tmod n 10))) % 256] ++ s) (by rw [Int.pow_succ] at hn; omega) (by omega) (by omega)
      refine ⟨r, Ev.step (fun k => ?_) h⟩
      simp only [laws_markText.l0]
      rw [if_pos h0]
      simp only [Option.bind_some]
      rw [if_pos (by rw [one_size]; omega), tdiv10 h0 hb]
    · exact ⟨(⟨#[109]⟩ : ByteArray) ++ s, ev_at (fun k => by simp only [laws_markText.l0]; rw [if_neg h0, if_pos (by omega)])⟩
theorem mark_total {n : Int} (hn : n ≤ 9223372036854775807) : ∃ r, Ev (fun k => laws_markText.f k n) r := by
  by_cases h : n ≤ 0
  · exact ⟨_, 0, fun k _ => by simp only [laws_markText.f]; rw [if_pos h]⟩
  · obtain ⟨r, hr⟩ := mark_l0 19 n ⟨#[]⟩ (by have : (10 : Int) ^ 19 = 10000000000000000000 := by decide
                                             omega) hn (by decide)
    exact ⟨r, Ev.congr (fun k => by simp only [laws_markText.f]; rw [if_neg h]) hr⟩
noncomputable def mt (n : Int) : ByteArray := open Classical in if h : ∃ r, Ev (fun k => laws_markText.f k n) r then h.choose else ⟨#[]⟩
theorem mt_ev {n : Int} (hn : n ≤ 9223372036854775807) : Ev (fun k => laws_markText.f k n) (mt n) := by
  have h := mark_total hn
  unfold mt
  rw [dif_pos h]
  exact h.choose_spec
theorem rd_midB (pre : List Int) (x : Int) (t : List Int) {i : Int} (hi : i = pre.length) : rd (pre ++ x :: t) i = x := by
  subst hi
  simp [rd]
theorem set_midB (pre : List Int) (x y : Int) (t : List Int) {i : Int} (hi : i = pre.length) : (pre ++ x :: t).set i.toNat y = pre ++ y :: t := by
  subst hi
  simp
theorem toB (suf : List Int) : ∀ (pre : List Int) (i : Int), i = pre.length → pre.length + suf.length ≤ 281474976710656 →
    Ev (fun k => laws_toByteS.l0 k (pre ++ suf) (pre ++ List.replicate suf.length 0) i) (pre ++ suf) := by
  induction suf with
  | nil =>
    intro pre i hi hl
    refine ev_at (fun k => ?_)
    simp only [laws_toByteS.l0]
    rw [if_neg (by simp; omega)]
    simp
  | cons x t ih =>
    intro pre i hi hl
    simp only [List.length_cons] at hl
    have h := ih (pre ++ [x]) (i + 1) (by simp; omega) (by simp; omega)
    have e3 : wrap64 (i + 1) = i + 1 := w64 (by omega) (by omega)
    have c1 : i < ((pre ++ x :: t).length : Int) := by simp; omega
    have c2 : 0 ≤ i := by omega
    have c3 : i < ((pre ++ List.replicate (x :: t).length (0 : Int)).length : Int) := by simp; omega
    refine Ev.step (f := fun k => laws_toByteS.l0 k (pre ++ x :: t) (pre ++ x :: List.replicate t.length 0) (i + 1)) (fun k => ?_) (by simpa using h)
    simp only [laws_toByteS.l0]
    rw [if_pos c1, if_pos c2, if_pos c3, rd_midB pre x t hi, e3, List.length_cons, List.replicate_succ, set_midB _ _ _ _ hi]
theorem toBS (xs : List Int) (hl : xs.length ≤ 281474976710656) : Ev (fun k => laws_toByteS.f k xs) xs := by
  have h := toB xs [] 0 rfl (by simpa using hl)
  exact Ev.congr (fun k => by simp only [laws_toByteS.f]; rw [if_pos (by omega), if_pos (by simpa using hl)]; rfl) h
theorem eqB (xs : List Int) (hx : xs.length ≤ 4611686018427387904) (d : Nat) : ∀ i : Int, 0 ≤ i → (xs.length : Int) - i = d → Ev (fun k => laws_eqByteS.l0 k xs xs i) true := by
  induction d with
  | zero =>
    intro i h0 hd
    exact ev_at (fun k => by simp only [laws_eqByteS.l0]; rw [if_neg (by omega)])
  | succ d ih =>
    intro i h0 hd
    refine Ev.step (fun k => ?_) (ih (i + 1) (by omega) (by omega))
    simp only [laws_eqByteS.l0]
    rw [if_pos (by omega), if_pos h0, if_pos (by omega)]
    simp only [if_true]
    rw [w64 (by omega) (by omega)]
theorem eqBS (xs : List Int) (hx : xs.length ≤ 4611686018427387904) : Ev (fun k => laws_eqByteS.f k xs xs) true :=
  Ev.congr (fun k => by simp only [laws_eqByteS.f]; rw [if_pos trivial]) (eqB xs hx xs.length 0 (by omega) (by omega))
def mkB : Int → List Int → List Int
  | _, [] => []
  | m, _ :: t => (m % 256) :: mkB (m + 1) t
theorem mkB_length (m : Int) (xs : List Int) : (mkB m xs).length = xs.length := by
  induction xs generalizing m with
  | nil => rfl
  | cons x t ih => simp [mkB, ih]
theorem markB (suf : List Int) : ∀ (pre : List Int) (m i : Int), i = pre.length → 0 ≤ m → m + suf.length ≤ 4611686018427387904 → pre.length + suf.length ≤ 4611686018427387904 →
    Ev (fun k => laws_markByteS.l0 k (pre ++ suf) m i) (m + suf.length, pre ++ mkB m suf) := by
  induction suf with
  | nil =>
    intro pre m i hi h0 hm hl
    refine ev_at (fun k => ?_)
    simp only [laws_markByteS.l0]
    rw [if_neg (by simp; omega)]
    simp [mkB]
  | cons x t ih =>
    intro pre m i hi h0 hm hl
    simp only [List.length_cons, Int.natCast_succ] at hm hl
    have h := ih (pre ++ [m % 256]) (m + 1) (i + 1) (by simp; omega) (by omega) (by omega) (by simp; omega)
    have e1 : wrap64 (m + 1) = m + 1 := w64 (by omega) (by omega)
    have e3 : wrap64 (i + 1) = i + 1 := w64 (by omega) (by omega)
    have hres : ((m + ((x :: t).length : Int), pre ++ mkB m (x :: t)) : Int × List Int) = (m + 1 + (t.length : Int), pre ++ [m % 256] ++ mkB (m + 1) t) := by
      simp [mkB]
      omega
    rw [hres]
    refine Ev.step (f := fun k => laws_markByteS.l0 k (pre ++ (m % 256) :: t) (m + 1) (i + 1)) (fun k => ?_) (by simpa using h)
    simp only [laws_markByteS.l0]
    rw [if_pos (by simp; omega), if_pos (by omega), set_midB pre x _ t hi, e1, e3]
theorem markBS (xs : List Int) (m : Int) (h0 : 0 ≤ m) (hm : m + xs.length ≤ 4611686018427387904) : Ev (fun k => laws_markByteS.f k xs m) (m + xs.length, mkB m xs) := by
  have h := markB xs [] m 0 rfl h0 hm (by simp; omega)
  simp only [List.nil_append] at h
  exact h
theorem lit_u8 {x : Int} (h : (Lit.int .u8 x).wf = true) : 0 ≤ x ∧ x < 256 := by
  simp only [Lit.wf, Bool.and_eq_true, decide_eq_true_eq] at h
  have e1 : IntKind.u8.min = 0 := rfl
  have e2 : IntKind.u8.max = 255 := rfl
  omega
theorem bytesOf_strOf : ∀ (l : List Int), (∀ x ∈ l, 0 ≤ x ∧ x < 256) → bytesOf (strOfNums l) = l := by
  intro l h
  unfold bytesOf
  rw [strOfNums_data, List.map_map]
  conv => rhs; rw [← List.map_id l]
  refine List.map_congr_left (fun x hx => ?_)
  obtain ⟨h0, h1⟩ := h x hx
  simp
  omega
theorem rd_mid121 (pre : List S121) (x : S121) (t : List S121) {i : Int} (hi : i = pre.length) : rd_T121 (pre ++ x :: t) i = x := by
  subst hi
  simp [rd_T121]
theorem set_mid121 (pre : List S121) (x y : S121) (t : List S121) {i : Int} (hi : i = pre.length) : (pre ++ x :: t).set i.toNat y = pre ++ y :: t := by
  subst hi
  simp
theorem eq121 (xs : List S121) (hx : xs.length ≤ 4611686018427387904) (d : Nat) : ∀ i : Int, 0 ≤ i → (xs.length : Int) - i = d → Ev (fun k => laws_eqTokenS.l0 k xs xs i) true := by
  induction d with
  | zero =>
    intro i h0 hd
    exact ev_at (fun k => by simp only [laws_eqTokenS.l0]; rw [if_neg (by omega)])
  | succ d ih =>
    intro i h0 hd
    refine Ev.step (fun k => ?_) (ih (i + 1) (by omega) (by omega))
    simp only [laws_eqTokenS.l0, laws_eqToken.f]
    rw [if_pos (by omega), if_pos h0, if_pos (by omega)]
    simp only [if_true, Option.bind_some]
    rw [w64 (by omega) (by omega)]
theorem eqS121 (xs : List S121) (hx : xs.length ≤ 4611686018427387904) : Ev (fun k => laws_eqTokenS.f k xs xs) true :=
  Ev.congr (fun k => by simp only [laws_eqTokenS.f]; rw [if_pos trivial]) (eq121 xs hx xs.length 0 (by omega) (by omega))
noncomputable def mkK : Int → List S121 → List S121
  | _, [] => []
  | m, _ :: t => ⟨m, mt (m + 1), m + 2, m + 3⟩ :: mkK (m + 4) t
theorem mkK_length (m : Int) (xs : List S121) : (mkK m xs).length = xs.length := by
  induction xs generalizing m with
  | nil => rfl
  | cons x t ih => simp [mkK, ih]
theorem markK (suf : List S121) : ∀ (pre : List S121) (m i : Int), i = pre.length → 0 ≤ m → m + 4 * suf.length ≤ 4611686018427387904 → pre.length + suf.length ≤ 4611686018427387904 →
    Ev (fun k => laws_markTokenS.l0 k (pre ++ suf) m i) (m + 4 * suf.length, pre ++ mkK m suf) := by
  induction suf with
  | nil =>
    intro pre m i hi h0 hm hl
    refine ev_at (fun k => ?_)
    simp only [laws_markTokenS.l0]
    rw [if_neg (by simp; omega)]
    simp [mkK]
  | cons x t ih =>
    intro pre m i hi h0 hm hl
    simp only [List.length_cons, Int.natCast_succ] at hm hl
    have h := ih (pre ++ [⟨m, mt (m + 1), m + 2, m + 3⟩]) (m + 4) (i + 1) (by simp; omega) (by omega) (by omega) (by simp; omega)
    have e1 : wrap64 (m + 1) = m + 1 := by rw [w64 (by omega) (by omega)]
    have e2 : wrap64 (m + 1 + 1) = m + 2 := by rw [w64 (by omega) (by omega)]; omega
    have e3 : wrap64 (m + 2 + 1) = m + 3 := by rw [w64 (by omega) (by omega)]; omega
    have e4 : wrap64 (m + 3 + 1) = m + 4 := by rw [w64 (by omega) (by omega)]; omega
    have ei : wrap64 (i + 1) = i + 1 := w64 (by omega) (by omega)
    have hrd : ∀ x : S121, rd_T121 (pre ++ x :: t) i = x := fun x => rd_mid121 pre x t hi
    have hset : ∀ x y : S121, (pre ++ x :: t).set i.toNat y = pre ++ y :: t := fun x y => set_mid121 pre x y t hi
    have hres : ((m + 4 * ((x :: t).length : Int), pre ++ mkK m (x :: t)) : Int × List S121) = (m + 4 + 4 * (t.length : Int), pre ++ [⟨m, mt (m + 1), m + 2, m + 3⟩] ++ mkK (m + 4) t) := by
      simp [mkK]
      omega
    rw [hres]
    refine Ev.step (f := fun k => (laws_markText.f k (m + 1)).bind fun q1 => laws_markTokenS.l0 k (pre ++ ⟨m, q1, m + 2, m + 3⟩ :: t) (m + 4) (i + 1)) (fun k => ?_) (Ev.bind (mt_ev (by omega)) (by simpa using h))
    simp only [laws_markTokenS.l0]
    have c1 : i < ((pre ++ x :: t).length : Int) := by simp; omega
    have c2 : 0 ≤ i := by omega
    rw [if_pos c1, if_pos c2]
    simp only [Option.bind_some, e1, e2, e3, e4, ei, hset, hrd]
theorem heldK (suf : List S121) : ∀ (pre : List S121) (m i : Int), i = pre.length → 0 ≤ m → m + 4 * suf.length ≤ 4611686018427387904 → pre.length + suf.length ≤ 4611686018427387904 →
    Ev (fun k => laws_heldTokenS.l0 k (pre ++ mkK m suf) m i) (m + 4 * suf.length) := by
  induction suf with
  | nil =>
    intro pre m i hi h0 hm hl
    refine ev_at (fun k => ?_)
    simp only [laws_heldTokenS.l0]
    rw [if_neg (by simp [mkK]; omega)]
    simp
  | cons x t ih =>
    intro pre m i hi h0 hm hl
    simp only [List.length_cons, Int.natCast_succ] at hm hl
    have h := ih (pre ++ [⟨m, mt (m + 1), m + 2, m + 3⟩]) (m + 4) (i + 1) (by simp; omega) (by omega) (by omega) (by simp; omega)
    have e1 : wrap64 (m + 1) = m + 1 := by rw [w64 (by omega) (by omega)]
    have e2 : wrap64 (m + 1 + 1) = m + 2 := by rw [w64 (by omega) (by omega)]; omega
    have e3 : wrap64 (m + 2 + 1) = m + 3 := by rw [w64 (by omega) (by omega)]; omega
    have e4 : wrap64 (m + 3 + 1) = m + 4 := by rw [w64 (by omega) (by omega)]; omega
    have ei : wrap64 (i + 1) = i + 1 := w64 (by omega) (by omega)
    have hrd : ∀ (x : S121) (t : List S121), rd_T121 (pre ++ x :: t) i = x := fun x t => rd_mid121 pre x t hi
    have hres : m + 4 * ((x :: t).length : Int) = m + 4 + 4 * (t.length : Int) := by simp; omega
    rw [hres]
    refine Ev.step (f := fun k => (laws_markText.f k (m + 1)).bind fun q1 => if (mt (m + 1)).toList = q1.toList then (laws_heldTokenS.l0 k (pre ++ mkK m (x :: t)) (m + 4) (i + 1)) else some (-1)) (fun k => ?_) (Ev.bind (mt_ev (by omega)) (Ev.congr (fun k => by rw [if_pos rfl]) (by simpa [mkK] using h)))
    rw [show mkK m (x :: t) = (⟨m, mt (m + 1), m + 2, m + 3⟩ : S121) :: mkK (m + 4) t from rfl]
    simp only [laws_heldTokenS.l0]
    have c1 : i < ((pre ++ (⟨m, mt (m + 1), m + 2, m + 3⟩ : S121) :: mkK (m + 4) t).length : Int) := by simp; omega
    have c2 : 0 ≤ i := by omega
    rw [if_pos c1, if_pos c2]
    simp only [e1, e2, e3, e4, ei, hrd, if_true]
theorem markKS (xs : List S121) (m : Int) (h0 : 0 ≤ m) (hm : m + 4 * xs.length ≤ 4611686018427387904) : Ev (fun k => laws_markTokenS.f k xs m) (m + 4 * xs.length, mkK m xs) := by
  have h := markK xs [] m 0 rfl h0 hm (by simp; omega)
  simp only [List.nil_append] at h
  exact h
theorem heldKS (xs : List S121) (m : Int) (h0 : 0 ≤ m) (hm : m + 4 * xs.length ≤ 4611686018427387904) : Ev (fun k => laws_heldTokenS.f k (mkK m xs) m) (m + 4 * xs.length) := by
  have h := heldK xs [] m 0 rfl h0 hm (by simp; omega)
  simp only [List.nil_append] at h
  exact h
theorem FnExactGetTokens : laws_FnExactGetTokens.Pure := by
  intro b _ _ hb
  by_cases hbig : (b.length : Int) > 1048576
  · exact ⟨0, by simp only [laws_FnExactGetTokens.f]; rw [if_pos hbig]⟩
  have hbb : ∀ x ∈ b, 0 ≤ x ∧ x < 256 := fun x hx => (lit_u8 (hb x hx))
  have htb := toBS b (by omega)
  have hbe : bytesOf (strOfNums b) = b := bytesOf_strOf b hbb
  have hsz : (strOfNums b).size = b.length := strOfNums_size b
  have hs := spec_tokens (strOfNums b) (by omega)
  rw [hbe] at hs
  have hi : Ev (fun k => impl_GetTokens.f k b) (rtk ((strOfNums b).size + 1) (strOfNums b) []) := Ev.bind (impl_tokens (strOfNums b)) (ev_ret (fun k => rfl))
  have hl := rtk_len ((strOfNums b).size + 1) (strOfNums b) []
  generalize rtk ((strOfNums b).size + 1) (strOfNums b) [] = v at hs hi hl
  obtain ⟨vl, vo⟩ := v
  simp only at hl
  have he := eqS121 vl (by omega)
  have hm := markKS vl 1 (by decide) (by omega)
  have hh := heldKS vl 1 (by decide) (by omega)
  have heb := eqBS b (by omega)
  have hmb := markBS b 1 (by decide) (by omega)
  have e1 : (vo != vo) = false := by simp
  have hj2 : Ev (fun k => laws_FnExactGetTokens.j2 k (mkK 1 vl) (1 + 4 * (vl.length : Int)) false) true := by
    refine Ev.step (fun k => by simp only [laws_FnExactGetTokens.j2]; rw [if_neg (by decide)]) (Ev.bind hh ?_)
    exact ev_ret (fun k => by rw [if_neg (by omega), if_pos rfl])
  have hj1 : Ev (fun k => laws_FnExactGetTokens.j1 k b vl vo vl false) true := by
    refine Ev.step (fun k => by simp only [laws_FnExactGetTokens.j1]; rw [if_neg (by decide)]) (Ev.bind hm (Ev.bind hh ?_))
    refine Ev.congr (fun k => by rw [if_neg (by omega), if_pos rfl]) (Ev.bind htb (Ev.bind hi (Ev.bind he ?_)))
    exact Ev.congr (fun k => by rw [if_pos rfl, e1]) hj2
  have hj0 : Ev (fun k => laws_FnExactGetTokens.j0 k b vl vo b vl vo false) true := by
    refine Ev.step (fun k => by simp only [laws_FnExactGetTokens.j0]; rw [if_neg (by decide)]) (Ev.bind htb (Ev.bind heb ?_))
    refine Ev.congr (fun k => by rw [if_pos rfl]) (Ev.bind hmb ?_)
    refine Ev.congr (fun k => by rw [if_neg (by omega)]) (Ev.bind he ?_)
    exact Ev.congr (fun k => by rw [if_pos rfl, e1]) hj1
  refine Ev.rounds ?_
  simp only [laws_FnExactGetTokens.f]
  refine Ev.congr (fun k => by rw [if_neg hbig]) (Ev.bind htb (Ev.bind hs (Ev.bind htb (Ev.bind hi (Ev.bind he ?_)))))
  exact Ev.congr (fun k => by rw [if_pos rfl, e1]) hj0
end Go.Proofs.Ytbiaakkmmkddfaa.Pure
