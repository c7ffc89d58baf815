/- Drawn frames come back from their bytes, and each stream's bytes are those of its frames, at all codes. No condition beside the form's own reach. -/
import Derived.Test.YtbiaakkmmkddfaaPFnFramesx7
namespace Go.Proofs.Ytbiaakkmmkddfaa.Pure
open Go.RowKit Go.Proofs.Ytbiaakkmmkddfaa.PFnFrames Go.Proofs.YtbiaakkmmkddfaaW.PrintWords Go.Proofs.YtbiaakkmmkddfaaW.PrintLast Go.Proofs.YtbiaakkmmkddfaaW.PrintMore
theorem w64 {x : Int} (h0 : -9223372036854775808 ≤ x) (h1 : x ≤ 9223372036854775807) : wrap64 x = x := by unfold wrap64; omega
theorem emp_iff (s : ByteArray) : s.toList = ([] : List UInt8) ↔ s.size = 0 := by
  rw [ByteArray.toList_eq]
  obtain ⟨⟨d⟩⟩ := s
  cases d <;> simp [ByteArray.size]
theorem ev_at {α : Type} {g : Nat → Option α} {r : α} (h : ∀ k, g (k + 1) = some r) : Ev g r := ⟨1, fun k hk => by
  obtain ⟨j, rfl⟩ : ∃ j, k = j + 1 := ⟨k - 1, by omega⟩
  exact h j⟩
theorem ev_ret {α : Type} {g : Nat → Option α} {r : α} (h : ∀ k, g k = some r) : Ev g r := ⟨0, fun k _ => h k⟩
theorem ev_det {α : Type} {g : Nat → Option α} {r s : α} (h : Ev g r) (k : Ev g s) : r = s := by
  obtain ⟨K, h⟩ := h
  obtain ⟨L, k⟩ := k
  have h1 := h (K + L) (by omega)
  have h2 := k (K + L) (by omega)
  rw [h1] at h2
  exact Option.some.inj h2
theorem ba_ext {a b : ByteArray} (h : a.toList = b.toList) : a = b := by
  rw [ByteArray.toList_eq, ByteArray.toList_eq] at h
  exact ByteArray.ext (Array.toList_inj.1 h)
theorem bytesOf_append (a b : ByteArray) : bytesOf (a ++ b) = bytesOf a ++ bytesOf b := by simp [bytesOf, ByteArray.data_append]
theorem strOf_bytesOf (s : ByteArray) : strOfNums (bytesOf s) = s := by
  apply ByteArray.ext
  apply Array.toList_inj.1
  rw [strOfNums_data, bytesOf, List.map_map]
  exact (List.map_congr_left (fun b _ => by simp)).trans (List.map_id _)
theorem bytesOf_inj {a b : ByteArray} (h : bytesOf a = bytesOf b) : a = b := by rw [← strOf_bytesOf a, h, strOf_bytesOf]
/-- The draws' step, and what it is without a bound. -/
def LC (h : Int) : Int := wrap64 (wrap64 (h * 6364136223846793005) + 1442695040888963407)
def GC (h : Int) : Int := h * 6364136223846793005 + 1442695040888963407
def it (f : Int → Int) : Nat → Int → Int
  | 0, x => x
  | n + 1, x => it f n (f x)
theorem it_add (f : Int → Int) (m n : Nat) : ∀ x, it f (m + n) x = it f n (it f m x) := by
  induction m with
  | zero => intro x; simp [it]
  | succ m ih => intro x; rw [show m + 1 + n = (m + n) + 1 by omega]; simp only [it]; exact ih (f x)
theorem it_pow (k : Nat) : ∃ a c : Int, ∀ x, it GC (2 ^ k) x = (1 + 4 * 2 ^ k * a) * x + 2 ^ k * (1 + 2 * c) := by
  induction k with
  | zero => exact ⟨1591034055961698251, 721347520444481703, fun x => by simp [it, GC]; omega⟩
  | succ k ih =>
    obtain ⟨a, c, h⟩ := ih
    refine ⟨a + 2 * 2 ^ k * a * a, 2 ^ k * a + c + 2 * 2 ^ k * a * c, fun x => ?_⟩
    rw [show 2 ^ (k + 1) = 2 ^ k + 2 ^ k by omega, it_add, h, h, show (2 : Int) ^ (k + 1) = 2 * 2 ^ k by rw [Int.pow_succ, Int.mul_comm]]
    generalize (2 : Int) ^ k = P
    grind
theorem reach (k : Nat) (x y : Int) : ∃ n : Nat, ∃ q : Int, it GC n x = y + 2 ^ k * q := by
  induction k with
  | zero => exact ⟨0, x - y, by simp [it]; omega⟩
  | succ k ih =>
    obtain ⟨n, q, h⟩ := ih
    obtain ⟨a, c, hp⟩ := it_pow k
    have e : (2 : Int) ^ (k + 1) = 2 * 2 ^ k := by rw [Int.pow_succ, Int.mul_comm]
    by_cases hq : q % 2 = 0
    · refine ⟨n, q / 2, ?_⟩
      obtain ⟨r, rfl⟩ : ∃ r, q = 2 * r := ⟨q / 2, by omega⟩
      rw [h, e, show 2 * r / 2 = r by omega]
      generalize (2 : Int) ^ k = P
      grind
    · obtain ⟨r, rfl⟩ : ∃ r, q = 2 * r + 1 := ⟨q / 2, by omega⟩
      refine ⟨n + 2 ^ k, r + 1 + c + 2 * a * (y + 2 ^ k * (2 * r + 1)), ?_⟩
      rw [it_add, h, hp, e]
      generalize (2 : Int) ^ k = P
      grind
theorem wrap_dvd (x : Int) : ∃ q, wrap64 x = x + 18446744073709551616 * q := ⟨-((x + 9223372036854775808) / 18446744073709551616), by unfold wrap64; omega⟩
theorem LC_range (h : Int) : -9223372036854775808 ≤ LC h ∧ LC h < 9223372036854775808 := by unfold LC wrap64; omega
theorem it_LC (n : Nat) : ∀ x y q : Int, x = y + 18446744073709551616 * q → ∃ q', it LC n x = it GC n y + 18446744073709551616 * q' := by
  induction n with
  | zero => intro x y q h; exact ⟨q, h⟩
  | succ n ih =>
    intro x y q h
    obtain ⟨q1, h1⟩ := wrap_dvd (x * 6364136223846793005)
    obtain ⟨q2, h2⟩ := wrap_dvd (wrap64 (x * 6364136223846793005) + 1442695040888963407)
    exact ih (LC x) (GC y) (6364136223846793005 * q + q1 + q2) (by unfold LC GC; omega)
theorem it_range (n : Nat) : ∀ x, (-9223372036854775808 ≤ x ∧ x < 9223372036854775808) → -9223372036854775808 ≤ it LC n x ∧ it LC n x < 9223372036854775808 := by
  induction n with
  | zero => intro x h; exact h
  | succ n ih => intro x _; exact ih (LC x) (LC_range x)
/-- From every state every state is reached, behind any number of steps. -/
theorem reach64 (m : Nat) (x y : Int) (hy : -9223372036854775808 ≤ y ∧ y < 9223372036854775808) (hx : -9223372036854775808 ≤ x ∧ x < 9223372036854775808) : ∃ n, m ≤ n ∧ it LC n x = y := by
  obtain ⟨n, q, h⟩ := reach 64 (it LC m x) y
  obtain ⟨q', h'⟩ := it_LC n (it LC m x) (it LC m x) 0 (by omega)
  refine ⟨m + n, by omega, ?_⟩
  rw [it_add]
  have hr := it_range n (it LC m x) (it_range m x hx)
  have e : (2 : Int) ^ 64 = 18446744073709551616 := by decide
  rw [e] at h
  omega
theorem i64_and255 (n : Int) : bits .and .i64 n 255 = n % 256 := by
  have h255 : (BitVec.ofInt 64 255).toNat = 2 ^ 8 - 1 := by decide
  have key : (BitVec.ofInt 64 n &&& BitVec.ofInt 64 255).toNat = (n % ((2 ^ 64 : Nat) : Int)).toNat % 2 ^ 8 := by
    rw [BitVec.toNat_and, BitVec.toNat_ofInt, h255, Nat.and_two_pow_sub_one_eq_mod]
  show IntKind.i64.wrap ((BitVec.ofInt 64 n &&& BitVec.ofInt 64 255).toNat : Nat) = n % 256
  rw [key, IntKind.wrap_i64]
  omega
/-- A draw's byte, where the code is at its end. -/
def vb (x : Int) : Int := Go.bits .xor .i64 (x / 8589934592) (x / 35184372088832) % 256
def nx (l : List Int) (i : Int) : Int := if i < (l.length : Int) then i + 1 else i
def dn (l : List Int) : Nat → Int → Int
  | 0, i => i
  | m + 1, i => dn l m (nx l i)
theorem dn_add (l : List Int) (m n : Nat) : ∀ i, dn l (m + n) i = dn l n (dn l m i) := by
  induction m with
  | zero => intro i; simp [dn]
  | succ m ih => intro i; rw [show m + 1 + n = (m + n) + 1 by omega]; simp only [dn]; exact ih _
theorem dn_eq (l : List Int) (m : Nat) : ∀ i, i ≤ (l.length : Int) → dn l m i = min (i + m) l.length := by
  induction m with
  | zero => intro i h; simp [dn]; omega
  | succ m ih =>
    intro i h
    simp only [dn]
    unfold nx
    split
    · rw [ih _ (by omega)]; omega
    · rw [ih _ h]; omega
theorem byte_ev (l : List Int) (hl : l.length ≤ 4611686018427387904) (i h : Int) (hi : 0 ≤ i) :
    ∃ v, spec_l01Byte.f l i h = some (v, nx l i, LC h) ∧ 0 ≤ v ∧ v ≤ 255 ∧ ((l.length : Int) ≤ i → v = vb (LC h)) := by
  unfold spec_l01Byte.f nx
  rw [show wrap64 ((wrap64 (h * 6364136223846793005)) + 1442695040888963407) = LC h from rfl]
  by_cases hlt : i < (l.length : Int)
  · rw [if_pos hlt, if_pos hi, if_pos hlt, w64 (x := i + 1) (by omega) (by omega)]
    refine ⟨_, rfl, ?_, ?_, fun h => by omega⟩
    · rw [i64_and255]; omega
    · rw [i64_and255]; omega
  · rw [if_neg hlt, if_neg hlt]
    refine ⟨_, rfl, ?_, ?_, fun _ => ?_⟩
    · rw [i64_and255]; omega
    · rw [i64_and255]; omega
    · rw [i64_and255]; rfl
def Okst (l : List Int) (i h : Int) : Prop := 0 ≤ i ∧ i ≤ (l.length : Int) ∧ -9223372036854775808 ≤ h ∧ h < 9223372036854775808
theorem Okst.dn {l : List Int} {i h : Int} (k : Okst l i h) (m : Nat) : Okst l (dn l m i) (it LC m h) := by
  have hd := dn_eq l m i k.2.1
  exact ⟨by rw [hd]; have := k.1; omega, by rw [hd]; omega, it_range m h k.2.2⟩
theorem below_ev (l : List Int) (hl : l.length ≤ 4611686018427387904) (i h : Int) (k : Okst l i h) (a : Int) (ha : a ≤ 4611686018427387904) :
    ∃ v m, spec_l01Below.f l i h a = some (v, dn l m i, it LC m h) ∧ m ≤ 4 ∧ (0 < a → 0 ≤ v ∧ v < a) ∧ (a ≤ 0 → v = 0) ∧ (1 ≤ a → a ≤ 256 → m = 1) ∧ (a = 5 → (l.length : Int) ≤ i → v = vb (LC h) % 5) := by
  unfold spec_l01Below.f
  by_cases h0 : a ≤ 0
  · rw [if_pos h0]
    exact ⟨0, 0, rfl, by decide, fun h => by omega, fun _ => rfl, fun h => by omega, fun h => by omega⟩
  rw [if_neg h0]
  obtain ⟨v1, e1, a1, b1, c1⟩ := byte_ev l hl i h k.1
  have k1 : Okst l (nx l i) (LC h) := k.dn 1
  by_cases h1 : a ≤ 256
  · rw [if_pos h1, e1]
    simp only [Option.bind_some]
    rw [if_neg (by omega), Int.tmod_eq_emod_of_nonneg a1]
    exact ⟨v1 % a, 1, rfl, by decide, fun h => ⟨Int.emod_nonneg _ (by omega), Int.emod_lt_of_pos _ h⟩, fun h => by omega, fun _ _ => rfl, fun h5 hi => by rw [h5, c1 hi]⟩
  · rw [if_neg h1, e1]
    simp only [Option.bind_some]
    obtain ⟨v2, e2, a2, b2, _⟩ := byte_ev l hl _ (LC h) k1.1
    have k2 : Okst l (nx l (nx l i)) (LC (LC h)) := k.dn 2
    obtain ⟨v3, e3, a3, b3, _⟩ := byte_ev l hl _ (LC (LC h)) k2.1
    have k3 : Okst l (nx l (nx l (nx l i))) (LC (LC (LC h))) := k.dn 3
    obtain ⟨v4, e4, a4, b4, _⟩ := byte_ev l hl _ (LC (LC (LC h))) k3.1
    rw [e2]
    simp only [Option.bind_some]
    rw [e3]
    simp only [Option.bind_some]
    rw [e4]
    simp only [Option.bind_some]
    rw [if_neg (by omega), w64 (x := v1 * 16777216) (by omega) (by omega), w64 (x := v2 * 65536) (by omega) (by omega), w64 (x := v1 * 16777216 + v2 * 65536) (by omega) (by omega), w64 (x := v3 * 256) (by omega) (by omega), w64 (x := v1 * 16777216 + v2 * 65536 + v3 * 256) (by omega) (by omega), w64 (x := v1 * 16777216 + v2 * 65536 + v3 * 256 + v4) (by omega) (by omega), Int.tmod_eq_emod_of_nonneg (by omega)]
    exact ⟨_, 4, rfl, by decide, fun h => ⟨Int.emod_nonneg _ (by omega), Int.emod_lt_of_pos _ h⟩, fun h => by omega, fun _ h => by omega, fun h => by omega⟩
def g3 (v : Int) : Prop := v = 0 ∨ v = 3 ∨ v = 4
instance (v : Int) : Decidable (g3 v) := by unfold g3; infer_instance
/-- The next draw lets a text grow. -/
def Good (l : List Int) (i h : Int) : Prop := (l.length : Int) ≤ i ∧ g3 (vb (LC h) % 5)
def Win (l : List Int) (i h : Int) (d : Nat) : Prop := (l.length : Int) ≤ i + d ∧ ∀ j, j < 6 → g3 (vb (it LC (d + j + 1) h) % 5)
theorem win33 : ∀ j, j < 6 → g3 (vb (it LC (j + 1) 33) % 5) := by decide +kernel
theorem it_succ (f : Int → Int) (n : Nat) (x : Int) : it f (n + 1) x = f (it f n x) := it_add f n 1 x
theorem win_ex (l : List Int) (i h : Int) (k : Okst l i h) : ∃ d, 0 < d ∧ Win l i h d := by
  obtain ⟨n, hn, he⟩ := reach64 (l.length + 1) h 33 (by decide) k.2.2
  refine ⟨n, by omega, by have := k.1; omega, fun j hj => ?_⟩
  rw [show n + j + 1 = n + (j + 1) by omega, it_add, he]
  exact win33 j hj
theorem Win.good {l : List Int} {i h : Int} {d m : Nat} (k : Okst l i h) (w : Win l i h d) (h1 : d ≤ m) (h2 : m ≤ d + 5) : Good l (dn l m i) (it LC m h) := by
  refine ⟨?_, ?_⟩
  · rw [dn_eq l m i k.2.1]; have := w.1; omega
  · have := w.2 (m - d) (by omega)
    rwa [show d + (m - d) + 1 = m + 1 by omega, it_succ] at this
theorem Win.later {l : List Int} {i h : Int} {d m : Nat} (k : Okst l i h) (w : Win l i h d) (h1 : m < d) : Win l (dn l m i) (it LC m h) (d - m) := by
  refine ⟨?_, fun j hj => ?_⟩
  · rw [dn_eq l m i k.2.1]; have := w.1; omega
  · rw [← it_add, show m + (d - m + j + 1) = d + j + 1 by omega]
    exact w.2 j hj
theorem text_l1 (l : List Int) (n x7 i h : Int) (c : Nat) : ∀ (out : List Int) (x6 x8 : Int), 0 ≤ x8 → x6 ≤ 1000 → x6 - x8 = c → out.length + c ≤ 100000000 → ∀ r, Ev (fun k => spec_l01Text.l0 k n (out ++ List.replicate c x7) l i h) r → Ev (fun k => spec_l01Text.l1 k n out x6 x7 x8 l i h) r := by
  induction c with
  | zero =>
    intro out x6 x8 h0 h1 hc hs r hr
    refine Ev.step (fun k => ?_) (by simpa using hr)
    simp only [spec_l01Text.l1]
    rw [if_neg (by omega)]
  | succ c ih =>
    intro out x6 x8 h0 h1 hc hs r hr
    have hr2 : Ev (fun k => spec_l01Text.l0 k n (out ++ [x7] ++ List.replicate c x7) l i h) r := by simpa [List.replicate_succ] using hr
    refine Ev.step (fun k => ?_) (ih (out ++ [x7]) x6 (x8 + 1) (by omega) (by omega) (by omega) (by simp; omega) r hr2)
    simp only [spec_l01Text.l1]
    rw [if_pos (by omega), if_pos (by omega), w64 (by omega) (by omega)]
theorem text_l2 (l : List Int) (n x9 i h : Int) (h9 : 0 ≤ x9) (h9b : x9 ≤ 100000000) (c : Nat) : ∀ (out : List Int) (x10 x11 : Int), 0 ≤ x11 → x10 ≤ 1000 → x10 - x11 = c → out.length + c ≤ 100000000 → ∃ ex : List Int, ex.length ≤ c ∧ ∀ r, Ev (fun k => spec_l01Text.l0 k n (out ++ ex) l i h) r → Ev (fun k => spec_l01Text.l2 k n out x9 x10 x11 l i h) r := by
  induction c with
  | zero =>
    intro out x10 x11 h0 h1 hc hs
    refine ⟨[], Nat.le_refl _, fun r hr => Ev.step (fun k => ?_) (by simpa using hr)⟩
    simp only [spec_l01Text.l2]
    rw [if_neg (by omega)]
  | succ c ih =>
    intro out x10 x11 h0 h1 hc hs
    have e9 : wrap64 (x9 + x11) = x9 + x11 := w64 (by omega) (by omega)
    have e11 : wrap64 (x11 + 1) = x11 + 1 := w64 (by omega) (by omega)
    by_cases hlt : x9 + x11 < (out.length : Int)
    · obtain ⟨ex, hex, he⟩ := ih (out ++ [rd out (x9 + x11)]) x10 (x11 + 1) (by omega) (by omega) (by omega) (by simp; omega)
      refine ⟨rd out (x9 + x11) :: ex, by simp; omega, fun r hr => Ev.step (fun k => ?_) (he r (by simpa using hr))⟩
      simp only [spec_l01Text.l2]
      rw [if_pos (by omega), e9, e11, if_pos hlt, if_pos (by omega), if_pos (by omega)]
    · refine ⟨[], Nat.zero_le _, fun r hr => Ev.step (fun k => ?_) (by simpa using hr)⟩
      simp only [spec_l01Text.l2]
      rw [if_pos (by omega), e9, if_neg hlt]
/-- One round of l01Text: some draws, and the text grows or not; where the next draw is a good one, it does. -/
theorem text_iter (l : List Int) (hl : l.length ≤ 4611686018427387904) (n : Int) (hn : n ≤ 1000000) (out : List Int) (hout : (out.length : Int) < n) (i h : Int) (k : Okst l i h) :
    ∃ (m : Nat) (ex : List Int), 1 ≤ m ∧ m ≤ 6 ∧ ex.length ≤ 20 ∧ (Good l i h → ex ≠ []) ∧ ∀ r, Ev (fun k => spec_l01Text.l0 k n (out ++ ex) l (dn l m i) (it LC m h)) r → Ev (fun k => spec_l01Text.l0 k n out l i h) r := by
  obtain ⟨v, m1, e1, hm1, hv, _, hm, hg⟩ := below_ev l hl i h k 5 (by decide)
  obtain rfl : m1 = 1 := hm (by decide) (by decide)
  have hv1 := hv (by decide)
  have k1 := k.dn 1
  have hstep : ∀ (F : Nat → Option (ByteArray × Int × Int)) (r : ByteArray × Int × Int), Ev F r → (∀ k, spec_l01Text.l0 (k + 1) n out l i h = F k) → Ev (fun k => spec_l01Text.l0 k n out l i h) r := fun F r hF he => Ev.step (f := F) he hF
  by_cases v0 : v = 0
  · obtain ⟨b, e2, _, _, _⟩ := byte_ev l hl _ (it LC 1 h) k1.1
    refine ⟨2, [b % 256], by decide, by decide, by simp, fun _ => by simp, fun r hr => hstep _ r hr (fun k => ?_)⟩
    simp only [spec_l01Text.l0]
    rw [if_pos hout, e1, Option.bind_some, if_pos v0, e2, Option.bind_some, if_pos (by omega)]
    rfl
  by_cases v1 : v = 1
  · obtain ⟨c, m2, e2, hm2, hc, _, hm2', _⟩ := below_ev l hl _ (it LC 1 h) k1 9 (by decide)
    obtain rfl : m2 = 1 := hm2' (by decide) (by decide)
    obtain ⟨y, m3, e3, hm3, hy, _, hm3', _⟩ := below_ev l hl _ (it LC 1 (it LC 1 h)) (k1.dn 1) 4 (by decide)
    obtain rfl : m3 = 1 := hm3' (by decide) (by decide)
    have hc2 := hc (by decide)
    refine ⟨3, List.replicate c.toNat ((wrap64 (97 + y)) % 256), by decide, by decide, by simp; omega, fun hg2 => ?_, fun r hr => hstep _ r (text_l1 l n ((wrap64 (97 + y)) % 256) _ _ c.toNat out c 0 (by decide) (by omega) (by omega) (by omega) r hr) (fun k => ?_)⟩
    · have h5 := hg rfl hg2.1
      have := hg2.2
      unfold g3 at this
      omega
    · simp only [spec_l01Text.l0]
      rw [if_pos hout, e1, Option.bind_some, if_neg v0, if_pos v1, e2, Option.bind_some, e3, Option.bind_some]
      rfl
  by_cases v2 : v = 2
  · by_cases hpos : (out.length : Int) > 0
    · obtain ⟨x, m2, e2, hm2, hx, _, _, _⟩ := below_ev l hl _ (it LC 1 h) k1 out.length (by omega)
      obtain ⟨c, m3, e3, hm3, hc, _, hm3', _⟩ := below_ev l hl _ (it LC m2 (it LC 1 h)) (k1.dn m2) 20 (by decide)
      obtain rfl : m3 = 1 := hm3' (by decide) (by decide)
      have hc2 := hc (by decide)
      have hx2 := hx hpos
      obtain ⟨ex, hex, he⟩ := text_l2 l n x (dn l 1 (dn l m2 (dn l 1 i))) (it LC 1 (it LC m2 (it LC 1 h))) hx2.1 (by omega) c.toNat out c 0 (by decide) (by omega) (by omega) (by omega)
      refine ⟨1 + m2 + 1, ex, by omega, by omega, by omega, fun hg2 => ?_, fun r hr => hstep _ r (he r ?_) (fun k => ?_)⟩
      · have h5 := hg rfl hg2.1
        have := hg2.2
        unfold g3 at this
        omega
      · rwa [dn_add, dn_add, it_add, it_add] at hr
      · simp only [spec_l01Text.l0]
        rw [if_pos hout, e1, Option.bind_some, if_neg v0, if_neg v1, if_pos v2, if_pos hpos, e2, Option.bind_some, e3, Option.bind_some]
    · refine ⟨1, [], by decide, by decide, by simp, fun hg2 => ?_, fun r hr => hstep _ r (by simpa using hr) (fun k => ?_)⟩
      · have h5 := hg rfl hg2.1
        have := hg2.2
        unfold g3 at this
        omega
      · simp only [spec_l01Text.l0]
        rw [if_pos hout, e1, Option.bind_some, if_neg v0, if_neg v1, if_pos v2, if_neg hpos]
  · obtain ⟨y, m2, e2, hm2, hy, _, hm2', _⟩ := below_ev l hl _ (it LC 1 h) k1 26 (by decide)
    obtain rfl : m2 = 1 := hm2' (by decide) (by decide)
    refine ⟨2, [(wrap64 (97 + y)) % 256], by decide, by decide, by simp, fun _ => by simp, fun r hr => hstep _ r hr (fun k => ?_)⟩
    simp only [spec_l01Text.l0]
    rw [if_pos hout, e1, Option.bind_some, if_neg v0, if_neg v1, if_neg v2, e2, Option.bind_some, if_pos (by omega)]
    rfl
theorem text_end (l : List Int) (hl : l.length ≤ 4611686018427387904) (n : Int) (hn0 : 0 ≤ n) (hn : n ≤ 1000000) (R : Nat) :
    ∀ (d : Nat) (out : List Int) (i h : Int), Okst l i h → (d = 0 ∧ Good l i h ∨ 0 < d ∧ Win l i h d) → n - out.length ≤ R → (out.length : Int) ≤ n + 20 →
    ∃ s i' h', s.size = n.toNat ∧ Okst l i' h' ∧ Ev (fun k => spec_l01Text.l0 k n out l i h) (s, i', h') := by
  have hdone : ∀ (out : List Int) (i h : Int), Okst l i h → n ≤ (out.length : Int) → ∃ s i' h', s.size = n.toNat ∧ Okst l i' h' ∧ Ev (fun k => spec_l01Text.l0 k n out l i h) (s, i', h') := by
    intro out i h k hge
    refine ⟨strOfNums (out.take n.toNat), i, h, by rw [strOfNums_size]; simp; omega, k, ev_at (fun k => ?_)⟩
    simp only [spec_l01Text.l0]
    rw [if_neg (by omega), if_pos hn0, if_pos hge]
  induction R with
  | zero => intro d out i h k _ hR _; exact hdone out i h k (by omega)
  | succ R ih =>
    intro d
    induction d using Nat.strongRecOn with
    | ind d ihd =>
      intro out i h k hw hR hsz
      by_cases hlt : n ≤ (out.length : Int)
      · exact hdone out i h k hlt
      obtain ⟨m, ex, hm1, hm6, hex, hgood, hgo⟩ := text_iter l hl n hn out (by omega) i h k
      by_cases he : ex = []
      · subst he
        have hd : 0 < d ∧ Win l i h d := by
          rcases hw with ⟨_, hg⟩ | hw
          · exact absurd rfl (hgood hg)
          · exact hw
        simp only [List.append_nil] at hgo
        by_cases hmd : m < d
        · obtain ⟨s, i', h', h1, h2, h3⟩ := ihd (d - m) (by omega) out _ _ (k.dn m) (.inr ⟨by omega, hd.2.later k hmd⟩) hR hsz
          exact ⟨s, i', h', h1, h2, hgo _ h3⟩
        · obtain ⟨s, i', h', h1, h2, h3⟩ := ihd 0 hd.1 out _ _ (k.dn m) (.inl ⟨rfl, hd.2.good k (by omega) (by omega)⟩) hR hsz
          exact ⟨s, i', h', h1, h2, hgo _ h3⟩
      · have hlen : 1 ≤ ex.length := by
          cases ex with
          | nil => exact absurd rfl he
          | cons _ _ => simp
        obtain ⟨d2, hd2, hw2⟩ := win_ex l _ _ (k.dn m)
        obtain ⟨s, i', h', h1, h2, h3⟩ := ih d2 (out ++ ex) _ _ (k.dn m) (.inr ⟨hd2, hw2⟩) (by simp; omega) (by simp; omega)
        exact ⟨s, i', h', h1, h2, hgo _ h3⟩
theorem text_ev (l : List Int) (hl : l.length ≤ 4611686018427387904) (n : Int) (hn0 : 0 ≤ n) (hn : n ≤ 1000000) (i h : Int) (k : Okst l i h) : ∃ s i' h', s.size = n.toNat ∧ Okst l i' h' ∧ Ev (fun k => spec_l01Text.f k l i h n) (s, i', h') := by
  obtain ⟨d, hd, hw⟩ := win_ex l i h k
  exact text_end l hl n hn0 hn n.toNat d [] i h k (.inr ⟨hd, hw⟩) (by simp; omega) (by simp; omega)
theorem rd_midB (pre : List Int) (x : Int) (t : List Int) {i : Int} (hi : i = pre.length) : rd (pre ++ x :: t) i = x := by
  subst hi
  simp [rd]
theorem set_midB (pre : List Int) (x y : Int) (t : List Int) {i : Int} (hi : i = pre.length) : (pre ++ x :: t).set i.toNat y = pre ++ y :: t := by
  subst hi
  simp
theorem bt_nn (s : ByteArray) (i : Int) : 0 ≤ bt s i := by unfold bt; split <;> omega
theorem bt_le (s : ByteArray) (i : Int) : bt s i ≤ 255 := by
  unfold bt
  split
  · rename_i h
    have := (s[i.toNat]'h).toNat_lt
    omega
  · omega
theorem or_sum (i j : Nat) (hj : j ≤ 32) (hij : i ≤ j) (x y : Int) (hx0 : 0 ≤ x) (hx : x < 2 ^ i) (hy0 : 0 ≤ y) (hy : y % 2 ^ i = 0) (hy1 : y < 2 ^ j) : Go.bits .or .u32 x y = x + y := by
  have hx1 : x < 2 ^ j := Int.lt_of_lt_of_le hx (by exact_mod_cast Nat.pow_le_pow_right (by decide) hij)
  have wr : ∀ n : Int, 0 ≤ n → n < 2 ^ j → IntKind.u32.wrap n = n := by
    intro n h0 h1
    have : (2 : Int) ^ j ≤ 2 ^ 32 := by exact_mod_cast Nat.pow_le_pow_right (by decide) hj
    rw [IntKind.wrap_u32]
    have e : (2 : Int) ^ 32 = 4294967296 := by decide
    omega
  have h := bits_join .u32 j hj wr i y x hy0 hy hy1 hx0 hx hx1
  obtain ⟨a, rfl⟩ := Int.eq_ofNat_of_zero_le hx0
  obtain ⟨b, rfl⟩ := Int.eq_ofNat_of_zero_le hy0
  have ha : a < 2 ^ j := by exact_mod_cast hx1
  have hb : b < 2 ^ j := by exact_mod_cast hy1
  rw [(bits_nat .u32 j hj wr a b ha hb).2, Nat.or_comm, ← (bits_nat .u32 j hj wr b a hb ha).2, h]
  omega
/-- The word of a text's first four bytes. -/
def WD (s : ByteArray) : Int := bt s 0 + 256 * bt s 1 + 65536 * bt s 2 + 16777216 * bt s 3
theorem WD_nn (s : ByteArray) : 0 ≤ WD s := by
  have := bt_nn s 0; have := bt_nn s 1; have := bt_nn s 2; have := bt_nn s 3
  unfold WD; omega
theorem WD_lt (s : ByteArray) : WD s < 4294967296 := by
  have := bt_le s 0; have := bt_le s 1; have := bt_le s 2; have := bt_le s 3
  unfold WD; omega
theorem word_or (a b c d : Int) (a0 : 0 ≤ a) (a1 : a ≤ 255) (b0 : 0 ≤ b) (b1 : b ≤ 255) (c0 : 0 ≤ c) (c1 : c ≤ 255) (d0 : 0 ≤ d) (d1 : d ≤ 255) :
    Go.bits .or .u32 (Go.bits .or .u32 (Go.bits .or .u32 (a % 4294967296) (((b % 4294967296) * 256) % 4294967296)) (((c % 4294967296) * 65536) % 4294967296)) (((d % 4294967296) * 16777216) % 4294967296) = a + 256 * b + 65536 * c + 16777216 * d := by
  rw [show a % 4294967296 = a by omega, show ((b % 4294967296) * 256) % 4294967296 = b * 256 by omega, show ((c % 4294967296) * 65536) % 4294967296 = c * 65536 by omega, show ((d % 4294967296) * 16777216) % 4294967296 = d * 16777216 by omega]
  rw [or_sum 8 16 (by decide) (by decide) a (b * 256) a0 (by omega) (by omega) (by omega) (by omega)]
  rw [or_sum 16 24 (by decide) (by decide) (a + b * 256) (c * 65536) (by omega) (by omega) (by omega) (by omega) (by omega)]
  rw [or_sum 24 32 (by decide) (by decide) (a + b * 256 + c * 65536) (d * 16777216) (by omega) (by omega) (by omega) (by omega) (by omega)]
  omega
theorem bt_extract (s : ByteArray) (n : Nat) (hn : n ≤ s.size) (i : Nat) (hi : i < n) : bt (s.extract 0 n) i = bt s i := by
  unfold bt
  have h1 : ((i : Int)).toNat < (s.extract 0 n).size := by simp; omega
  have h2 : ((i : Int)).toNat < s.size := by simp; omega
  rw [dif_pos h1, dif_pos h2]
  simp only [Int.toNat_natCast, ByteArray.getElem_extract, Nat.zero_add]
theorem impl_word (s : ByteArray) (h : 4 ≤ s.size) : impl_readWord.f s = some (WD s) := by
  unfold impl_readWord.f
  rw [if_pos (by omega), if_pos (by omega), if_pos (by omega), if_pos (by omega)]
  rw [word_or _ _ _ _ (bt_nn s 0) (bt_le s 0) (bt_nn s 1) (bt_le s 1) (bt_nn s 2) (bt_le s 2) (bt_nn s 3) (bt_le s 3)]
  rfl
theorem rd_mid26 (pre : List S26) (x : S26) (t : List S26) {i : Int} (hi : i = pre.length) : rd_T26 (pre ++ x :: t) i = x := by
  subst hi
  simp [rd_T26]
theorem set_mid26 (pre : List S26) (x y : S26) (t : List S26) {i : Int} (hi : i = pre.length) : (pre ++ x :: t).set i.toNat y = pre ++ y :: t := by
  subst hi
  simp
/-- The frames of a text, and what is left of it. -/
def rp : Nat → ByteArray → List S26 → ByteArray × List S26 × Bool
  | 0, s, acc => (s, acc, false)
  | n + 1, s, acc => if s.size < 4 then (s, acc, false) else if WD s > 8007 then (⟨#[]⟩, acc, true) else if (s.size : Int) < 4 + WD s / 8 then (s, acc, false) else rp n (s.extract (4 + WD s / 8).toNat s.size) (acc ++ [⟨WD s % 8, s.extract 4 (4 + WD s / 8).toNat⟩])
theorem impl_rp (n : Nat) : ∀ (s : ByteArray) (acc : List S26), s.size ≤ n → acc.length + n ≤ 4611686018427 → Ev (fun k => impl_ReaderPush.l0 k s ⟨#[]⟩ acc false) (rp n s acc) := by
  induction n with
  | zero =>
    intro s acc hs hb
    exact ev_at (fun k => by simp only [impl_ReaderPush.l0]; rw [if_neg (by omega)]; rfl)
  | succ n ih =>
    intro s acc hs hb
    by_cases h4 : s.size < 4
    · rw [show rp (n + 1) s acc = (s, acc, false) by simp only [rp]; rw [if_pos h4]]
      exact ev_at (fun k => by simp only [impl_ReaderPush.l0]; rw [if_neg (by omega)])
    have hw0 := WD_nn s
    have hw1 := WD_lt s
    have e2 : (Int.tdiv (WD s) 8) % 4294967296 = WD s / 8 := by rw [Int.tdiv_eq_ediv_of_nonneg hw0]; omega
    have e4 : wrap64 (Int.tmod (WD s) 8) = WD s % 8 := by rw [Int.tmod_eq_emod_of_nonneg hw0]; exact w64 (by omega) (by omega)
    by_cases hbad : WD s > 8007
    · rw [show rp (n + 1) s acc = (⟨#[]⟩, acc, true) by simp only [rp]; rw [if_neg h4, if_pos hbad]]
      refine ev_at (fun k => ?_)
      simp only [impl_ReaderPush.l0]
      rw [if_pos (by omega), impl_word s (by omega)]
      simp only [Option.bind_some]
      rw [if_pos hbad]
    by_cases hsh : (s.size : Int) < 4 + WD s / 8
    · rw [show rp (n + 1) s acc = (s, acc, false) by simp only [rp]; rw [if_neg h4, if_neg hbad, if_pos hsh]]
      refine ev_at (fun k => ?_)
      simp only [impl_ReaderPush.l0]
      rw [if_pos (by omega), impl_word s (by omega)]
      simp only [Option.bind_some]
      rw [e2, if_neg hbad, if_pos hsh]
    · rw [show rp (n + 1) s acc = rp n (s.extract (4 + WD s / 8).toNat s.size) (acc ++ [⟨WD s % 8, s.extract 4 (4 + WD s / 8).toNat⟩]) by simp only [rp]; rw [if_neg h4, if_neg hbad, if_neg hsh]]
      refine Ev.step (fun k => ?_) (ih _ _ (by simp; omega) (by simp; omega))
      simp only [impl_ReaderPush.l0]
      rw [if_pos (by omega), impl_word s (by omega)]
      simp only [Option.bind_some]
      rw [e2, e4, if_neg hbad, if_neg hsh, if_pos (by omega), if_pos (by omega), if_pos (by omega), if_pos (by omega)]
/-- What a push makes of a reader. -/
def rpv (rest : ByteArray) (fs : List S26) (bad : Bool) (b : List Int) : ByteArray × List S26 × Bool :=
  if bad = true ∨ rest.size > 1004 ∨ b.length > 100000 then (⟨#[]⟩, fs, true) else rp (rest.size + b.length) (rest ++ strOfNums b) fs
theorem impl_push (rest : ByteArray) (fs : List S26) (bad : Bool) (b : List Int) (hf : fs.length ≤ 1000000000000) : Ev (fun k => impl_ReaderPush.f k rest fs bad b) (rpv rest fs bad b) := by
  unfold impl_ReaderPush.f rpv
  have e : impl_Frame.f fs = some fs := by unfold impl_Frame.f; rw [if_pos (by omega)]
  simp only [e, Option.bind_some]
  by_cases h1 : bad = true
  · rw [if_pos (.inl h1)]
    refine Ev.congr (fun k => by rw [if_pos h1]) (ev_at (fun k => by simp [impl_ReaderPush.j0]))
  by_cases h2 : rest.size > 1004
  · rw [if_pos (.inr (.inl h2))]
    refine Ev.congr (fun k => by rw [if_neg h1, if_pos (by omega)]) (ev_at (fun k => by simp [impl_ReaderPush.j0]))
  by_cases h3 : b.length > 100000
  · rw [if_pos (.inr (.inr h3))]
    refine Ev.congr (fun k => by rw [if_neg h1, if_neg (by omega), decide_eq_true (by omega)]) (ev_at (fun k => by simp [impl_ReaderPush.j0]))
  · rw [if_neg (by rintro (h | h | h) <;> contradiction)]
    refine Ev.congr (fun k => by rw [if_neg h1, if_neg (by omega), decide_eq_false (by omega)]) (Ev.step (fun k => ?_) (impl_rp _ _ _ (by rw [ByteArray.size_append, strOfNums_size]; omega) (by omega)))
    simp only [impl_ReaderPush.j0]
    rw [if_neg (by decide), if_pos (by rw [strOfNums_size]; omega)]
theorem rp_len (n : Nat) : ∀ (s : ByteArray) (acc : List S26), (rp n s acc).2.1.length ≤ acc.length + n := by
  induction n with
  | zero => intro s acc; simp [rp]
  | succ n ih =>
    intro s acc
    simp only [rp]
    split
    · show acc.length ≤ _; omega
    split
    · show acc.length ≤ _; omega
    split
    · show acc.length ≤ _; omega
    · have := ih (s.extract (4 + WD s / 8).toNat s.size) (acc ++ [⟨WD s % 8, s.extract 4 (4 + WD s / 8).toNat⟩])
      simp at this
      omega
theorem bytesOf_sub (s : ByteArray) (a b : Nat) : bytesOf (s.extract a b) = ((bytesOf s).drop a).take (b - a) := by
  simp only [bytesOf, ByteArray.data_extract, Array.toList_extract, List.extract_eq_take_drop, List.map_take, List.map_drop]
theorem bytesOf_drop (s : ByteArray) (n : Nat) : (bytesOf s).drop n = bytesOf (s.extract n s.size) := by
  rw [bytesOf_sub, List.take_of_length_le (by rw [List.length_drop, bytesOf_length]; exact Nat.le_refl _)]
theorem bytesOf_take (s : ByteArray) (n : Nat) : (bytesOf s).take n = bytesOf (s.extract 0 n) := by
  rw [bytesOf_sub, List.drop_zero, Nat.sub_zero]
theorem bytesOf_strOf : ∀ (l : List Int), (∀ x ∈ l, 0 ≤ x ∧ x < 256) → bytesOf (strOfNums l) = l := by
  intro l h
  unfold bytesOf
  rw [strOfNums_data, List.map_map]
  conv => rhs; rw [← List.map_id l]
  refine List.map_congr_left (fun x hx => ?_)
  obtain ⟨h0, h1⟩ := h x hx
  simp
  omega
/-- A frame's bytes. -/
def wd (n : Int) : List Int := [n % 256, n / 256 % 256, n / 65536 % 256, n / 16777216 % 256]
def pfv (tag : Int) (s : ByteArray) : List Int := if 0 ≤ tag ∧ tag ≤ 7 ∧ s.size ≤ 1000 then wd (8 * s.size + tag) ++ bytesOf s else []
theorem pfv_len (tag : Int) (s : ByteArray) : (pfv tag s).length ≤ 1004 := by
  unfold pfv
  split
  · rename_i h
    rw [List.length_append, bytesOf_length]
    simp [wd]
    omega
  · simp
theorem wd_range (n : Int) : ∀ x ∈ wd n, 0 ≤ x ∧ x < 256 := by
  intro x hx
  simp only [wd, List.mem_cons, List.not_mem_nil, or_false] at hx
  omega
theorem spec_ok (tag : Int) (s : ByteArray) : spec_FrameOk.f tag s = some (decide (0 ≤ tag ∧ tag ≤ 7 ∧ s.size ≤ 1000)) := by
  unfold spec_FrameOk.f spec_l01In.f
  by_cases h0 : tag ≥ 0
  · rw [if_pos h0]
    by_cases h1 : tag ≤ 7
    · simp [h0, h1]; omega
    · simp [h1]
  · rw [if_neg h0]
    have : ¬ 0 ≤ tag := by omega
    simp [this]
theorem spec_pf (tag : Int) (s : ByteArray) : spec_PutFrame.f tag s = some (pfv tag s) := by
  unfold spec_PutFrame.f
  rw [spec_ok, Option.bind_some]
  unfold pfv
  by_cases h : 0 ≤ tag ∧ tag ≤ 7 ∧ s.size ≤ 1000
  · rw [if_pos h, if_pos (decide_eq_true h)]
    obtain ⟨h0, h1, h2⟩ := h
    have e1 : wrap64 (8 * (s.size : Int)) = 8 * s.size := w64 (by omega) (by omega)
    have e2 : wrap64 (8 * (s.size : Int) + tag) = 8 * s.size + tag := w64 (by omega) (by omega)
    have e3 : (8 * (s.size : Int) + tag) % 4294967296 = 8 * s.size + tag := by omega
    rw [e1, e2, e3]
    have hn : spec_PutWord.f (8 * (s.size : Int) + tag) = some (wd (8 * s.size + tag)) := by
      generalize hk : 8 * (s.size : Int) + tag = n
      have e4 : wrap64 n = n := w64 (by omega) (by omega)
      unfold spec_PutWord.f wd
      rw [e4, Int.tdiv_eq_ediv_of_nonneg (by omega), Int.tdiv_eq_ediv_of_nonneg (by omega), Int.tdiv_eq_ediv_of_nonneg (by omega), w64 (x := n / 256) (by omega) (by omega), w64 (x := n / 65536) (by omega) (by omega), w64 (x := n / 16777216) (by omega) (by omega), Int.tmod_eq_emod_of_nonneg (by omega), Int.tmod_eq_emod_of_nonneg (by omega), Int.tmod_eq_emod_of_nonneg (by omega)]
      simp
    rw [hn, Option.bind_some, if_pos (by omega), Option.bind_some, if_pos (by rw [bytesOf_length]; simp [wd]; omega)]
  · rw [if_neg h, if_neg (by simpa using h)]
theorem ok_pos (x : S26) (h : impl_PutFrames.ok x = true) : 0 ≤ x.f0 ∧ x.f0 ≤ 7 ∧ x.f1.size ≤ 1000 := of_decide_eq_true h
theorem pfv_ft (x : S26) (h : impl_PutFrames.ok x = true) : pfv x.f0 x.f1 = bytesOf (impl_PutFrames.ft x) := by
  unfold pfv impl_PutFrames.ft
  rw [if_pos (ok_pos x h), bytesOf_append]
  rw [show impl_PutFrames.wd = wd from rfl, bytesOf_strOf _ (wd_range _)]
theorem all_acc (l : List S26) : ∀ acc : ByteArray, impl_PutFrames.all l acc = acc ++ impl_PutFrames.all l ⟨#[]⟩ := by
  induction l with
  | nil => intro acc; apply ByteArray.ext; simp [impl_PutFrames.all, ByteArray.data_append]
  | cons x t ih =>
    intro acc
    simp only [impl_PutFrames.all]
    rw [ih (acc ++ impl_PutFrames.ft x), ih ((⟨#[]⟩ : ByteArray) ++ impl_PutFrames.ft x)]
    apply ByteArray.ext
    simp [ByteArray.data_append, Array.append_assoc]
def pfsv (l : List S26) : List Int := if impl_PutFrames.fit l 0 = true then bytesOf (impl_PutFrames.all l ⟨#[]⟩) else []
theorem pfsv_len (l : List S26) : (pfsv l).length ≤ 100000 := by
  unfold pfsv
  split
  · rename_i h
    have := impl_PutFrames.all_size l 0 ⟨#[]⟩ (by decide) h
    have h0 : (⟨#[]⟩ : ByteArray).size = 0 := rfl
    rw [bytesOf_length]
    omega
  · simp
theorem impl_pfs (l : List S26) : impl_PutFrames.f l = some (pfsv l) := by
  unfold impl_PutFrames.f pfsv
  split <;> rfl
theorem spec_pfs0 (suf : List S26) : ∀ (pre : List S26) (acc : List Int) (i : Int), i = pre.length → pre.length + suf.length ≤ 4611686018427387904 → acc.length ≤ 100000 →
    Ev (fun k => spec_PutFrames.l0 k (pre ++ suf) acc i) (if impl_PutFrames.fit suf acc.length = true then acc ++ bytesOf (impl_PutFrames.all suf ⟨#[]⟩) else []) := by
  induction suf with
  | nil =>
    intro pre acc i hi hl ha
    refine ev_at (fun k => ?_)
    simp only [spec_PutFrames.l0]
    rw [if_neg (by simp; omega)]
    simp [impl_PutFrames.fit, impl_PutFrames.all, bytesOf]
  | cons x t ih =>
    intro pre acc i hi hl ha
    simp only [List.length_cons] at hl
    have e3 : wrap64 (i + 1) = i + 1 := w64 (by omega) (by omega)
    have c1 : i < ((pre ++ x :: t).length : Int) := by simp; omega
    have c2 : 0 ≤ i := by omega
    by_cases hk : impl_PutFrames.ok x = true
    · have hs1 := ok_pos x hk
      have hlen : (acc ++ bytesOf (impl_PutFrames.ft x)).length = acc.length + (4 + x.f1.size) := by rw [List.length_append, bytesOf_length, impl_PutFrames.ft_size]
      by_cases hb : ((acc ++ bytesOf (impl_PutFrames.ft x)).length : Int) > 100000
      · have hf : impl_PutFrames.fit (x :: t) acc.length = false := by
          simp only [impl_PutFrames.fit, hk, Bool.true_and]
          rw [decide_eq_false (by rw [hlen] at hb; omega), Bool.false_and]
        rw [if_neg (by rw [hf]; decide)]
        refine ev_at (fun k => ?_)
        simp only [spec_PutFrames.l0]
        rw [if_pos c1, if_pos c2, rd_mid26 pre x t hi, spec_ok, Option.bind_some, if_pos (decide_eq_true hs1), spec_pf, Option.bind_some, pfv_ft x hk, if_pos (by rw [List.length_append] at hlen; omega), Option.bind_some, if_pos hb]
      · have h := ih (pre ++ [x]) (acc ++ bytesOf (impl_PutFrames.ft x)) (i + 1) (by simp; omega) (by simp; omega) (by omega)
        have hf : impl_PutFrames.fit (x :: t) acc.length = impl_PutFrames.fit t ((acc ++ bytesOf (impl_PutFrames.ft x)).length : Int) := by
          simp only [impl_PutFrames.fit, hk, Bool.true_and]
          rw [hlen] at hb ⊢
          rw [decide_eq_true (by omega), Bool.true_and]
          congr 1
        have ha2 : acc ++ bytesOf (impl_PutFrames.all (x :: t) ⟨#[]⟩) = acc ++ bytesOf (impl_PutFrames.ft x) ++ bytesOf (impl_PutFrames.all t ⟨#[]⟩) := by
          simp only [impl_PutFrames.all]
          rw [all_acc t, bytesOf_append, bytesOf_append, List.append_assoc]
          simp [bytesOf]
        rw [hf, ha2]
        refine Ev.step (f := fun k => spec_PutFrames.l0 k (pre ++ x :: t) (acc ++ bytesOf (impl_PutFrames.ft x)) (i + 1)) (fun k => ?_) (by simpa using h)
        simp only [spec_PutFrames.l0]
        rw [if_pos c1, if_pos c2, rd_mid26 pre x t hi, spec_ok, Option.bind_some, if_pos (decide_eq_true hs1), spec_pf, Option.bind_some, pfv_ft x hk, if_pos (by rw [List.length_append] at hlen; omega), Option.bind_some, if_neg hb, e3]
    · have hf : impl_PutFrames.fit (x :: t) acc.length = false := by simp [impl_PutFrames.fit, hk]
      rw [if_neg (by rw [hf]; decide)]
      refine ev_at (fun k => ?_)
      simp only [spec_PutFrames.l0]
      rw [if_pos c1, if_pos c2, rd_mid26 pre x t hi, spec_ok, Option.bind_some, if_neg (by intro h; exact hk h)]
theorem spec_pfs (l : List S26) (hl : l.length ≤ 4611686018427387904) : Ev (fun k => spec_PutFrames.f k l) (pfsv l) := by
  have h := spec_pfs0 l [] [] 0 rfl (by simpa using hl) (by simp)
  simpa [spec_PutFrames.f, pfsv] using h
theorem bits_range (op : BinOp) (a b : Int) (h : op = .and ∨ op = .xor ∨ op = .or) : -9223372036854775808 ≤ Go.bits op .i64 a b ∧ Go.bits op .i64 a b < 9223372036854775808 := by
  rcases h with rfl | rfl | rfl <;> (simp only [bits]; rw [IntKind.wrap_i64]; omega)
theorem wrap_range (x : Int) : -9223372036854775808 ≤ wrap64 x ∧ wrap64 x < 9223372036854775808 := by unfold wrap64; omega
theorem new_ev0 (l : List Int) (d : Nat) : ∀ (i : Nat) (h : Int), 4000 - i = d → i ≤ 4000 → -9223372036854775808 ≤ h ∧ h < 9223372036854775808 → ∃ h', Okst l 0 h' ∧ Ev (fun k => spec_l01New.l0 k l h i) (l, 0, h') := by
  induction d with
  | zero =>
    intro i h hd hi hh
    refine ⟨h, ⟨Int.le_refl 0, by omega, hh⟩, ev_at (fun k => ?_)⟩
    simp only [spec_l01New.l0]
    split
    · rw [if_neg (by omega)]
    · rfl
  | succ d ih =>
    intro i h hd hi hh
    by_cases hlt : (i : Int) < (l.length : Int)
    · obtain ⟨h', hk, he⟩ := ih (i + 1) (Go.bits .and .i64 (wrap64 ((wrap64 ((wrap64 (h * 131)) + (wrap64 (rd l i)))) + 7)) 1073741823) (by omega) (by omega) (bits_range .and _ _ (.inl rfl))
      refine ⟨h', hk, Ev.step (fun k => ?_) he⟩
      simp only [spec_l01New.l0]
      rw [if_pos hlt, if_pos (by omega), if_pos (by omega), w64 (x := (i : Int) + 1) (by omega) (by omega)]
      rfl
    · refine ⟨h, ⟨Int.le_refl 0, by omega, hh⟩, ev_at (fun k => ?_)⟩
      simp only [spec_l01New.l0]
      rw [if_neg hlt]
theorem new_ev (l : List Int) : ∃ h', Okst l 0 h' ∧ Ev (fun k => spec_l01New.f k l) (l, 0, h') := new_ev0 l 4000 0 _ rfl (by omega) (wrap_range _)
theorem once_ev (l : List Int) (hl : l.length ≤ 4611686018427387904) (i h : Int) (k : Okst l i h) (a : Int) (ha : a ≤ 4611686018427387904) : ∃ b i' h', spec_l01Once.f l i h a = some (b, i', h') ∧ Okst l i' h' := by
  obtain ⟨v, m, e, _⟩ := below_ev l hl i h k a ha
  refine ⟨v == 0, dn l m i, it LC m h, ?_, k.dn m⟩
  unfold spec_l01Once.f
  rw [e]
  rfl
theorem size_ev (l : List Int) (hl : l.length ≤ 4611686018427387904) (a : Int) (ha : 2 ≤ a) : ∃ v, spec_l01Size.f l a = some v ∧ 2 ≤ v ∧ v ≤ a := by
  have e : wrap64 (2 + wrap64 ((l.length : Int) / 20)) = 2 + (l.length : Int) / 20 := by rw [w64 (x := (l.length : Int) / 20) (by omega) (by omega), w64 (by omega) (by omega)]
  unfold spec_l01Size.f
  rw [e]
  split
  · exact ⟨a, rfl, ha, Int.le_refl a⟩
  · exact ⟨_, rfl, by omega, by omega⟩
theorem pickint_ev (l : List Int) (hl : l.length ≤ 4611686018427387904) (i h : Int) (k : Okst l i h) (xs : List Int) (hx : 0 < xs.length) (hx2 : xs.length ≤ 1000) : ∃ v i' h', spec_l01PickInt.f l i h xs = some (v, i', h') ∧ Okst l i' h' ∧ v ∈ xs := by
  obtain ⟨v, m, e, _, hv, _⟩ := below_ev l hl i h k xs.length (by omega)
  have hv2 := hv (by omega)
  refine ⟨rd xs v, dn l m i, it LC m h, ?_, k.dn m, ?_⟩
  · unfold spec_l01PickInt.f
    rw [e, Option.bind_some, if_pos hv2.1, if_pos hv2.2]
  · have hn : v.toNat < xs.length := by omega
    have : rd xs v = xs[v.toNat] := by simp [rd, hn]
    rw [this]
    exact List.getElem_mem hn
theorem frames_end (l : List Int) (hl : l.length ≤ 4611686018427387904) (n : Int) (hn : n ≤ 1000) (d : Nat) : ∀ (out : List S26) (j i h : Int), 0 ≤ j → n - j ≤ d → out.length ≤ 1000000 - d → d ≤ 1000 → Okst l i h →
    ∃ fs i' h', Okst l i' h' ∧ (fs.length : Int) = max (n - j) 0 ∧ (∀ x ∈ fs, 0 ≤ x.f0 ∧ x.f0 ≤ 7 ∧ x.f1.size ≤ 1000) ∧ Ev (fun k => spec_l17Frames.l0 k n out j l i h) (out ++ fs, i', h') := by
  induction d with
  | zero =>
    intro out j i h hj hd ho hd2 k
    refine ⟨[], i, h, k, by simp only [List.length_nil]; omega, fun x hx => absurd hx (by simp), ev_at (fun k => ?_)⟩
    simp only [spec_l17Frames.l0]
    rw [if_neg (by omega)]
    simp
  | succ d ih =>
    intro out j i h hj hd ho hd2 k
    by_cases hlt : j < n
    · obtain ⟨v, m1, e1, _, hv, _⟩ := below_ev l hl i h k 20 (by decide)
      have hv1 := hv (by decide)
      have k1 := k.dn m1
      obtain ⟨b, i2, h2, e2, k2⟩ := once_ev l hl _ _ k1 30 (by decide)
      obtain ⟨tg, m3, e3, _, ht, _⟩ := below_ev l hl i2 h2 k2 8 (by decide)
      have ht1 := ht (by decide)
      have k3 := k2.dn m3
      have ej : wrap64 (j + 1) = j + 1 := w64 (by omega) (by omega)
      have key : ∀ q : Int, 0 ≤ q → q ≤ 1000 → ∃ fs i' h', Okst l i' h' ∧ (fs.length : Int) = max (n - j) 0 ∧ (∀ x ∈ fs, 0 ≤ x.f0 ∧ x.f0 ≤ 7 ∧ x.f1.size ≤ 1000) ∧ Ev (fun k => (spec_l01Text.f k l (dn l m3 i2) (it LC m3 h2) q).bind fun t => if out.length < 5864062014805 then spec_l17Frames.l0 k n (out ++ [(⟨tg, t.1⟩ : S26)]) (j + 1) l t.2.1 t.2.2 else none) (out ++ fs, i', h') := by
        intro q hq0 hq1
        obtain ⟨s, i4, h4, hs, k4, he⟩ := text_ev l hl q hq0 (by omega) _ _ k3
        obtain ⟨fs, i', h', k', hf, hx, hgo⟩ := ih (out ++ [(⟨tg, s⟩ : S26)]) (j + 1) i4 h4 (by omega) (by omega) (by simp; omega) (by omega) k4
        refine ⟨⟨tg, s⟩ :: fs, i', h', k', by simp only [List.length_cons]; omega, ?_, ?_⟩
        · intro x hx2
          rcases List.mem_cons.1 hx2 with rfl | hx2
          · exact ⟨ht1.1, by show tg ≤ 7; omega, by show s.size ≤ 1000; omega⟩
          · exact hx x hx2
        · refine Ev.bind he (Ev.congr (fun k => by rw [if_pos (by omega)]) ?_)
          simpa using hgo
      cases b with
      | true =>
        obtain ⟨fs, i', h', k', hf, hx, hgo⟩ := key 1000 (by decide) (by decide)
        refine ⟨fs, i', h', k', hf, hx, Ev.step (fun k => ?_) hgo⟩
        simp only [spec_l17Frames.l0]
        rw [if_pos hlt, e1, Option.bind_some, e2, Option.bind_some, if_pos rfl, e3, Option.bind_some, ej]
      | false =>
        obtain ⟨fs, i', h', k', hf, hx, hgo⟩ := key v hv1.1 (by omega)
        refine ⟨fs, i', h', k', hf, hx, Ev.step (fun k => ?_) hgo⟩
        simp only [spec_l17Frames.l0]
        rw [if_pos hlt, e1, Option.bind_some, e2, Option.bind_some, if_neg Bool.false_ne_true, e3, Option.bind_some, ej]
    · refine ⟨[], i, h, k, by simp only [List.length_nil]; omega, fun x hx => absurd hx (by simp), ev_at (fun k => ?_)⟩
      simp only [spec_l17Frames.l0]
      rw [if_neg hlt]
      simp
theorem frames_ev (l : List Int) (hl : l.length ≤ 4611686018427387904) (n : Int) (hn : n ≤ 1000) (i h : Int) (k : Okst l i h) : ∃ fs i' h', Okst l i' h' ∧ (fs.length : Int) = max n 0 ∧ (∀ x ∈ fs, 0 ≤ x.f0 ∧ x.f0 ≤ 7 ∧ x.f1.size ≤ 1000) ∧ Ev (fun k => spec_l17Frames.f k l i h n) (fs, i', h') := by
  obtain ⟨fs, i', h', k', hf, hx, hgo⟩ := frames_end l hl n hn n.toNat [] 0 i h (by decide) (by omega) (Nat.zero_le _) (by omega) k
  exact ⟨fs, i', h', k', by omega, hx, hgo⟩
theorem rp_fuel (n : Nat) : ∀ (m : Nat) (s : ByteArray) (acc : List S26), s.size ≤ n → s.size ≤ m → rp n s acc = rp m s acc := by
  induction n with
  | zero =>
    intro m s acc hn hm
    cases m with
    | zero => rfl
    | succ m => simp only [rp]; rw [if_pos (by omega)]
  | succ n ih =>
    intro m s acc hn hm
    cases m with
    | zero => simp only [rp]; rw [if_pos (by omega)]
    | succ m =>
      simp only [rp]
      have hw0 := WD_nn s
      by_cases h4 : s.size < 4
      · rw [if_pos h4, if_pos h4]
      rw [if_neg h4, if_neg h4]
      split
      · rfl
      split
      · rfl
      · exact ih m _ _ (by simp; omega) (by simp; omega)
theorem same_ev (xs : List S26) (hx : xs.length ≤ 4611686018427387904) (d : Nat) : ∀ i : Int, 0 ≤ i → (xs.length : Int) - i = d → Ev (fun k => laws_sameFrames.l0 k xs xs i) true := by
  induction d with
  | zero =>
    intro i h0 hd
    exact ev_at (fun k => by simp only [laws_sameFrames.l0]; rw [if_neg (by omega)])
  | succ d ih =>
    intro i h0 hd
    refine Ev.step (fun k => ?_) (ih (i + 1) (by omega) (by omega))
    simp only [laws_sameFrames.l0]
    rw [if_pos (by omega), if_pos h0, if_pos (by omega), if_neg (by simp), w64 (by omega) (by omega)]
theorem same_evS (xs : List S26) (hx : xs.length ≤ 4611686018427387904) : Ev (fun k => laws_sameFrames.f k xs xs) true :=
  Ev.congr (fun k => by simp only [laws_sameFrames.f]; rw [if_pos trivial]) (same_ev xs hx xs.length 0 (by omega) (by omega))
/-- All pieces, one behind the other. -/
def cat : ByteArray → List ByteArray → ByteArray
  | x, [] => x
  | x, y :: t => cat (x ++ y) t
theorem cat_size (ps : List ByteArray) : ∀ x, x.size ≤ (cat x ps).size ∧ ∀ y ∈ ps, y.size ≤ (cat x ps).size := by
  induction ps with
  | nil => intro x; exact ⟨Nat.le_refl _, fun y h => absurd h (by simp)⟩
  | cons z t ih =>
    intro x
    obtain ⟨h1, h2⟩ := ih (x ++ z)
    rw [ByteArray.size_append] at h1
    refine ⟨by simp only [cat]; omega, fun y hy => ?_⟩
    rcases List.mem_cons.1 hy with rfl | hy
    · simp only [cat]; omega
    · exact h2 y hy
theorem one_ev (l : List Int) (hl : l.length ≤ 4611686018427387904) (i h : Int) (k : Okst l i h) : ∃ tg s i' h', Okst l i' h' ∧ s.size ≤ 1001 ∧ Ev (fun k => spec_l17One.f k l i h) (tg, s, i', h') := by
  obtain ⟨fs, i1, h1, k1, hf, hx, he⟩ := frames_ev l hl 1 (by decide) i h k
  obtain ⟨x, rfl⟩ : ∃ x, fs = [x] := List.length_eq_one_iff.1 (by omega)
  have hx1 := hx x (by simp)
  have hrd : rd_T26 [x] 0 = x := rfl
  obtain ⟨c, m2, e2, _⟩ := below_ev l hl i1 h1 k1 10 (by decide)
  have k2 := k1.dn m2
  unfold spec_l17One.f
  by_cases c0 : c = 0
  · obtain ⟨w, i3, h3, e3, k3, _⟩ := pickint_ev l hl _ _ k2 [-1, 8] (by decide) (by decide)
    refine ⟨w, x.f1, i3, h3, k3, by omega, Ev.bind he (ev_ret (fun k => ?_))⟩
    rw [if_pos (by simp), e2, Option.bind_some, if_pos c0, e3, Option.bind_some, hrd]
  by_cases c1 : c = 1
  · obtain ⟨w, m3, e3, _, hw, _⟩ := below_ev l hl _ _ k2 2 (by decide)
    have hw1 := hw (by decide)
    obtain ⟨s, i4, h4, hs, k4, e4⟩ := text_ev l hl (wrap64 (1000 + w)) (by rw [w64 (by omega) (by omega)]; omega) (by rw [w64 (by omega) (by omega)]; omega) _ _ (k2.dn m3)
    rw [w64 (by omega) (by omega)] at hs
    refine ⟨x.f0, s, i4, h4, k4, by omega, Ev.bind he (Ev.congr (fun k => ?_) (show Ev (fun k => (spec_l01Text.f k l (dn l m3 (dn l m2 i1)) (it LC m3 (it LC m2 h1)) (wrap64 (1000 + w))).bind fun t => some (x.f0, t.1, t.2.1, t.2.2)) (x.f0, s, i4, h4) from Ev.bind e4 (ev_ret (fun k => rfl))))⟩
    rw [if_pos (by simp), e2, Option.bind_some, if_neg c0, if_pos c1, e3, Option.bind_some, hrd]
  · refine ⟨x.f0, x.f1, _, _, k2, by omega, Ev.bind he (ev_ret (fun k => ?_))⟩
    rw [if_pos (by simp), e2, Option.bind_some, if_neg c0, if_neg c1, hrd]
theorem drawput_ev (l : List Int) (hl : l.length ≤ 4611686018427387904) : ∃ fs, fs.length ≤ 12 ∧ (∀ x ∈ fs, x.f1.size ≤ 1001) ∧ Ev (fun k => spec_DrawPutFrames.f k l) fs := by
  obtain ⟨h', k0, e0⟩ := new_ev l
  obtain ⟨t, e1, ht0, ht1⟩ := size_ev l hl 12 (by decide)
  obtain ⟨v, m, e2, _, hv, _⟩ := below_ev l hl 0 h' k0 t (by omega)
  have hv1 := hv (by omega)
  obtain ⟨fs, i3, h3, k3, hf, hx, e3⟩ := frames_ev l hl v (by omega) _ _ (k0.dn m)
  obtain ⟨b, i4, h4, e4, k4⟩ := once_ev l hl i3 h3 k3 8 (by decide)
  unfold spec_DrawPutFrames.f
  cases b with
  | true =>
    obtain ⟨tg, s, i5, h5, k5, hs, e5⟩ := one_ev l hl i4 h4 k4
    refine ⟨fs ++ [⟨tg, s⟩], by simp; omega, ?_, ?_⟩
    · intro x hx2
      rcases List.mem_append.1 hx2 with hx2 | hx2
      · have := hx x hx2; omega
      · rw [List.mem_singleton.1 hx2]; exact hs
    · refine Ev.bind e0 (Ev.congr (fun k => by rw [e1, Option.bind_some, e2, Option.bind_some]) (Ev.bind e3 ?_))
      refine Ev.congr (fun k => by rw [e4, Option.bind_some, if_pos rfl]) (Ev.bind e5 (ev_ret (fun k => ?_)))
      rw [if_pos (show fs.length < 5864062014805 by omega)]
  | false =>
    refine ⟨fs, by omega, fun x hx2 => by have := hx x hx2; omega, ?_⟩
    refine Ev.bind e0 (Ev.congr (fun k => by rw [e1, Option.bind_some, e2, Option.bind_some]) (Ev.bind e3 (ev_ret (fun k => ?_))))
    rw [e4, Option.bind_some, if_neg Bool.false_ne_true]
theorem drawtext_ev (l : List Int) (hl : l.length ≤ 4611686018427387904) : ∃ tg s, -1 ≤ tg ∧ tg ≤ 8 ∧ s.size ≤ 2500 ∧ Ev (fun k => spec_DrawFrameText.f k l) (tg, s) := by
  obtain ⟨h', k0, e0⟩ := new_ev l
  obtain ⟨t, e1, ht0, ht1⟩ := size_ev l hl 200 (by decide)
  obtain ⟨v, m, e2, _, hv, _⟩ := below_ev l hl 0 h' k0 t (by omega)
  have hv1 := hv (by omega)
  obtain ⟨b, i4, h4, e4, k4⟩ := once_ev l hl _ _ (k0.dn m) 4 (by decide)
  unfold spec_DrawFrameText.f
  cases b with
  | true =>
    obtain ⟨w, i5, h5, e5, k5, hw⟩ := pickint_ev l hl _ _ k4 [999, 1000, 1001, 2000, 2500] (by decide) (by decide)
    simp only [List.mem_cons, List.not_mem_nil, or_false] at hw
    obtain ⟨c, m6, e6, _, hc, _⟩ := below_ev l hl _ _ k5 10 (by decide)
    have hc1 := hc (by decide)
    obtain ⟨s, i7, h7, hs, k7, e7⟩ := text_ev l hl w (by omega) (by omega) _ _ (k5.dn m6)
    refine ⟨c - 1, s, by omega, by omega, by omega, ?_⟩
    refine Ev.bind e0 (Ev.congr (fun k => by rw [e1, Option.bind_some, e2, Option.bind_some, e4, Option.bind_some, if_pos rfl, e5, Option.bind_some, e6, Option.bind_some]) (Ev.bind e7 (ev_ret (fun k => ?_))))
    rw [w64 (by omega) (by omega)]
  | false =>
    obtain ⟨c, m6, e6, _, hc, _⟩ := below_ev l hl _ _ k4 10 (by decide)
    have hc1 := hc (by decide)
    obtain ⟨s, i7, h7, hs, k7, e7⟩ := text_ev l hl v hv1.1 (by omega) _ _ (k4.dn m6)
    refine ⟨c - 1, s, by omega, by omega, by omega, ?_⟩
    refine Ev.bind e0 (Ev.congr (fun k => by rw [e1, Option.bind_some, e2, Option.bind_some, e4, Option.bind_some, if_neg Bool.false_ne_true, e6, Option.bind_some]) (Ev.bind e7 (ev_ret (fun k => ?_))))
    rw [w64 (by omega) (by omega)]
def okx (x : S26) : Prop := 0 ≤ x.f0 ∧ x.f0 ≤ 7 ∧ x.f1.size ≤ 1000
instance (x : S26) : Decidable (okx x) := by unfold okx; infer_instance
theorem fit_ok (l : List S26) : ∀ a : Int, (∀ x ∈ l, okx x) → a + 1004 * l.length ≤ 100000 → impl_PutFrames.fit l a = true := by
  induction l with
  | nil => intro a _ _; rfl
  | cons x t ih =>
    intro a hx ha
    simp only [List.length_cons] at ha
    have h := hx x (by simp)
    have h2 := h.2.2
    simp only [impl_PutFrames.fit, impl_PutFrames.ok]
    rw [decide_eq_true (show 0 ≤ x.f0 ∧ x.f0 ≤ 7 ∧ x.f1.size ≤ 1000 from h), decide_eq_true (by omega), ih _ (fun y hy => hx y (by simp [hy])) (by omega)]
    rfl
theorem fit_bad (l : List S26) : ∀ a : Int, (∃ x ∈ l, ¬ okx x) → impl_PutFrames.fit l a = false := by
  induction l with
  | nil => rintro a ⟨x, hx, _⟩; simp at hx
  | cons x t ih =>
    rintro a ⟨y, hy, hn⟩
    simp only [impl_PutFrames.fit, impl_PutFrames.ok]
    rcases List.mem_cons.1 hy with rfl | hy
    · rw [decide_eq_false (show ¬ (0 ≤ y.f0 ∧ y.f0 ≤ 7 ∧ y.f1.size ≤ 1000) from hn)]; rfl
    · rw [ih _ ⟨y, hy, hn⟩, Bool.and_false, Bool.and_false]
theorem ft_bytes (x : S26) : bytesOf (impl_PutFrames.ft x) = wd (8 * x.f1.size + x.f0) ++ bytesOf x.f1 := by
  unfold impl_PutFrames.ft
  rw [bytesOf_append, show impl_PutFrames.wd = wd from rfl, bytesOf_strOf _ (wd_range _)]
theorem bt_rd (s : ByteArray) (i : Int) : bt s i = rd (bytesOf s) i := (rd_bytesOf s i).symm
theorem WD_ft (x : S26) (h : okx x) (u : ByteArray) : WD (impl_PutFrames.ft x ++ u) = 8 * x.f1.size + x.f0 := by
  obtain ⟨h0, h1, h2⟩ := h
  unfold WD
  rw [bt_rd, bt_rd, bt_rd, bt_rd, bytesOf_append, ft_bytes]
  generalize hn : 8 * (x.f1.size : Int) + x.f0 = n
  have e0 : rd (wd n ++ bytesOf x.f1 ++ bytesOf u) 0 = n % 256 := rfl
  have e1 : rd (wd n ++ bytesOf x.f1 ++ bytesOf u) 1 = n / 256 % 256 := rfl
  have e2 : rd (wd n ++ bytesOf x.f1 ++ bytesOf u) 2 = n / 65536 % 256 := rfl
  have e3 : rd (wd n ++ bytesOf x.f1 ++ bytesOf u) 3 = n / 16777216 % 256 := rfl
  rw [e0, e1, e2, e3]
  omega
theorem ft_len (x : S26) : (impl_PutFrames.ft x).size = 4 + x.f1.size := by
  rw [← bytesOf_length, ft_bytes, List.length_append, bytesOf_length]
  simp [wd]
theorem all_cons (x : S26) (t : List S26) : impl_PutFrames.all (x :: t) ⟨#[]⟩ = impl_PutFrames.ft x ++ impl_PutFrames.all t ⟨#[]⟩ := by
  simp only [impl_PutFrames.all]
  rw [all_acc t]
  apply bytesOf_inj
  simp [bytesOf_append, bytesOf]
theorem rp_all (l : List S26) : ∀ (acc : List S26) (N : Nat), (∀ x ∈ l, okx x) → (impl_PutFrames.all l ⟨#[]⟩).size ≤ N → rp N (impl_PutFrames.all l ⟨#[]⟩) acc = (⟨#[]⟩, acc ++ l, false) := by
  induction l with
  | nil =>
    intro acc N _ _
    cases N with
    | zero => simp [rp, impl_PutFrames.all]
    | succ N =>
      have h0 : rp (N + 1) (⟨#[]⟩ : ByteArray) acc = (⟨#[]⟩, acc, false) := by simp only [rp]; rw [if_pos (by decide)]
      rw [List.append_nil]
      exact h0
  | cons x t ih =>
    intro acc N hx hN
    have h := hx x (by simp)
    have hft := ft_len x
    rw [all_cons, ByteArray.size_append] at hN
    obtain ⟨M, rfl⟩ : ∃ M, N = M + 1 := ⟨N - 1, by omega⟩
    rw [all_cons]
    have hi := ih (acc ++ [x]) M (fun y hy => hx y (by simp [hy])) (by omega)
    generalize impl_PutFrames.all t ⟨#[]⟩ = u at hN hi
    obtain ⟨h0, h1, h2⟩ := h
    have hw := WD_ft x ⟨h0, h1, h2⟩ u
    have hn4 : ((4 : Int) + WD (impl_PutFrames.ft x ++ u) / 8).toNat = 4 + x.f1.size := by rw [hw]; omega
    have hq : WD (impl_PutFrames.ft x ++ u) % 8 = x.f0 := by rw [hw]; omega
    have hb : bytesOf (impl_PutFrames.ft x ++ u) = wd (8 * x.f1.size + x.f0) ++ (bytesOf x.f1 ++ bytesOf u) := by rw [bytesOf_append, ft_bytes, List.append_assoc]
    have hl4 : (wd (8 * (x.f1.size : Int) + x.f0)).length = 4 := rfl
    have x1 : (impl_PutFrames.ft x ++ u).extract (4 + x.f1.size) (impl_PutFrames.ft x ++ u).size = u := by
      apply bytesOf_inj
      rw [← bytesOf_drop, hb, ← List.drop_drop, List.drop_left' hl4, List.drop_left' (bytesOf_length _)]
    have x2 : (impl_PutFrames.ft x ++ u).extract 4 (4 + x.f1.size) = x.f1 := by
      apply bytesOf_inj
      rw [bytesOf_sub, hb, List.drop_left' hl4, show 4 + x.f1.size - 4 = x.f1.size by omega, List.take_left' (bytesOf_length _)]
    simp only [rp]
    rw [hn4, hq, x1, x2, if_neg (by rw [ByteArray.size_append]; omega), if_neg (by rw [hw]; omega), if_neg (by rw [hw, ByteArray.size_append]; omega), hi]
    simp
def tsz (tag : Int) : List S26 → Nat
  | [] => 0
  | x :: t => (if x.f0 = tag then x.f1.size else 0) + tsz tag t
theorem tagAll_size (tag : Int) (l : List S26) : ∀ acc, (tagAll tag l acc).size = acc.size + tsz tag l := by
  induction l with
  | nil => intro acc; simp [tagAll, tsz]
  | cons x t ih =>
    intro acc
    simp only [tagAll, tsz]
    rw [ih]
    split
    · rw [ByteArray.size_append]; omega
    · omega
def sumT (l : List S26) : Nat → Nat
  | 0 => 0
  | m + 1 => sumT l m + tsz m l
theorem sumT_all (l : List S26) (h : ∀ x ∈ l, okx x) : sumT l 8 = tagSize l := by
  induction l with
  | nil => rfl
  | cons x t ih =>
    have h1 := h x (by simp)
    have h2 := ih (fun y hy => h y (by simp [hy]))
    simp only [sumT, tsz, tagSize] at h2 ⊢
    obtain ⟨a, b, _⟩ := h1
    have h3 : x.f0 = 0 ∨ x.f0 = 1 ∨ x.f0 = 2 ∨ x.f0 = 3 ∨ x.f0 = 4 ∨ x.f0 = 5 ∨ x.f0 = 6 ∨ x.f0 = 7 := by omega
    rcases h3 with h3 | h3 | h3 | h3 | h3 | h3 | h3 | h3 <;> (rw [h3]; simp at h2 ⊢; omega)
theorem all_size (l : List S26) : (impl_PutFrames.all l ⟨#[]⟩).size = 4 * l.length + tagSize l := by
  induction l with
  | nil => rfl
  | cons x t ih =>
    rw [all_cons, ByteArray.size_append, ft_len, ih]
    simp only [List.length_cons, tagSize]
    omega
theorem tagSize_le (l : List S26) (h : ∀ x ∈ l, okx x) : tagSize l ≤ 1000 * l.length := by
  induction l with
  | nil => exact Nat.le_refl _
  | cons x t ih =>
    have h1 := (h x (by simp)).2.2
    have h2 := ih (fun y hy => h y (by simp [hy]))
    simp only [tagSize, List.length_cons]
    omega
theorem sumT_le (l : List S26) (m : Nat) : tsz m l ≤ tagSize l ∧ sumT l m ≤ m * tagSize l := by
  have h1 : ∀ t : Int, tsz t l ≤ tagSize l := by
    intro t
    induction l with
    | nil => exact Nat.le_refl _
    | cons x r ih => simp only [tsz, tagSize]; split <;> omega
  refine ⟨h1 _, ?_⟩
  induction m with
  | zero => simp [sumT]
  | succ m ih => simp only [sumT]; have := h1 (m : Int); rw [Nat.add_mul]; omega
theorem tagdata (l : List S26) (tag : Int) (h : l.length ≤ 1000) (h2 : tagSize l ≤ 140737488355328) : impl_TagData.f l tag = some (tagAll tag l ⟨#[]⟩) := by
  unfold impl_TagData.f
  rw [if_neg (by omega), if_pos h2]
theorem blocks_ev (d : Nat) : ∀ (s : ByteArray) (acc : List ByteArray), s.size ≤ d → acc.length + s.size ≤ 20000 →
    ∃ r : List ByteArray, Ev (fun k => impl_blocksOf.l0 k s 1000 acc) (acc ++ r) ∧ r.length = (s.size + 999) / 1000 ∧ ∀ x, cat x r = x ++ s := by
  have hz : ∀ (s : ByteArray) (acc : List ByteArray), s.size = 0 → ∃ r : List ByteArray, Ev (fun k => impl_blocksOf.l0 k s 1000 acc) (acc ++ r) ∧ r.length = (s.size + 999) / 1000 ∧ ∀ x, cat x r = x ++ s := by
    intro s acc h0
    refine ⟨[], ev_at (fun k => ?_), by simp [h0], fun x => ?_⟩
    · simp only [impl_blocksOf.l0]
      rw [if_pos ((emp_iff s).2 h0), List.append_nil]
    · apply bytesOf_inj
      rw [bytesOf_append, show bytesOf s = [] from List.eq_nil_of_length_eq_zero (by rw [bytesOf_length]; exact h0), List.append_nil]
      rfl
  induction d with
  | zero => intro s acc hs _; exact hz s acc (by omega)
  | succ d ih =>
    intro s acc hs hb
    by_cases h0 : s.size = 0
    · exact hz s acc h0
    have hne : ¬ s.toList = ([] : List UInt8) := fun h => h0 ((emp_iff s).1 h)
    obtain ⟨n, hn, hn1, hn2⟩ : ∃ n : Nat, mn 1000 (s.size : Int) = n ∧ 0 < n ∧ n = min 1000 s.size := by
      refine ⟨min 1000 s.size, ?_, by omega, rfl⟩
      unfold mn
      split <;> omega
    obtain ⟨r, h1, h2, h3⟩ := ih (s.extract n s.size) (acc ++ [s.extract 0 n]) (by simp; omega) (by simp; omega)
    refine ⟨s.extract 0 n :: r, ?_, ?_, fun x => ?_⟩
    · refine Ev.step (fun k => ?_) (by simpa using h1)
      simp only [impl_blocksOf.l0]
      rw [if_neg hne, hn, if_pos (by omega), if_pos (by omega), if_pos (by omega), Int.toNat_natCast]
    · rw [List.length_cons, h2]
      simp
      omega
    · simp only [cat]
      rw [h3]
      apply bytesOf_inj
      rw [bytesOf_append, bytesOf_append, bytesOf_append, List.append_assoc, ← bytesOf_take, ← bytesOf_drop, List.take_append_drop]
theorem impl_frames (a0 : Int) (bs : List ByteArray) (hb : bs.length ≤ 20000) (d : Nat) : ∀ (acc : List S26) (i : Int), 0 ≤ i → (bs.length : Int) - i = d → acc.length = i.toNat →
    Ev (fun k => impl_FrameText.l0 k a0 acc bs (bs.length : Int) i) (acc ++ (bs.drop i.toNat).map fun b => (⟨a0, b⟩ : S26)) := by
  induction d with
  | zero =>
    intro acc i h0 hd ha
    refine ev_at (fun k => ?_)
    simp only [impl_FrameText.l0]
    rw [if_neg (by omega), List.drop_of_length_le (by omega)]
    simp
  | succ d ih =>
    intro acc i h0 hd ha
    have h := ih (acc ++ [⟨a0, rdOf ByteArray.empty bs i⟩]) (i + 1) (by omega) (by omega) (by simp; omega)
    have hlt : i.toNat < bs.length := by omega
    have ed : bs.drop i.toNat = rdOf ByteArray.empty bs i :: bs.drop (i + 1).toNat := by
      rw [show (i + 1).toNat = i.toNat + 1 by omega, List.drop_eq_getElem_cons hlt]
      simp [rdOf, hlt]
    rw [ed]
    refine Ev.step (fun k => ?_) (by simpa using h)
    simp only [impl_FrameText.l0]
    rw [if_pos (by omega), if_pos h0, if_pos (by omega), if_pos (by omega), w64 (by omega) (by omega)]
theorem cat_tag (tag : Int) (r : List ByteArray) : ∀ x, tagAll tag (r.map fun b => (⟨tag, b⟩ : S26)) x = cat x r := by
  induction r with
  | nil => intro x; rfl
  | cons y t ih => intro x; simp only [List.map_cons, tagAll, cat]; rw [if_pos trivial, ih]
theorem cat_tsize (tag : Int) (r : List ByteArray) : ∀ x, (cat x r).size = x.size + tagSize (r.map fun b => (⟨tag, b⟩ : S26)) := by
  induction r with
  | nil => intro x; simp [cat, tagSize]
  | cons y t ih => intro x; simp only [List.map_cons, tagSize, cat]; rw [ih, ByteArray.size_append]; omega
theorem frametext (tag : Int) (s : ByteArray) (h0 : 0 ≤ tag) (h7 : tag ≤ 7) (hs : s.size ≤ 2500) : ∃ r : List S26, Ev (fun k => impl_FrameText.f k tag s) r ∧ r.length = (s.size + 999) / 1000 ∧ tagAll tag r ⟨#[]⟩ = s ∧ tagSize r = s.size := by
  obtain ⟨bs, h1, h2, h3⟩ := blocks_ev s.size s [] (Nat.le_refl _) (by simp; omega)
  have t := impl_frames tag bs (by omega) bs.length [] 0 (by omega) (by omega) rfl
  simp only [List.nil_append, Int.toNat_zero, List.drop_zero] at t h1
  have hc : cat ⟨#[]⟩ bs = s := (h3 ⟨#[]⟩).trans (by apply bytesOf_inj; rw [bytesOf_append]; rfl)
  refine ⟨bs.map fun b => (⟨tag, b⟩ : S26), ?_, by rw [List.length_map]; exact h2, by rw [cat_tag, hc], ?_⟩
  · have hd : decide ((s.size : Int) > 20000) = false := decide_eq_false (by omega)
    refine Ev.congr (f := fun k => impl_FrameText.j0 k tag s false) (fun k => ?_) (Ev.step (f := fun k => (impl_blocksOf.f k s 1000).bind fun t => impl_FrameText.l0 k tag [] t (t.length : Int) 0) (fun k => ?_) (Ev.bind (a := bs) h1 t))
    · simp only [impl_FrameText.f, impl_within.f]
      rw [if_pos (by omega)]
      simp only [Option.bind_some, hd]
      rw [if_pos (by simpa using h7)]
    · simp only [impl_FrameText.j0]
      rw [if_neg (by decide)]
  · have h := cat_tsize tag bs ⟨#[]⟩
    rw [hc] at h
    have h0 : (⟨#[]⟩ : ByteArray).size = 0 := rfl
    omega
theorem frametext_bad (tag : Int) (s : ByteArray) (h : tag < 0 ∨ tag > 7) : Ev (fun k => impl_FrameText.f k tag s) ([] : List S26) := by
  refine ev_at (fun k => ?_)
  simp only [impl_FrameText.f, impl_within.f]
  by_cases h0 : tag ≥ 0
  · rw [if_pos h0]
    simp only [Option.bind_some]
    rw [if_neg (by simp; omega)]
    simp [impl_FrameText.j0]
  · rw [if_neg h0]
    simp [impl_FrameText.j0]
theorem fr_loop (l : List Int) (fs : List S26) (hf : fs.length ≤ 1000) (b : List Int) (suf : List S26) : ∀ (pre : List S26) (i : Int), fs = pre ++ suf → i = pre.length →
    ((∀ x ∈ suf, okx x) ∧ Ev (fun k => laws_FnFrames.l0 k l fs b fs.length) true ∨ (∃ x ∈ suf, ¬ okx x) ∧ b.length = 0) → Ev (fun k => laws_FnFrames.l0 k l fs b i) true := by
  induction suf with
  | nil =>
    rintro pre i hp hi (⟨_, h⟩ | ⟨⟨x, hx, _⟩, _⟩)
    · rw [hi, show ((pre.length : Int)) = (fs.length : Int) by rw [hp]; simp]
      exact h
    · simp at hx
  | cons x t ih =>
    intro pre i hp hi h
    have hlen : fs.length = pre.length + (t.length + 1) := by rw [hp]; simp
    have hrd : rd_T26 fs i = x := by rw [hp]; exact rd_mid26 pre x t hi
    by_cases hx : okx x
    · have hn : Ev (fun k => laws_FnFrames.l0 k l fs b (i + 1)) true := by
        refine ih (pre ++ [x]) (i + 1) (by rw [hp]; simp) (by simp; omega) ?_
        rcases h with ⟨h1, h2⟩ | ⟨⟨y, hy, hny⟩, h2⟩
        · exact .inl ⟨fun y hy => h1 y (by simp [hy]), h2⟩
        · rcases List.mem_cons.1 hy with rfl | hy
          · exact absurd hx hny
          · exact .inr ⟨⟨y, hy, hny⟩, h2⟩
      refine Ev.step (fun k => ?_) hn
      simp only [laws_FnFrames.l0]
      rw [if_pos (by omega), if_pos (by omega), hrd, spec_ok, Option.bind_some, if_pos (decide_eq_true (show 0 ≤ x.f0 ∧ x.f0 ≤ 7 ∧ x.f1.size ≤ 1000 from hx)), w64 (by omega) (by omega)]
    · have hb : b.length = 0 := by
        rcases h with ⟨h1, _⟩ | ⟨_, h2⟩
        · exact absurd (h1 x (by simp)) hx
        · exact h2
      refine ev_at (fun k => ?_)
      simp only [laws_FnFrames.l0]
      rw [if_pos (by omega), if_pos (by omega), hrd, spec_ok, Option.bind_some, if_neg (by rw [decide_eq_false (show ¬ (0 ≤ x.f0 ∧ x.f0 ≤ 7 ∧ x.f1.size ≤ 1000) from hx)]; decide), hb]
      rfl
theorem tag_loop (l : List Int) (fs : List S26) (hf : fs.length ≤ 1000) (hs : tagSize fs ≤ 10000000) (b : List Int) (hend : Ev (fun k => laws_FnFrames.l1 k l fs b fs (sumT fs 8 : Nat) ((8 : Nat) : Int)) true) (d : Nat) : ∀ m : Nat, 8 - m = d → m ≤ 8 → Ev (fun k => laws_FnFrames.l1 k l fs b fs (sumT fs m : Nat) (m : Int)) true := by
  induction d with
  | zero =>
    intro m hd hm
    obtain rfl : m = 8 := by omega
    exact hend
  | succ d ih =>
    intro m hd hm
    have h := sumT_le fs m
    have htd := tagdata fs m hf (by omega)
    have hsz := tagAll_size m fs ⟨#[]⟩
    have h0 : (⟨#[]⟩ : ByteArray).size = 0 := rfl
    have hm8 : m * tagSize fs ≤ 8 * tagSize fs := Nat.mul_le_mul_right _ hm
    refine Ev.step (fun k => ?_) (ih (m + 1) (by omega) (by omega))
    simp only [laws_FnFrames.l1]
    rw [if_pos (by omega), htd, Option.bind_some, hsz, h0, w64 (by omega) (by omega), w64 (by omega) (by omega)]
    simp only [sumT]
    rw [show ((sumT fs m : Nat) : Int) + ((0 + tsz m fs : Nat) : Int) = ((sumT fs m + tsz m fs : Nat) : Int) by omega]
    rfl
theorem FnFrames : laws_FnFrames.Pure := by
  intro l h1 h2 _
  have hbigE : laws_big.f l = some (decide ((l.length : Int) > 1048576)) := rfl
  by_cases hbig : (l.length : Int) > 1048576
  · exact ⟨0, by simp only [laws_FnFrames.f]; rw [hbigE, Option.bind_some, if_pos (decide_eq_true hbig)]⟩
  have hl : l.length ≤ 4611686018427387904 := by omega
  obtain ⟨fs, hf, hx, he⟩ := drawput_ev l hl
  have hsp := spec_pfs fs (by omega)
  have hip := impl_pfs fs
  have hmain : Ev (fun k => laws_FnFrames.l0 k l fs (pfsv fs) 0) true := by
    refine fr_loop l fs (by omega) (pfsv fs) fs [] 0 rfl rfl ?_
    by_cases hok : ∀ x ∈ fs, okx x
    · refine .inl ⟨hok, ?_⟩
      have hfit := fit_ok fs 0 hok (by omega)
      have hb : pfsv fs = bytesOf (impl_PutFrames.all fs ⟨#[]⟩) := by unfold pfsv; rw [if_pos hfit]
      have hts := tagSize_le fs hok
      have hsz := all_size fs
      have hbl : (pfsv fs).length = 4 * fs.length + tagSize fs := by rw [hb, bytesOf_length, hsz]
      have hrp : rpv ⟨#[]⟩ [] false (pfsv fs) = (⟨#[]⟩, fs, false) := by
        have e0 : (⟨#[]⟩ : ByteArray) ++ impl_PutFrames.all fs ⟨#[]⟩ = impl_PutFrames.all fs ⟨#[]⟩ := by apply bytesOf_inj; rw [bytesOf_append]; rfl
        have hnb : ¬ ((false : Bool) = true ∨ (⟨#[]⟩ : ByteArray).size > 1004 ∨ (pfsv fs).length > 100000) := by
          rintro (h | h | h)
          · exact absurd h (by decide)
          · exact absurd h (by decide)
          · omega
        unfold rpv
        rw [if_neg hnb, hb, strOf_bytesOf, e0, bytesOf_length]
        have := rp_all fs [] ((⟨#[]⟩ : ByteArray).size + (impl_PutFrames.all fs ⟨#[]⟩).size) hok (by omega)
        simpa using this
      have hfo : Ev (fun k => impl_FramesOf.f k (pfsv fs)) (fs, ⟨#[]⟩, true) := by
        have hp := impl_push ⟨#[]⟩ ([] : List S26) false (pfsv fs) (by simp)
        rw [hrp] at hp
        exact Ev.bind hp (ev_ret (fun k => by rw [if_neg Bool.false_ne_true]))
      obtain ⟨tg, s, htg0, htg1, hs, hdt⟩ := drawtext_ev l hl
      have hend : Ev (fun k => laws_FnFrames.l1 k l fs (pfsv fs) fs (sumT fs 8 : Nat) ((8 : Nat) : Int)) true := by
        have e4 : wrap64 (((sumT fs 8 : Nat) : Int) + wrap64 (4 * (fs.length : Int))) = ((pfsv fs).length : Int) := by
          rw [sumT_all fs hok, w64 (x := 4 * (fs.length : Int)) (by omega) (by omega), w64 (by omega) (by omega), hbl]
          omega
        by_cases hin : 0 ≤ tg ∧ tg ≤ 7
        · obtain ⟨r, hr1, hr2, hr3, hr4⟩ := frametext tg s hin.1 hin.2 hs
          have htd := tagdata r tg (by omega) (by omega)
          rw [hr3] at htd
          refine Ev.step (fun k => by simp only [laws_FnFrames.l1]; rw [if_neg (by decide), if_pos e4]) (Ev.bind hdt (Ev.bind hr1 (ev_ret (fun k => ?_))))
          rw [if_neg (by omega), if_neg (by omega), htd, Option.bind_some, if_pos rfl, w64 (x := (s.size : Int) + 1000) (by omega) (by omega), w64 (x := (s.size : Int) + 1000 - 1) (by omega) (by omega), Int.tdiv_eq_ediv_of_nonneg (by omega), w64 (by omega) (by omega), hr2]
          exact congrArg some (beq_iff_eq.2 (by omega))
        · have hr1 := frametext_bad tg s (by omega)
          refine Ev.step (fun k => by simp only [laws_FnFrames.l1]; rw [if_neg (by decide), if_pos e4]) (Ev.bind hdt (Ev.bind hr1 (ev_ret (fun k => ?_))))
          by_cases h0 : tg < 0
          · rw [if_pos h0]; rfl
          · rw [if_neg h0, if_pos (by omega)]; rfl
      have htl := tag_loop l fs (by omega) (by omega) (pfsv fs) hend 8 0 rfl (by omega)
      have hsame := same_evS fs (by omega)
      refine Ev.step (fun k => by simp only [laws_FnFrames.l0]; rw [if_neg (by omega)]) (Ev.bind hfo ?_)
      refine Ev.congr (fun k => by rw [if_pos rfl, if_pos ((emp_iff _).2 rfl)]) (Ev.bind hsame ?_)
      refine Ev.step (fun k => ?_) htl
      simp only [laws_FnFrames.j1]
      rw [if_neg (by decide)]
      rfl
    · refine .inr ⟨?_, ?_⟩
      · exact Classical.byContradiction (fun hn => hok (fun x hx => Classical.byContradiction (fun hn2 => hn ⟨x, hx, hn2⟩)))
      · have hex : ∃ x ∈ fs, ¬ okx x := Classical.byContradiction (fun hn => hok (fun x hx => Classical.byContradiction (fun hn2 => hn ⟨x, hx, hn2⟩)))
        unfold pfsv
        rw [fit_bad fs 0 hex, if_neg Bool.false_ne_true]
        rfl
  refine Ev.rounds ?_
  simp only [laws_FnFrames.f]
  refine Ev.congr (fun k => by rw [hbigE, Option.bind_some, if_neg (by simpa using hbig)]) (Ev.bind he (Ev.bind hsp ?_))
  refine Ev.congr (fun k => by rw [hip, Option.bind_some, if_pos rfl]) hmain
end Go.Proofs.Ytbiaakkmmkddfaa.Pure
