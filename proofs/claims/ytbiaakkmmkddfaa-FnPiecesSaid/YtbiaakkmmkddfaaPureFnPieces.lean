/- A stream in pieces gives the frames that it gives at once, wherever it is cut, and the pieces are the stream, at all codes. No condition beside the form's own reach. -/
import Derived.Test.YtbiaakkmmkddfaaPFnPiecesx8
namespace Go.Proofs.Ytbiaakkmmkddfaa.Pure
open Go.RowKit Go.Proofs.Ytbiaakkmmkddfaa.PFnPieces Go.Proofs.YtbiaakkmmkddfaaW.PrintWords Go.Proofs.YtbiaakkmmkddfaaW.PrintLast Go.Proofs.YtbiaakkmmkddfaaW.PrintMore
theorem w64 {x : Int} (h0 : -9223372036854775808 ≤ x) (h1 : x ≤ 9223372036854775807) : wrap64 x = x := by unfold wrap64; omega
theorem emp_iff (s : ByteArray) : s.toList = ([] : List UInt8) ↔ s.size = 0 := by
  rw [ByteArray.toList_eq]
  obtain ⟨⟨d⟩⟩ := s
  cases d <;> simp [ByteArray.size]
theorem ev_at {α : Type} {g : Nat → Option α} {r : α} (h : ∀ k, g (k + 1) = some r) : Ev g r := ⟨1, fun k hk => by
  obtain ⟨j, rfl⟩ : ∃ j, k = j + 1 := ⟨k - 1, by omega⟩
  exact h j⟩
theorem ev_ret {α : Type} {g : Nat → Option α} {r : α} (h : ∀ k, g k = some r) : Ev g r := ⟨0, fun k _ => h k⟩
theorem ev_det {α : Type} {g : Nat → Option α} {r s : α} (h : Ev g r) (k : Ev g s) : r = s := by
  obtain ⟨K, h⟩ := h
  obtain ⟨L, k⟩ := k
  have h1 := h (K + L) (by omega)
  have h2 := k (K + L) (by omega)
  rw [h1] at h2
  exact Option.some.inj h2
theorem ba_ext {a b : ByteArray} (h : a.toList = b.toList) : a = b := by
  rw [ByteArray.toList_eq, ByteArray.toList_eq] at h
  exact ByteArray.ext (Array.toList_inj.1 h)
theorem bytesOf_append (a b : ByteArray) : bytesOf (a ++ b) = bytesOf a ++ bytesOf b := by simp [bytesOf, ByteArray.data_append]
theorem strOf_bytesOf (s : ByteArray) : strOfNums (bytesOf s) = s := by
  apply ByteArray.ext
  apply Array.toList_inj.1
  rw [strOfNums_data, bytesOf, List.map_map]
  exact (List.map_congr_left (fun b _ => by simp)).trans (List.map_id _)
theorem bytesOf_inj {a b : ByteArray} (h : bytesOf a = bytesOf b) : a = b := by rw [← strOf_bytesOf a, h, strOf_bytesOf]
/-- The draws' step, and what it is without a bound. -/
def LC (h : Int) : Int := wrap64 (wrap64 (h * 6364136223846793005) + 1442695040888963407)
def GC (h : Int) : Int := h * 6364136223846793005 + 1442695040888963407
def it (f : Int → Int) : Nat → Int → Int
  | 0, x => x
  | n + 1, x => it f n (f x)
theorem it_add (f : Int → Int) (m n : Nat) : ∀ x, it f (m + n) x = it f n (it f m x) := by
  induction m with
  | zero => intro x; simp [it]
  | succ m ih => intro x; rw [show m + 1 + n = (m + n) + 1 by omega]; simp only [it]; exact ih (f x)
theorem it_pow (k : Nat) : ∃ a c : Int, ∀ x, it GC (2 ^ k) x = (1 + 4 * 2 ^ k * a) * x + 2 ^ k * (1 + 2 * c) := by
  induction k with
  | zero => exact ⟨1591034055961698251, 721347520444481703, fun x => by simp [it, GC]; omega⟩
  | succ k ih =>
    obtain ⟨a, c, h⟩ := ih
    refine ⟨a + 2 * 2 ^ k * a * a, 2 ^ k * a + c + 2 * 2 ^ k * a * c, fun x => ?_⟩
    rw [show 2 ^ (k + 1) = 2 ^ k + 2 ^ k by omega, it_add, h, h, show (2 : Int) ^ (k + 1) = 2 * 2 ^ k by rw [Int.pow_succ, Int.mul_comm]]
    generalize (2 : Int) ^ k = P
    grind
theorem reach (k : Nat) (x y : Int) : ∃ n : Nat, ∃ q : Int, it GC n x = y + 2 ^ k * q := by
  induction k with
  | zero => exact ⟨0, x - y, by simp [it]; omega⟩
  | succ k ih =>
    obtain ⟨n, q, h⟩ := ih
    obtain ⟨a, c, hp⟩ := it_pow k
    have e : (2 : Int) ^ (k + 1) = 2 * 2 ^ k := by rw [Int.pow_succ, Int.mul_comm]
    by_cases hq : q % 2 = 0
    · refine ⟨n, q / 2, ?_⟩
      obtain ⟨r, rfl⟩ : ∃ r, q = 2 * r := ⟨q / 2, by omega⟩
      rw [h, e, show 2 * r / 2 = r by omega]
      generalize (2 : Int) ^ k = P
      grind
    · obtain ⟨r, rfl⟩ : ∃ r, q = 2 * r + 1 := ⟨q / 2, by omega⟩
      refine ⟨n + 2 ^ k, r + 1 + c + 2 * a * (y + 2 ^ k * (2 * r + 1)), ?_⟩
      rw [it_add, h, hp, e]
      generalize (2 : Int) ^ k = P
      grind
theorem wrap_dvd (x : Int) : ∃ q, wrap64 x = x + 18446744073709551616 * q := ⟨-((x + 9223372036854775808) / 18446744073709551616), by unfold wrap64; omega⟩
theorem LC_range (h : Int) : -9223372036854775808 ≤ LC h ∧ LC h < 9223372036854775808 := by unfold LC wrap64; omega
theorem it_LC (n : Nat) : ∀ x y q : Int, x = y + 18446744073709551616 * q → ∃ q', it LC n x = it GC n y + 18446744073709551616 * q' := by
  induction n with
  | zero => intro x y q h; exact ⟨q, h⟩
  | succ n ih =>
    intro x y q h
    obtain ⟨q1, h1⟩ := wrap_dvd (x * 6364136223846793005)
    obtain ⟨q2, h2⟩ := wrap_dvd (wrap64 (x * 6364136223846793005) + 1442695040888963407)
    exact ih (LC x) (GC y) (6364136223846793005 * q + q1 + q2) (by unfold LC GC; omega)
theorem it_range (n : Nat) : ∀ x, (-9223372036854775808 ≤ x ∧ x < 9223372036854775808) → -9223372036854775808 ≤ it LC n x ∧ it LC n x < 9223372036854775808 := by
  induction n with
  | zero => intro x h; exact h
  | succ n ih => intro x _; exact ih (LC x) (LC_range x)
/-- From every state every state is reached, behind any number of steps. -/
theorem reach64 (m : Nat) (x y : Int) (hy : -9223372036854775808 ≤ y ∧ y < 9223372036854775808) (hx : -9223372036854775808 ≤ x ∧ x < 9223372036854775808) : ∃ n, m ≤ n ∧ it LC n x = y := by
  obtain ⟨n, q, h⟩ := reach 64 (it LC m x) y
  obtain ⟨q', h'⟩ := it_LC n (it LC m x) (it LC m x) 0 (by omega)
  refine ⟨m + n, by omega, ?_⟩
  rw [it_add]
  have hr := it_range n (it LC m x) (it_range m x hx)
  have e : (2 : Int) ^ 64 = 18446744073709551616 := by decide
  rw [e] at h
  omega
theorem i64_and255 (n : Int) : bits .and .i64 n 255 = n % 256 := by
  have h255 : (BitVec.ofInt 64 255).toNat = 2 ^ 8 - 1 := by decide
  have key : (BitVec.ofInt 64 n &&& BitVec.ofInt 64 255).toNat = (n % ((2 ^ 64 : Nat) : Int)).toNat % 2 ^ 8 := by
    rw [BitVec.toNat_and, BitVec.toNat_ofInt, h255, Nat.and_two_pow_sub_one_eq_mod]
  show IntKind.i64.wrap ((BitVec.ofInt 64 n &&& BitVec.ofInt 64 255).toNat : Nat) = n % 256
  rw [key, IntKind.wrap_i64]
  omega
/-- A draw's byte, where the code is at its end. -/
def vb (x : Int) : Int := Go.bits .xor .i64 (x / 8589934592) (x / 35184372088832) % 256
def nx (l : List Int) (i : Int) : Int := if i < (l.length : Int) then i + 1 else i
def dn (l : List Int) : Nat → Int → Int
  | 0, i => i
  | m + 1, i => dn l m (nx l i)
theorem dn_add (l : List Int) (m n : Nat) : ∀ i, dn l (m + n) i = dn l n (dn l m i) := by
  induction m with
  | zero => intro i; simp [dn]
  | succ m ih => intro i; rw [show m + 1 + n = (m + n) + 1 by omega]; simp only [dn]; exact ih _
theorem dn_eq (l : List Int) (m : Nat) : ∀ i, i ≤ (l.length : Int) → dn l m i = min (i + m) l.length := by
  induction m with
  | zero => intro i h; simp [dn]; omega
  | succ m ih =>
    intro i h
    simp only [dn]
    unfold nx
    split
    · rw [ih _ (by omega)]; omega
    · rw [ih _ h]; omega
theorem byte_ev (l : List Int) (hl : l.length ≤ 4611686018427387904) (i h : Int) (hi : 0 ≤ i) :
    ∃ v, spec_l01Byte.f l i h = some (v, nx l i, LC h) ∧ 0 ≤ v ∧ v ≤ 255 ∧ ((l.length : Int) ≤ i → v = vb (LC h)) := by
  unfold spec_l01Byte.f nx
  rw [show wrap64 ((wrap64 (h * 6364136223846793005)) + 1442695040888963407) = LC h from rfl]
  by_cases hlt : i < (l.length : Int)
  · rw [if_pos hlt, if_pos hi, if_pos hlt, w64 (x := i + 1) (by omega) (by omega)]
    refine ⟨_, rfl, ?_, ?_, fun h => by omega⟩
    · rw [i64_and255]; omega
    · rw [i64_and255]; omega
  · rw [if_neg hlt, if_neg hlt]
    refine ⟨_, rfl, ?_, ?_, fun _ => ?_⟩
    · rw [i64_and255]; omega
    · rw [i64_and255]; omega
    · rw [i64_and255]; rfl
def Okst (l : List Int) (i h : Int) : Prop := 0 ≤ i ∧ i ≤ (l.length : Int) ∧ -9223372036854775808 ≤ h ∧ h < 9223372036854775808
theorem Okst.dn {l : List Int} {i h : Int} (k : Okst l i h) (m : Nat) : Okst l (dn l m i) (it LC m h) := by
  have hd := dn_eq l m i k.2.1
  exact ⟨by rw [hd]; have := k.1; omega, by rw [hd]; omega, it_range m h k.2.2⟩
theorem below_ev (l : List Int) (hl : l.length ≤ 4611686018427387904) (i h : Int) (k : Okst l i h) (a : Int) (ha : a ≤ 4611686018427387904) :
    ∃ v m, spec_l01Below.f l i h a = some (v, dn l m i, it LC m h) ∧ m ≤ 4 ∧ (0 < a → 0 ≤ v ∧ v < a) ∧ (a ≤ 0 → v = 0) ∧ (1 ≤ a → a ≤ 256 → m = 1) ∧ (a = 5 → (l.length : Int) ≤ i → v = vb (LC h) % 5) := by
  unfold spec_l01Below.f
  by_cases h0 : a ≤ 0
  · rw [if_pos h0]
    exact ⟨0, 0, rfl, by decide, fun h => by omega, fun _ => rfl, fun h => by omega, fun h => by omega⟩
  rw [if_neg h0]
  obtain ⟨v1, e1, a1, b1, c1⟩ := byte_ev l hl i h k.1
  have k1 : Okst l (nx l i) (LC h) := k.dn 1
  by_cases h1 : a ≤ 256
  · rw [if_pos h1, e1]
    simp only [Option.bind_some]
    rw [if_neg (by omega), Int.tmod_eq_emod_of_nonneg a1]
    exact ⟨v1 % a, 1, rfl, by decide, fun h => ⟨Int.emod_nonneg _ (by omega), Int.emod_lt_of_pos _ h⟩, fun h => by omega, fun _ _ => rfl, fun h5 hi => by rw [h5, c1 hi]⟩
  · rw [if_neg h1, e1]
    simp only [Option.bind_some]
    obtain ⟨v2, e2, a2, b2, _⟩ := byte_ev l hl _ (LC h) k1.1
    have k2 : Okst l (nx l (nx l i)) (LC (LC h)) := k.dn 2
    obtain ⟨v3, e3, a3, b3, _⟩ := byte_ev l hl _ (LC (LC h)) k2.1
    have k3 : Okst l (nx l (nx l (nx l i))) (LC (LC (LC h))) := k.dn 3
    obtain ⟨v4, e4, a4, b4, _⟩ := byte_ev l hl _ (LC (LC (LC h))) k3.1
    rw [e2]
    simp only [Option.bind_some]
    rw [e3]
    simp only [Option.bind_some]
    rw [e4]
    simp only [Option.bind_some]
    rw [if_neg (by omega), w64 (x := v1 * 16777216) (by omega) (by omega), w64 (x := v2 * 65536) (by omega) (by omega), w64 (x := v1 * 16777216 + v2 * 65536) (by omega) (by omega), w64 (x := v3 * 256) (by omega) (by omega), w64 (x := v1 * 16777216 + v2 * 65536 + v3 * 256) (by omega) (by omega), w64 (x := v1 * 16777216 + v2 * 65536 + v3 * 256 + v4) (by omega) (by omega), Int.tmod_eq_emod_of_nonneg (by omega)]
    exact ⟨_, 4, rfl, by decide, fun h => ⟨Int.emod_nonneg _ (by omega), Int.emod_lt_of_pos _ h⟩, fun h => by omega, fun _ h => by omega, fun h => by omega⟩
def g3 (v : Int) : Prop := v = 0 ∨ v = 3 ∨ v = 4
instance (v : Int) : Decidable (g3 v) := by unfold g3; infer_instance
/-- The next draw lets a text grow. -/
def Good (l : List Int) (i h : Int) : Prop := (l.length : Int) ≤ i ∧ g3 (vb (LC h) % 5)
def Win (l : List Int) (i h : Int) (d : Nat) : Prop := (l.length : Int) ≤ i + d ∧ ∀ j, j < 6 → g3 (vb (it LC (d + j + 1) h) % 5)
theorem win33 : ∀ j, j < 6 → g3 (vb (it LC (j + 1) 33) % 5) := by decide +kernel
theorem it_succ (f : Int → Int) (n : Nat) (x : Int) : it f (n + 1) x = f (it f n x) := it_add f n 1 x
theorem win_ex (l : List Int) (i h : Int) (k : Okst l i h) : ∃ d, 0 < d ∧ Win l i h d := by
  obtain ⟨n, hn, he⟩ := reach64 (l.length + 1) h 33 (by decide) k.2.2
  refine ⟨n, by omega, by have := k.1; omega, fun j hj => ?_⟩
  rw [show n + j + 1 = n + (j + 1) by omega, it_add, he]
  exact win33 j hj
theorem Win.good {l : List Int} {i h : Int} {d m : Nat} (k : Okst l i h) (w : Win l i h d) (h1 : d ≤ m) (h2 : m ≤ d + 5) : Good l (dn l m i) (it LC m h) := by
  refine ⟨?_, ?_⟩
  · rw [dn_eq l m i k.2.1]; have := w.1; omega
  · have := w.2 (m - d) (by omega)
    rwa [show d + (m - d) + 1 = m + 1 by omega, it_succ] at this
theorem Win.later {l : List Int} {i h : Int} {d m : Nat} (k : Okst l i h) (w : Win l i h d) (h1 : m < d) : Win l (dn l m i) (it LC m h) (d - m) := by
  refine ⟨?_, fun j hj => ?_⟩
  · rw [dn_eq l m i k.2.1]; have := w.1; omega
  · rw [← it_add, show m + (d - m + j + 1) = d + j + 1 by omega]
    exact w.2 j hj
theorem text_l1 (l : List Int) (n x7 i h : Int) (c : Nat) : ∀ (out : List Int) (x6 x8 : Int), 0 ≤ x8 → x6 ≤ 1000 → x6 - x8 = c → out.length + c ≤ 100000000 → ∀ r, Ev (fun k => spec_l01Text.l0 k n (out ++ List.replicate c x7) l i h) r → Ev (fun k => spec_l01Text.l1 k n out x6 x7 x8 l i h) r := by
  induction c with
  | zero =>
    intro out x6 x8 h0 h1 hc hs r hr
    refine Ev.step (fun k => ?_) (by simpa using hr)
    simp only [spec_l01Text.l1]
    rw [if_neg (by omega)]
  | succ c ih =>
    intro out x6 x8 h0 h1 hc hs r hr
    have hr2 : Ev (fun k => spec_l01Text.l0 k n (out ++ [x7] ++ List.replicate c x7) l i h) r := by simpa [List.replicate_succ] using hr
    refine Ev.step (fun k => ?_) (ih (out ++ [x7]) x6 (x8 + 1) (by omega) (by omega) (by omega) (by simp; omega) r hr2)
    simp only [spec_l01Text.l1]
    rw [if_pos (by omega), if_pos (by omega), w64 (by omega) (by omega)]
theorem text_l2 (l : List Int) (n x9 i h : Int) (h9 : 0 ≤ x9) (h9b : x9 ≤ 100000000) (c : Nat) : ∀ (out : List Int) (x10 x11 : Int), 0 ≤ x11 → x10 ≤ 1000 → x10 - x11 = c → out.length + c ≤ 100000000 → ∃ ex : List Int, ex.length ≤ c ∧ ∀ r, Ev (fun k => spec_l01Text.l0 k n (out ++ ex) l i h) r → Ev (fun k => spec_l01Text.l2 k n out x9 x10 x11 l i h) r := by
  induction c with
  | zero =>
    intro out x10 x11 h0 h1 hc hs
    refine ⟨[], Nat.le_refl _, fun r hr => Ev.step (fun k => ?_) (by simpa using hr)⟩
    simp only [spec_l01Text.l2]
    rw [if_neg (by omega)]
  | succ c ih =>
    intro out x10 x11 h0 h1 hc hs
    have e9 : wrap64 (x9 + x11) = x9 + x11 := w64 (by omega) (by omega)
    have e11 : wrap64 (x11 + 1) = x11 + 1 := w64 (by omega) (by omega)
    by_cases hlt : x9 + x11 < (out.length : Int)
    · obtain ⟨ex, hex, he⟩ := ih (out ++ [rd out (x9 + x11)]) x10 (x11 + 1) (by omega) (by omega) (by omega) (by simp; omega)
      refine ⟨rd out (x9 + x11) :: ex, by simp; omega, fun r hr => Ev.step (fun k => ?_) (he r (by simpa using hr))⟩
      simp only [spec_l01Text.l2]
      rw [if_pos (by omega), e9, e11, if_pos hlt, if_pos (by omega), if_pos (by omega)]
    · refine ⟨[], Nat.zero_le _, fun r hr => Ev.step (fun k => ?_) (by simpa using hr)⟩
      simp only [spec_l01Text.l2]
      rw [if_pos (by omega), e9, if_neg hlt]
/-- One round of l01Text: some draws, and the text grows or not; where the next draw is a good one, it does. -/
theorem text_iter (l : List Int) (hl : l.length ≤ 4611686018427387904) (n : Int) (hn : n ≤ 1000000) (out : List Int) (hout : (out.length : Int) < n) (i h : Int) (k : Okst l i h) :
    ∃ (m : Nat) (ex : List Int), 1 ≤ m ∧ m ≤ 6 ∧ ex.length ≤ 20 ∧ (Good l i h → ex ≠ []) ∧ ∀ r, Ev (fun k => spec_l01Text.l0 k n (out ++ ex) l (dn l m i) (it LC m h)) r → Ev (fun k => spec_l01Text.l0 k n out l i h) r := by
  obtain ⟨v, m1, e1, hm1, hv, _, hm, hg⟩ := below_ev l hl i h k 5 (by decide)
  obtain rfl : m1 = 1 := hm (by decide) (by decide)
  have hv1 := hv (by decide)
  have k1 := k.dn 1
  have hstep : ∀ (F : Nat → Option (ByteArray × Int × Int)) (r : ByteArray × Int × Int), Ev F r → (∀ k, spec_l01Text.l0 (k + 1) n out l i h = F k) → Ev (fun k => spec_l01Text.l0 k n out l i h) r := fun F r hF he => Ev.step (f := F) he hF
  by_cases v0 : v = 0
  · obtain ⟨b, e2, _, _, _⟩ := byte_ev l hl _ (it LC 1 h) k1.1
    refine ⟨2, [b % 256], by decide, by decide, by simp, fun _ => by simp, fun r hr => hstep _ r hr (fun k => ?_)⟩
    simp only [spec_l01Text.l0]
    rw [if_pos hout, e1, Option.bind_some, if_pos v0, e2, Option.bind_some, if_pos (by omega)]
    rfl
  by_cases v1 : v = 1
  · obtain ⟨c, m2, e2, hm2, hc, _, hm2', _⟩ := below_ev l hl _ (it LC 1 h) k1 9 (by decide)
    obtain rfl : m2 = 1 := hm2' (by decide) (by decide)
    obtain ⟨y, m3, e3, hm3, hy, _, hm3', _⟩ := below_ev l hl _ (it LC 1 (it LC 1 h)) (k1.dn 1) 4 (by decide)
    obtain rfl : m3 = 1 := hm3' (by decide) (by decide)
    have hc2 := hc (by decide)
    refine ⟨3, List.replicate c.toNat ((wrap64 (97 + y)) % 256), by decide, by decide, by simp; omega, fun hg2 => ?_, fun r hr => hstep _ r (text_l1 l n ((wrap64 (97 + y)) % 256) _ _ c.toNat out c 0 (by decide) (by omega) (by omega) (by omega) r hr) (fun k => ?_)⟩
    · have h5 := hg rfl hg2.1
      have := hg2.2
      unfold g3 at this
      omega
    · simp only [spec_l01Text.l0]
      rw [if_pos hout, e1, Option.bind_some, if_neg v0, if_pos v1, e2, Option.bind_some, e3, Option.bind_some]
      rfl
  by_cases v2 : v = 2
  · by_cases hpos : (out.length : Int) > 0
    · obtain ⟨x, m2, e2, hm2, hx, _, _, _⟩ := below_ev l hl _ (it LC 1 h) k1 out.length (by omega)
      obtain ⟨c, m3, e3, hm3, hc, _, hm3', _⟩ := below_ev l hl _ (it LC m2 (it LC 1 h)) (k1.dn m2) 20 (by decide)
      obtain rfl : m3 = 1 := hm3' (by decide) (by decide)
      have hc2 := hc (by decide)
      have hx2 := hx hpos
      obtain ⟨ex, hex, he⟩ := text_l2 l n x (dn l 1 (dn l m2 (dn l 1 i))) (it LC 1 (it LC m2 (it LC 1 h))) hx2.1 (by omega) c.toNat out c 0 (by decide) (by omega) (by omega) (by omega)
      refine ⟨1 + m2 + 1, ex, by omega, by omega, by omega, fun hg2 => ?_, fun r hr => hstep _ r (he r ?_) (fun k => ?_)⟩
      · have h5 := hg rfl hg2.1
        have := hg2.2
        unfold g3 at this
        omega
      · rwa [dn_add, dn_add, it_add, it_add] at hr
      · simp only [spec_l01Text.l0]
        rw [if_pos hout, e1, Option.bind_some, if_neg v0, if_neg v1, if_pos v2, if_pos hpos, e2, Option.bind_some, e3, Option.bind_some]
    · refine ⟨1, [], by decide, by decide, by simp, fun hg2 => ?_, fun r hr => hstep _ r (by simpa using hr) (fun k => ?_)⟩
      · have h5 := hg rfl hg2.1
        have := hg2.2
        unfold g3 at this
        omega
      · simp only [spec_l01Text.l0]
        rw [if_pos hout, e1, Option.bind_some, if_neg v0, if_neg v1, if_pos v2, if_neg hpos]
  · obtain ⟨y, m2, e2, hm2, hy, _, hm2', _⟩ := below_ev l hl _ (it LC 1 h) k1 26 (by decide)
    obtain rfl : m2 = 1 := hm2' (by decide) (by decide)
    refine ⟨2, [(wrap64 (97 + y)) % 256], by decide, by decide, by simp, fun _ => by simp, fun r hr => hstep _ r hr (fun k => ?_)⟩
    simp only [spec_l01Text.l0]
    rw [if_pos hout, e1, Option.bind_some, if_neg v0, if_neg v1, if_neg v2, e2, Option.bind_some, if_pos (by omega)]
    rfl
theorem text_end (l : List Int) (hl : l.length ≤ 4611686018427387904) (n : Int) (hn0 : 0 ≤ n) (hn : n ≤ 1000000) (R : Nat) :
    ∀ (d : Nat) (out : List Int) (i h : Int), Okst l i h → (d = 0 ∧ Good l i h ∨ 0 < d ∧ Win l i h d) → n - out.length ≤ R → (out.length : Int) ≤ n + 20 →
    ∃ s i' h', s.size = n.toNat ∧ Okst l i' h' ∧ Ev (fun k => spec_l01Text.l0 k n out l i h) (s, i', h') := by
  have hdone : ∀ (out : List Int) (i h : Int), Okst l i h → n ≤ (out.length : Int) → ∃ s i' h', s.size = n.toNat ∧ Okst l i' h' ∧ Ev (fun k => spec_l01Text.l0 k n out l i h) (s, i', h') := by
    intro out i h k hge
    refine ⟨strOfNums (out.take n.toNat), i, h, by rw [strOfNums_size]; simp; omega, k, ev_at (fun k => ?_)⟩
    simp only [spec_l01Text.l0]
    rw [if_neg (by omega), if_pos hn0, if_pos hge]
  induction R with
  | zero => intro d out i h k _ hR _; exact hdone out i h k (by omega)
  | succ R ih =>
    intro d
    induction d using Nat.strongRecOn with
    | ind d ihd =>
      intro out i h k hw hR hsz
      by_cases hlt : n ≤ (out.length : Int)
      · exact hdone out i h k hlt
      obtain ⟨m, ex, hm1, hm6, hex, hgood, hgo⟩ := text_iter l hl n hn out (by omega) i h k
      by_cases he : ex = []
      · subst he
        have hd : 0 < d ∧ Win l i h d := by
          rcases hw with ⟨_, hg⟩ | hw
          · exact absurd rfl (hgood hg)
          · exact hw
        simp only [List.append_nil] at hgo
        by_cases hmd : m < d
        · obtain ⟨s, i', h', h1, h2, h3⟩ := ihd (d - m) (by omega) out _ _ (k.dn m) (.inr ⟨by omega, hd.2.later k hmd⟩) hR hsz
          exact ⟨s, i', h', h1, h2, hgo _ h3⟩
        · obtain ⟨s, i', h', h1, h2, h3⟩ := ihd 0 hd.1 out _ _ (k.dn m) (.inl ⟨rfl, hd.2.good k (by omega) (by omega)⟩) hR hsz
          exact ⟨s, i', h', h1, h2, hgo _ h3⟩
      · have hlen : 1 ≤ ex.length := by
          cases ex with
          | nil => exact absurd rfl he
          | cons _ _ => simp
        obtain ⟨d2, hd2, hw2⟩ := win_ex l _ _ (k.dn m)
        obtain ⟨s, i', h', h1, h2, h3⟩ := ih d2 (out ++ ex) _ _ (k.dn m) (.inr ⟨hd2, hw2⟩) (by simp; omega) (by simp; omega)
        exact ⟨s, i', h', h1, h2, hgo _ h3⟩
theorem text_ev (l : List Int) (hl : l.length ≤ 4611686018427387904) (n : Int) (hn0 : 0 ≤ n) (hn : n ≤ 1000000) (i h : Int) (k : Okst l i h) : ∃ s i' h', s.size = n.toNat ∧ Okst l i' h' ∧ Ev (fun k => spec_l01Text.f k l i h n) (s, i', h') := by
  obtain ⟨d, hd, hw⟩ := win_ex l i h k
  exact text_end l hl n hn0 hn n.toNat d [] i h k (.inr ⟨hd, hw⟩) (by simp; omega) (by simp; omega)
theorem rd_midB (pre : List Int) (x : Int) (t : List Int) {i : Int} (hi : i = pre.length) : rd (pre ++ x :: t) i = x := by
  subst hi
  simp [rd]
theorem set_midB (pre : List Int) (x y : Int) (t : List Int) {i : Int} (hi : i = pre.length) : (pre ++ x :: t).set i.toNat y = pre ++ y :: t := by
  subst hi
  simp
theorem bt_nn (s : ByteArray) (i : Int) : 0 ≤ bt s i := by unfold bt; split <;> omega
theorem bt_le (s : ByteArray) (i : Int) : bt s i ≤ 255 := by
  unfold bt
  split
  · rename_i h
    have := (s[i.toNat]'h).toNat_lt
    omega
  · omega
theorem or_sum (i j : Nat) (hj : j ≤ 32) (hij : i ≤ j) (x y : Int) (hx0 : 0 ≤ x) (hx : x < 2 ^ i) (hy0 : 0 ≤ y) (hy : y % 2 ^ i = 0) (hy1 : y < 2 ^ j) : Go.bits .or .u32 x y = x + y := by
  have hx1 : x < 2 ^ j := Int.lt_of_lt_of_le hx (by exact_mod_cast Nat.pow_le_pow_right (by decide) hij)
  have wr : ∀ n : Int, 0 ≤ n → n < 2 ^ j → IntKind.u32.wrap n = n := by
    intro n h0 h1
    have : (2 : Int) ^ j ≤ 2 ^ 32 := by exact_mod_cast Nat.pow_le_pow_right (by decide) hj
    rw [IntKind.wrap_u32]
    have e : (2 : Int) ^ 32 = 4294967296 := by decide
    omega
  have h := bits_join .u32 j hj wr i y x hy0 hy hy1 hx0 hx hx1
  obtain ⟨a, rfl⟩ := Int.eq_ofNat_of_zero_le hx0
  obtain ⟨b, rfl⟩ := Int.eq_ofNat_of_zero_le hy0
  have ha : a < 2 ^ j := by exact_mod_cast hx1
  have hb : b < 2 ^ j := by exact_mod_cast hy1
  rw [(bits_nat .u32 j hj wr a b ha hb).2, Nat.or_comm, ← (bits_nat .u32 j hj wr b a hb ha).2, h]
  omega
/-- The word of a text's first four bytes. -/
def WD (s : ByteArray) : Int := bt s 0 + 256 * bt s 1 + 65536 * bt s 2 + 16777216 * bt s 3
theorem WD_nn (s : ByteArray) : 0 ≤ WD s := by
  have := bt_nn s 0; have := bt_nn s 1; have := bt_nn s 2; have := bt_nn s 3
  unfold WD; omega
theorem WD_lt (s : ByteArray) : WD s < 4294967296 := by
  have := bt_le s 0; have := bt_le s 1; have := bt_le s 2; have := bt_le s 3
  unfold WD; omega
theorem word_or (a b c d : Int) (a0 : 0 ≤ a) (a1 : a ≤ 255) (b0 : 0 ≤ b) (b1 : b ≤ 255) (c0 : 0 ≤ c) (c1 : c ≤ 255) (d0 : 0 ≤ d) (d1 : d ≤ 255) :
    Go.bits .or .u32 (Go.bits .or .u32 (Go.bits .or .u32 (a % 4294967296) (((b % 4294967296) * 256) % 4294967296)) (((c % 4294967296) * 65536) % 4294967296)) (((d % 4294967296) * 16777216) % 4294967296) = a + 256 * b + 65536 * c + 16777216 * d := by
  rw [show a % 4294967296 = a by omega, show ((b % 4294967296) * 256) % 4294967296 = b * 256 by omega, show ((c % 4294967296) * 65536) % 4294967296 = c * 65536 by omega, show ((d % 4294967296) * 16777216) % 4294967296 = d * 16777216 by omega]
  rw [or_sum 8 16 (by decide) (by decide) a (b * 256) a0 (by omega) (by omega) (by omega) (by omega)]
  rw [or_sum 16 24 (by decide) (by decide) (a + b * 256) (c * 65536) (by omega) (by omega) (by omega) (by omega) (by omega)]
  rw [or_sum 24 32 (by decide) (by decide) (a + b * 256 + c * 65536) (d * 16777216) (by omega) (by omega) (by omega) (by omega) (by omega)]
  omega
theorem bt_extract (s : ByteArray) (n : Nat) (hn : n ≤ s.size) (i : Nat) (hi : i < n) : bt (s.extract 0 n) i = bt s i := by
  unfold bt
  have h1 : ((i : Int)).toNat < (s.extract 0 n).size := by simp; omega
  have h2 : ((i : Int)).toNat < s.size := by simp; omega
  rw [dif_pos h1, dif_pos h2]
  simp only [Int.toNat_natCast, ByteArray.getElem_extract, Nat.zero_add]
theorem spec_word (s : ByteArray) (h : 4 ≤ s.size) : spec_GetWord.f (bytesOf (s.extract 0 4)) = some (WD s, true) := by
  have hl : ((bytesOf (s.extract 0 4)).length : Int) = 4 := by rw [bytesOf_length]; simp; omega
  have a0 := bt_nn s 0; have b0 := bt_nn s 1; have c0 := bt_nn s 2; have d0 := bt_nn s 3
  have a1 := bt_le s 0; have b1 := bt_le s 1; have c1 := bt_le s 2; have d1 := bt_le s 3
  unfold spec_GetWord.f
  rw [if_pos hl, if_pos (by omega), if_pos (by omega), if_pos (by omega), if_pos (by omega)]
  rw [rd_bytesOf, rd_bytesOf, rd_bytesOf, rd_bytesOf]
  rw [show (0 : Int) = ((0 : Nat) : Int) from rfl, show (1 : Int) = ((1 : Nat) : Int) from rfl, show (2 : Int) = ((2 : Nat) : Int) from rfl, show (3 : Int) = ((3 : Nat) : Int) from rfl, bt_extract s 4 h 0 (by decide), bt_extract s 4 h 1 (by decide), bt_extract s 4 h 2 (by decide), bt_extract s 4 h 3 (by decide)]
  simp only [Int.cast_ofNat_Int] at *
  rw [w64 (x := bt s 0) (by omega) (by omega), w64 (x := bt s 1) (by omega) (by omega), w64 (x := bt s 2) (by omega) (by omega), w64 (x := bt s 3) (by omega) (by omega)]
  rw [w64 (x := 256 * bt s 1) (by omega) (by omega), w64 (x := 65536 * bt s 2) (by omega) (by omega), w64 (x := 16777216 * bt s 3) (by omega) (by omega)]
  rw [w64 (x := bt s 0 + 256 * bt s 1) (by omega) (by omega), w64 (x := bt s 0 + 256 * bt s 1 + 65536 * bt s 2) (by omega) (by omega), w64 (x := bt s 0 + 256 * bt s 1 + 65536 * bt s 2 + 16777216 * bt s 3) (by omega) (by omega)]
  have : (bt s 0 + 256 * bt s 1 + 65536 * bt s 2 + 16777216 * bt s 3) % 4294967296 = WD s := by unfold WD; omega
  rw [this]
theorem impl_word (s : ByteArray) (h : 4 ≤ s.size) : impl_readWord.f s = some (WD s) := by
  unfold impl_readWord.f
  rw [if_pos (by omega), if_pos (by omega), if_pos (by omega), if_pos (by omega)]
  rw [word_or _ _ _ _ (bt_nn s 0) (bt_le s 0) (bt_nn s 1) (bt_le s 1) (bt_nn s 2) (bt_le s 2) (bt_nn s 3) (bt_le s 3)]
  rfl
theorem rd_mid26 (pre : List S26) (x : S26) (t : List S26) {i : Int} (hi : i = pre.length) : rd_T26 (pre ++ x :: t) i = x := by
  subst hi
  simp [rd_T26]
theorem set_mid26 (pre : List S26) (x y : S26) (t : List S26) {i : Int} (hi : i = pre.length) : (pre ++ x :: t).set i.toNat y = pre ++ y :: t := by
  subst hi
  simp
/-- The frames of a text, and what is left of it. -/
def rp : Nat → ByteArray → List S26 → ByteArray × List S26 × Bool
  | 0, s, acc => (s, acc, false)
  | n + 1, s, acc => if s.size < 4 then (s, acc, false) else if WD s > 8007 then (⟨#[]⟩, acc, true) else if (s.size : Int) < 4 + WD s / 8 then (s, acc, false) else rp n (s.extract (4 + WD s / 8).toNat s.size) (acc ++ [⟨WD s % 8, s.extract 4 (4 + WD s / 8).toNat⟩])
theorem spec_rp (n : Nat) : ∀ (s : ByteArray) (acc : List S26), s.size ≤ n → acc.length + n ≤ 4611686018427 → Ev (fun k => spec_ReaderPush.l0 k s ⟨#[]⟩ acc true) (rp n s acc) := by
  induction n with
  | zero =>
    intro s acc hs hb
    exact ev_at (fun k => by simp only [spec_ReaderPush.l0]; rw [if_neg (by omega)]; rfl)
  | succ n ih =>
    intro s acc hs hb
    by_cases h4 : s.size < 4
    · rw [show rp (n + 1) s acc = (s, acc, false) by simp only [rp]; rw [if_pos h4]]
      exact ev_at (fun k => by simp only [spec_ReaderPush.l0]; rw [if_neg (by omega)])
    have hw0 := WD_nn s
    have hw1 := WD_lt s
    have e1 : wrap64 (WD s) = WD s := w64 (by omega) (by omega)
    have e2 : wrap64 (Int.tdiv (WD s) 8) = WD s / 8 := by rw [Int.tdiv_eq_ediv_of_nonneg hw0]; exact w64 (by omega) (by omega)
    have e3 : wrap64 (4 + WD s / 8) = 4 + WD s / 8 := w64 (by omega) (by omega)
    have e4 : Int.tmod (WD s) 8 = WD s % 8 := Int.tmod_eq_emod_of_nonneg hw0
    have hx : (s.extract 0 4).size ≤ 9223372036854775807 := by simp; omega
    by_cases hbad : WD s > 8007
    · rw [show rp (n + 1) s acc = (⟨#[]⟩, acc, true) by simp only [rp]; rw [if_neg h4, if_pos hbad]]
      refine ev_at (fun k => ?_)
      simp only [spec_ReaderPush.l0]
      rw [if_pos (by omega), if_pos (by omega), if_pos hx, spec_word s (by omega)]
      simp only [Option.bind_some]
      rw [e1, e2, if_pos (by omega)]
    by_cases hsh : (s.size : Int) < 4 + WD s / 8
    · rw [show rp (n + 1) s acc = (s, acc, false) by simp only [rp]; rw [if_neg h4, if_neg hbad, if_pos hsh]]
      refine ev_at (fun k => ?_)
      simp only [spec_ReaderPush.l0]
      rw [if_pos (by omega), if_pos (by omega), if_pos hx, spec_word s (by omega)]
      simp only [Option.bind_some]
      rw [e1, e2, e3, if_neg (by omega), if_pos hsh]
    · rw [show rp (n + 1) s acc = rp n (s.extract (4 + WD s / 8).toNat s.size) (acc ++ [⟨WD s % 8, s.extract 4 (4 + WD s / 8).toNat⟩]) by simp only [rp]; rw [if_neg h4, if_neg hbad, if_neg hsh]]
      refine Ev.step (fun k => ?_) (ih _ _ (by simp; omega) (by simp; omega))
      simp only [spec_ReaderPush.l0]
      rw [if_pos (by omega), if_pos (by omega), if_pos hx, spec_word s (by omega)]
      simp only [Option.bind_some]
      rw [e1, e2, e3, e4, if_neg (by omega), if_neg hsh, if_pos (by omega), if_pos (by omega), if_pos (by omega), if_pos (by omega)]
theorem impl_rp (n : Nat) : ∀ (s : ByteArray) (acc : List S26), s.size ≤ n → acc.length + n ≤ 4611686018427 → Ev (fun k => impl_ReaderPush.l0 k s ⟨#[]⟩ acc false) (rp n s acc) := by
  induction n with
  | zero =>
    intro s acc hs hb
    exact ev_at (fun k => by simp only [impl_ReaderPush.l0]; rw [if_neg (by omega)]; rfl)
  | succ n ih =>
    intro s acc hs hb
    by_cases h4 : s.size < 4
    · rw [show rp (n + 1) s acc = (s, acc, false) by simp only [rp]; rw [if_pos h4]]
      exact ev_at (fun k => by simp only [impl_ReaderPush.l0]; rw [if_neg (by omega)])
    have hw0 := WD_nn s
    have hw1 := WD_lt s
    have e2 : (Int.tdiv (WD s) 8) % 4294967296 = WD s / 8 := by rw [Int.tdiv_eq_ediv_of_nonneg hw0]; omega
    have e4 : wrap64 (Int.tmod (WD s) 8) = WD s % 8 := by rw [Int.tmod_eq_emod_of_nonneg hw0]; exact w64 (by omega) (by omega)
    by_cases hbad : WD s > 8007
    · rw [show rp (n + 1) s acc = (⟨#[]⟩, acc, true) by simp only [rp]; rw [if_neg h4, if_pos hbad]]
      refine ev_at (fun k => ?_)
      simp only [impl_ReaderPush.l0]
      rw [if_pos (by omega), impl_word s (by omega)]
      simp only [Option.bind_some]
      rw [if_pos hbad]
    by_cases hsh : (s.size : Int) < 4 + WD s / 8
    · rw [show rp (n + 1) s acc = (s, acc, false) by simp only [rp]; rw [if_neg h4, if_neg hbad, if_pos hsh]]
      refine ev_at (fun k => ?_)
      simp only [impl_ReaderPush.l0]
      rw [if_pos (by omega), impl_word s (by omega)]
      simp only [Option.bind_some]
      rw [e2, if_neg hbad, if_pos hsh]
    · rw [show rp (n + 1) s acc = rp n (s.extract (4 + WD s / 8).toNat s.size) (acc ++ [⟨WD s % 8, s.extract 4 (4 + WD s / 8).toNat⟩]) by simp only [rp]; rw [if_neg h4, if_neg hbad, if_neg hsh]]
      refine Ev.step (fun k => ?_) (ih _ _ (by simp; omega) (by simp; omega))
      simp only [impl_ReaderPush.l0]
      rw [if_pos (by omega), impl_word s (by omega)]
      simp only [Option.bind_some]
      rw [e2, e4, if_neg hbad, if_neg hsh, if_pos (by omega), if_pos (by omega), if_pos (by omega), if_pos (by omega)]
/-- What a push makes of a reader. -/
def rpv (rest : ByteArray) (fs : List S26) (bad : Bool) (b : List Int) : ByteArray × List S26 × Bool :=
  if bad = true ∨ rest.size > 1004 ∨ b.length > 100000 then (⟨#[]⟩, fs, true) else rp (rest.size + b.length) (rest ++ strOfNums b) fs
theorem spec_push (rest : ByteArray) (fs : List S26) (bad : Bool) (b : List Int) (hf : fs.length ≤ 1000000000000) : Ev (fun k => spec_ReaderPush.f k rest fs bad b) (rpv rest fs bad b) := by
  unfold spec_ReaderPush.f rpv
  have e : ([] : List S26).length + fs.length < 5864062014805 := by simp only [List.length_nil]; omega
  simp only [Option.bind_some, if_pos e, List.nil_append]
  by_cases h1 : bad = true
  · rw [if_pos (.inl h1)]
    refine Ev.congr (fun k => by rw [if_pos h1]) (ev_at (fun k => by simp [spec_ReaderPush.j0]))
  by_cases h2 : rest.size > 1004
  · rw [if_pos (.inr (.inl h2))]
    refine Ev.congr (fun k => by rw [if_neg h1, if_pos (by omega)]) (ev_at (fun k => by simp [spec_ReaderPush.j0]))
  by_cases h3 : b.length > 100000
  · rw [if_pos (.inr (.inr h3))]
    refine Ev.congr (fun k => by rw [if_neg h1, if_neg (by omega), decide_eq_true (by omega)]) (ev_at (fun k => by simp [spec_ReaderPush.j0]))
  · rw [if_neg (by rintro (h | h | h) <;> contradiction)]
    refine Ev.congr (fun k => by rw [if_neg h1, if_neg (by omega), decide_eq_false (by omega)]) (Ev.step (fun k => ?_) (spec_rp _ _ _ (by rw [ByteArray.size_append, strOfNums_size]; omega) (by omega)))
    simp only [spec_ReaderPush.j0]
    rw [if_neg (by decide), if_pos (by rw [strOfNums_size]; omega)]
theorem impl_push (rest : ByteArray) (fs : List S26) (bad : Bool) (b : List Int) (hf : fs.length ≤ 1000000000000) : Ev (fun k => impl_ReaderPush.f k rest fs bad b) (rpv rest fs bad b) := by
  unfold impl_ReaderPush.f rpv
  have e : impl_Frame.f fs = some fs := by unfold impl_Frame.f; rw [if_pos (by omega)]
  simp only [e, Option.bind_some]
  by_cases h1 : bad = true
  · rw [if_pos (.inl h1)]
    refine Ev.congr (fun k => by rw [if_pos h1]) (ev_at (fun k => by simp [impl_ReaderPush.j0]))
  by_cases h2 : rest.size > 1004
  · rw [if_pos (.inr (.inl h2))]
    refine Ev.congr (fun k => by rw [if_neg h1, if_pos (by omega)]) (ev_at (fun k => by simp [impl_ReaderPush.j0]))
  by_cases h3 : b.length > 100000
  · rw [if_pos (.inr (.inr h3))]
    refine Ev.congr (fun k => by rw [if_neg h1, if_neg (by omega), decide_eq_true (by omega)]) (ev_at (fun k => by simp [impl_ReaderPush.j0]))
  · rw [if_neg (by rintro (h | h | h) <;> contradiction)]
    refine Ev.congr (fun k => by rw [if_neg h1, if_neg (by omega), decide_eq_false (by omega)]) (Ev.step (fun k => ?_) (impl_rp _ _ _ (by rw [ByteArray.size_append, strOfNums_size]; omega) (by omega)))
    simp only [impl_ReaderPush.j0]
    rw [if_neg (by decide), if_pos (by rw [strOfNums_size]; omega)]
theorem rp_len (n : Nat) : ∀ (s : ByteArray) (acc : List S26), (rp n s acc).2.1.length ≤ acc.length + n := by
  induction n with
  | zero => intro s acc; simp [rp]
  | succ n ih =>
    intro s acc
    simp only [rp]
    split
    · show acc.length ≤ _; omega
    split
    · show acc.length ≤ _; omega
    split
    · show acc.length ≤ _; omega
    · have := ih (s.extract (4 + WD s / 8).toNat s.size) (acc ++ [⟨WD s % 8, s.extract 4 (4 + WD s / 8).toNat⟩])
      simp at this
      omega
theorem rpv_len (rest : ByteArray) (fs : List S26) (bad : Bool) (b : List Int) : (rpv rest fs bad b).2.1.length ≤ fs.length + 101004 := by
  unfold rpv
  split
  · show fs.length ≤ _; omega
  · rename_i h
    have := rp_len (rest.size + b.length) (rest ++ strOfNums b) fs
    have h2 : ¬ rest.size > 1004 := fun h' => h (.inr (.inl h'))
    have h3 : ¬ b.length > 100000 := fun h' => h (.inr (.inr h'))
    omega
/-- The pieces of a text, as the cuts say. -/
def spl : List Int → ByteArray → List ByteArray
  | [], s => if s.toList = ([] : List UInt8) then [] else [s]
  | c :: t, s => s.extract 0 (if c < 0 then 0 else if c > (s.size : Int) then s.size else c.toNat) :: spl t (s.extract (if c < 0 then 0 else if c > (s.size : Int) then s.size else c.toNat) s.size)
theorem spl_len (cs : List Int) (s : ByteArray) : (spl cs s).length ≤ cs.length + 1 := by
  induction cs generalizing s with
  | nil => simp only [spl]; split <;> simp
  | cons c t ih => have := ih (s.extract (if c < 0 then 0 else if c > (s.size : Int) then s.size else c.toNat) s.size); simp only [spl, List.length_cons]; omega
theorem ext_full (s : ByteArray) : s.extract 0 s.size = s := ByteArray.extract_zero_size
theorem ext_none (s : ByteArray) : s.extract 0 0 = (⟨#[]⟩ : ByteArray) := by
  apply ByteArray.ext
  simp
theorem impl_spl (suf : List Int) : ∀ (pre : List Int) (acc : List ByteArray) (s : ByteArray) (i : Int), i = pre.length → pre.length + suf.length ≤ 1000 → acc.length = pre.length →
    Ev (fun k => impl_Split.l0 k acc s (pre ++ suf) ((pre ++ suf).length : Int) i) (acc ++ spl suf s) := by
  induction suf with
  | nil =>
    intro pre acc s i hi hl ha
    refine ev_at (fun k => ?_)
    simp only [impl_Split.l0]
    rw [if_neg (by simp; omega)]
    simp only [spl]
    by_cases he : s.toList = ([] : List UInt8)
    · rw [if_pos he, if_pos he]; simp
    · rw [if_neg he, if_neg he, if_pos (by simp at hl; omega)]
  | cons c t ih =>
    intro pre acc s i hi hl ha
    simp only [List.length_cons] at hl
    have e3 : wrap64 (i + 1) = i + 1 := w64 (by omega) (by omega)
    have c1 : i < ((pre ++ c :: t).length : Int) := by simp; omega
    have c2 : 0 ≤ i := by omega
    have c3 : acc.length < 8796093022208 := by omega
    have em : mn (mx c 0) (s.size : Int) = ((if c < 0 then 0 else if c > (s.size : Int) then s.size else c.toNat : Nat) : Int) := by
      unfold mn mx
      by_cases h1 : c < 0
      · rw [if_pos h1, if_pos h1, if_neg (by omega)]; rfl
      · rw [if_neg h1, if_neg h1]
        by_cases h2 : c > (s.size : Int)
        · rw [if_pos (by omega), if_pos h2]
        · rw [if_neg (by omega), if_neg h2]; omega
    have h := ih (pre ++ [c]) (acc ++ [s.extract 0 (if c < 0 then 0 else if c > (s.size : Int) then s.size else c.toNat)]) (s.extract (if c < 0 then 0 else if c > (s.size : Int) then s.size else c.toNat) s.size) (i + 1) (by simp; omega) (by simp; omega) (by simp; omega)
    simp only [List.append_assoc, List.cons_append, List.nil_append] at h
    refine Ev.step (fun k => ?_) h
    have hle : (if c < 0 then 0 else if c > (s.size : Int) then s.size else c.toNat) ≤ s.size := by split <;> (try split) <;> omega
    simp only [impl_Split.l0]
    rw [if_pos c1, if_pos c2, if_pos c1, rd_midB pre c t hi, em, if_pos (by omega), if_pos (by omega), if_pos c3, e3, Int.toNat_natCast]
def splv (b : List Int) (cs : List Int) : List ByteArray := if b.length > 100000 ∨ cs.length > 1000 then [] else spl cs (strOfNums b)
theorem splv_len (b cs : List Int) : (splv b cs).length ≤ 1001 := by
  unfold splv
  split
  · simp
  · rename_i h
    have := spl_len cs (strOfNums b)
    have : ¬ cs.length > 1000 := fun h' => h (.inr h')
    omega
theorem impl_splv (b cs : List Int) : Ev (fun k => impl_Split.f k b cs) (splv b cs) := by
  unfold impl_Split.f splv
  by_cases h1 : b.length > 100000
  · rw [if_pos (.inl h1)]
    exact Ev.congr (fun k => by rw [if_pos (by omega)]) (ev_at (fun k => by simp [impl_Split.j0]))
  by_cases h2 : cs.length > 1000
  · rw [if_pos (.inr h2)]
    exact Ev.congr (fun k => by rw [if_neg (by omega), decide_eq_true (by omega)]) (ev_at (fun k => by simp [impl_Split.j0]))
  · rw [if_neg (by rintro (h | h) <;> contradiction)]
    have h := impl_spl cs [] [] (strOfNums b) 0 rfl (by simp; omega) rfl
    simp only [List.nil_append] at h
    exact Ev.congr (fun k => by rw [if_neg (by omega), decide_eq_false (by omega)]) (Ev.step (fun k => by simp only [impl_Split.j0]; rw [if_neg (by decide)]) h)
theorem bits_range (op : BinOp) (a b : Int) (h : op = .and ∨ op = .xor ∨ op = .or) : -9223372036854775808 ≤ Go.bits op .i64 a b ∧ Go.bits op .i64 a b < 9223372036854775808 := by
  rcases h with rfl | rfl | rfl <;> (simp only [bits]; rw [IntKind.wrap_i64]; omega)
theorem wrap_range (x : Int) : -9223372036854775808 ≤ wrap64 x ∧ wrap64 x < 9223372036854775808 := by unfold wrap64; omega
theorem new_ev0 (l : List Int) (d : Nat) : ∀ (i : Nat) (h : Int), 4000 - i = d → i ≤ 4000 → -9223372036854775808 ≤ h ∧ h < 9223372036854775808 → ∃ h', Okst l 0 h' ∧ Ev (fun k => spec_l01New.l0 k l h i) (l, 0, h') := by
  induction d with
  | zero =>
    intro i h hd hi hh
    refine ⟨h, ⟨Int.le_refl 0, by omega, hh⟩, ev_at (fun k => ?_)⟩
    simp only [spec_l01New.l0]
    split
    · rw [if_neg (by omega)]
    · rfl
  | succ d ih =>
    intro i h hd hi hh
    by_cases hlt : (i : Int) < (l.length : Int)
    · obtain ⟨h', hk, he⟩ := ih (i + 1) (Go.bits .and .i64 (wrap64 ((wrap64 ((wrap64 (h * 131)) + (wrap64 (rd l i)))) + 7)) 1073741823) (by omega) (by omega) (bits_range .and _ _ (.inl rfl))
      refine ⟨h', hk, Ev.step (fun k => ?_) he⟩
      simp only [spec_l01New.l0]
      rw [if_pos hlt, if_pos (by omega), if_pos (by omega), w64 (x := (i : Int) + 1) (by omega) (by omega)]
      rfl
    · refine ⟨h, ⟨Int.le_refl 0, by omega, hh⟩, ev_at (fun k => ?_)⟩
      simp only [spec_l01New.l0]
      rw [if_neg hlt]
theorem new_ev (l : List Int) : ∃ h', Okst l 0 h' ∧ Ev (fun k => spec_l01New.f k l) (l, 0, h') := new_ev0 l 4000 0 _ rfl (by omega) (wrap_range _)
theorem once_ev (l : List Int) (hl : l.length ≤ 4611686018427387904) (i h : Int) (k : Okst l i h) (a : Int) (ha : a ≤ 4611686018427387904) : ∃ b i' h', spec_l01Once.f l i h a = some (b, i', h') ∧ Okst l i' h' := by
  obtain ⟨v, m, e, _⟩ := below_ev l hl i h k a ha
  refine ⟨v == 0, dn l m i, it LC m h, ?_, k.dn m⟩
  unfold spec_l01Once.f
  rw [e]
  rfl
theorem size_ev (l : List Int) (hl : l.length ≤ 4611686018427387904) (a : Int) (ha : 2 ≤ a) : ∃ v, spec_l01Size.f l a = some v ∧ 2 ≤ v ∧ v ≤ a := by
  have e : wrap64 (2 + wrap64 ((l.length : Int) / 20)) = 2 + (l.length : Int) / 20 := by rw [w64 (x := (l.length : Int) / 20) (by omega) (by omega), w64 (by omega) (by omega)]
  unfold spec_l01Size.f
  rw [e]
  split
  · exact ⟨a, rfl, ha, Int.le_refl a⟩
  · exact ⟨_, rfl, by omega, by omega⟩
theorem pickint_ev (l : List Int) (hl : l.length ≤ 4611686018427387904) (i h : Int) (k : Okst l i h) (xs : List Int) (hx : 0 < xs.length) (hx2 : xs.length ≤ 1000) : ∃ v i' h', spec_l01PickInt.f l i h xs = some (v, i', h') ∧ Okst l i' h' ∧ v ∈ xs := by
  obtain ⟨v, m, e, _, hv, _⟩ := below_ev l hl i h k xs.length (by omega)
  have hv2 := hv (by omega)
  refine ⟨rd xs v, dn l m i, it LC m h, ?_, k.dn m, ?_⟩
  · unfold spec_l01PickInt.f
    rw [e, Option.bind_some, if_pos hv2.1, if_pos hv2.2]
  · have hn : v.toNat < xs.length := by omega
    have : rd xs v = xs[v.toNat] := by simp [rd, hn]
    rw [this]
    exact List.getElem_mem hn
theorem junk_ev (l : List Int) (hl : l.length ≤ 4611686018427387904) (i h : Int) (k : Okst l i h) (b : List Int) (hb : b.length ≤ 1000000) : ∃ c i' h', spec_l01Junk.f l i h b = some (c, i', h') ∧ Okst l i' h' ∧ c.length ≤ b.length + 1 := by
  obtain ⟨v, m, e, _⟩ := below_ev l hl i h k 8 (by decide)
  have k1 := k.dn m
  unfold spec_l01Junk.f
  rw [e, Option.bind_some]
  by_cases v0 : v = 0
  · rw [if_pos v0]
    by_cases hp : (b.length : Int) > 0
    · rw [if_pos hp, w64 (by omega) (by omega), if_pos (by omega), if_pos (by omega)]
      exact ⟨_, _, _, rfl, k1, by simp; omega⟩
    · rw [if_neg hp]
      exact ⟨_, _, _, rfl, k1, by omega⟩
  rw [if_neg v0]
  by_cases v1 : v = 1
  · rw [if_pos v1]
    obtain ⟨x, e2, _⟩ := byte_ev l hl _ (it LC m h) k1.1
    rw [e2, Option.bind_some, if_pos (by omega)]
    exact ⟨_, _, _, rfl, k1.dn 1, by simp⟩
  rw [if_neg v1]
  by_cases v2 : v = 2
  · rw [if_pos v2]
    by_cases hp : (b.length : Int) > 0
    · rw [if_pos hp]
      obtain ⟨x, m2, e2, _, hx, _⟩ := below_ev l hl _ _ k1 b.length (by omega)
      have hx2 := hx hp
      have k2 := k1.dn m2
      obtain ⟨y, e3, _⟩ := byte_ev l hl _ (it LC m2 (it LC m h)) k2.1
      rw [e2, Option.bind_some, e3, Option.bind_some, if_pos hx2.1, if_pos hx2.2]
      exact ⟨_, _, _, rfl, k2.dn 1, by simp⟩
    · rw [if_neg hp]
      exact ⟨_, _, _, rfl, k1, by omega⟩
  rw [if_neg v2]
  by_cases v3 : v = 3
  · rw [if_pos v3, Option.bind_some, if_pos (by simp; omega)]
    exact ⟨_, _, _, rfl, k1, by simp⟩
  · rw [if_neg v3]
    exact ⟨_, _, _, rfl, k1, by omega⟩
theorem word_ev (l : List Int) (hl : l.length ≤ 4611686018427387904) (i h : Int) (k : Okst l i h) : ∃ v i' h', spec_l01Word.f l i h = some (v, i', h') ∧ Okst l i' h' := by
  obtain ⟨v, m, e, _⟩ := below_ev l hl i h k 4 (by decide)
  have k1 := k.dn m
  unfold spec_l01Word.f
  rw [e, Option.bind_some]
  by_cases v0 : v = 0
  · obtain ⟨x, i', h', e2, k2, _⟩ := pickint_ev l hl _ _ k1 [0, 1, 2, 31, 32, 255, 256, 2147483647, 2147483648, 4294967295, 4294967294] (by decide) (by decide)
    rw [if_pos v0, e2]
    exact ⟨_, _, _, rfl, k2⟩
  rw [if_neg v0]
  by_cases v1 : v = 1
  · obtain ⟨x, m2, e2, _⟩ := below_ev l hl _ _ k1 300 (by decide)
    rw [if_pos v1, e2]
    exact ⟨_, _, _, rfl, k1.dn m2⟩
  · obtain ⟨x, m2, e2, _⟩ := below_ev l hl _ _ k1 65536 (by decide)
    have k2 := k1.dn m2
    obtain ⟨y, m3, e3, _⟩ := below_ev l hl _ _ k2 65536 (by decide)
    rw [if_neg v1, e2, Option.bind_some, e3]
    exact ⟨_, _, _, rfl, k2.dn m3⟩
theorem frames_end (l : List Int) (hl : l.length ≤ 4611686018427387904) (n : Int) (hn : n ≤ 1000) (d : Nat) : ∀ (out : List S26) (j i h : Int), 0 ≤ j → n - j ≤ d → out.length ≤ 1000000 - d → d ≤ 1000 → Okst l i h →
    ∃ fs i' h', Okst l i' h' ∧ fs.length ≤ d ∧ (∀ x ∈ fs, 0 ≤ x.f0 ∧ x.f0 ≤ 7 ∧ x.f1.size ≤ 1000) ∧ Ev (fun k => spec_l17Frames.l0 k n out j l i h) (out ++ fs, i', h') := by
  induction d with
  | zero =>
    intro out j i h hj hd ho hd2 k
    refine ⟨[], i, h, k, Nat.le_refl _, fun x hx => absurd hx (by simp), ev_at (fun k => ?_)⟩
    simp only [spec_l17Frames.l0]
    rw [if_neg (by omega)]
    simp
  | succ d ih =>
    intro out j i h hj hd ho hd2 k
    by_cases hlt : j < n
    · obtain ⟨v, m1, e1, _, hv, _⟩ := below_ev l hl i h k 20 (by decide)
      have hv1 := hv (by decide)
      have k1 := k.dn m1
      obtain ⟨b, i2, h2, e2, k2⟩ := once_ev l hl _ _ k1 30 (by decide)
      obtain ⟨tg, m3, e3, _, ht, _⟩ := below_ev l hl i2 h2 k2 8 (by decide)
      have ht1 := ht (by decide)
      have k3 := k2.dn m3
      have ej : wrap64 (j + 1) = j + 1 := w64 (by omega) (by omega)
      have key : ∀ q : Int, 0 ≤ q → q ≤ 1000 → ∃ fs i' h', Okst l i' h' ∧ fs.length ≤ d + 1 ∧ (∀ x ∈ fs, 0 ≤ x.f0 ∧ x.f0 ≤ 7 ∧ x.f1.size ≤ 1000) ∧ Ev (fun k => (spec_l01Text.f k l (dn l m3 i2) (it LC m3 h2) q).bind fun t => if out.length < 5864062014805 then spec_l17Frames.l0 k n (out ++ [(⟨tg, t.1⟩ : S26)]) (j + 1) l t.2.1 t.2.2 else none) (out ++ fs, i', h') := by
        intro q hq0 hq1
        obtain ⟨s, i4, h4, hs, k4, he⟩ := text_ev l hl q hq0 (by omega) _ _ k3
        obtain ⟨fs, i', h', k', hf, hx, hgo⟩ := ih (out ++ [(⟨tg, s⟩ : S26)]) (j + 1) i4 h4 (by omega) (by omega) (by simp; omega) (by omega) k4
        refine ⟨⟨tg, s⟩ :: fs, i', h', k', by simp; omega, ?_, ?_⟩
        · intro x hx2
          rcases List.mem_cons.1 hx2 with rfl | hx2
          · exact ⟨ht1.1, by show tg ≤ 7; omega, by show s.size ≤ 1000; omega⟩
          · exact hx x hx2
        · refine Ev.bind he (Ev.congr (fun k => by rw [if_pos (by omega)]) ?_)
          simpa using hgo
      cases b with
      | true =>
        obtain ⟨fs, i', h', k', hf, hx, hgo⟩ := key 1000 (by decide) (by decide)
        refine ⟨fs, i', h', k', hf, hx, Ev.step (fun k => ?_) hgo⟩
        simp only [spec_l17Frames.l0]
        rw [if_pos hlt, e1, Option.bind_some, e2, Option.bind_some, if_pos rfl, e3, Option.bind_some, ej]
      | false =>
        obtain ⟨fs, i', h', k', hf, hx, hgo⟩ := key v hv1.1 (by omega)
        refine ⟨fs, i', h', k', hf, hx, Ev.step (fun k => ?_) hgo⟩
        simp only [spec_l17Frames.l0]
        rw [if_pos hlt, e1, Option.bind_some, e2, Option.bind_some, if_neg Bool.false_ne_true, e3, Option.bind_some, ej]
    · refine ⟨[], i, h, k, Nat.zero_le _, fun x hx => absurd hx (by simp), ev_at (fun k => ?_)⟩
      simp only [spec_l17Frames.l0]
      rw [if_neg hlt]
      simp
theorem frames_ev (l : List Int) (hl : l.length ≤ 4611686018427387904) (n : Int) (hn : n ≤ 1000) (i h : Int) (k : Okst l i h) : ∃ fs i' h', Okst l i' h' ∧ (fs.length : Int) ≤ max n 0 ∧ (∀ x ∈ fs, 0 ≤ x.f0 ∧ x.f0 ≤ 7 ∧ x.f1.size ≤ 1000) ∧ Ev (fun k => spec_l17Frames.f k l i h n) (fs, i', h') := by
  obtain ⟨fs, i', h', k', hf, hx, hgo⟩ := frames_end l hl n hn n.toNat [] 0 i h (by decide) (by omega) (Nat.zero_le _) (by omega) k
  exact ⟨fs, i', h', k', by omega, hx, hgo⟩
theorem putframe_len (a : Int) (s : ByteArray) (h0 : 0 ≤ a) (h1 : a ≤ 7) (h2 : s.size ≤ 1000) : spec_FrameOk.f a s = some true ∧ ∃ p, spec_PutFrame.f a s = some p ∧ p.length ≤ 1004 := by
  have e : spec_FrameOk.f a s = some true := by
    unfold spec_FrameOk.f spec_l01In.f
    rw [if_pos (by omega), Option.bind_some, if_pos (decide_eq_true h1), decide_eq_true (by omega)]
  refine ⟨e, ?_⟩
  unfold spec_PutFrame.f spec_PutWord.f
  rw [e, Option.bind_some, if_pos rfl, Option.bind_some, if_pos (by omega), Option.bind_some, if_pos (by rw [bytesOf_length]; simp; omega)]
  exact ⟨_, rfl, by rw [List.length_append, bytesOf_length]; simp; omega⟩
theorem putframes_end (suf : List S26) : ∀ (pre : List S26) (acc : List Int) (i : Int), i = pre.length → pre.length + suf.length ≤ 1000000 → (∀ x ∈ suf, 0 ≤ x.f0 ∧ x.f0 ≤ 7 ∧ x.f1.size ≤ 1000) → acc.length + 1004 * suf.length ≤ 100000 →
    ∃ b, b.length ≤ acc.length + 1004 * suf.length ∧ Ev (fun k => spec_PutFrames.l0 k (pre ++ suf) acc i) b := by
  induction suf with
  | nil =>
    intro pre acc i hi hl hx hs
    refine ⟨acc, by simp, ev_at (fun k => ?_)⟩
    simp only [spec_PutFrames.l0]
    rw [if_neg (by simp; omega)]
  | cons x t ih =>
    intro pre acc i hi hl hx hs
    simp only [List.length_cons] at hl hs
    obtain ⟨h0, h1, h2⟩ := hx x (by simp)
    obtain ⟨e1, p, e2, hp⟩ := putframe_len x.f0 x.f1 h0 h1 h2
    obtain ⟨b, hb, he⟩ := ih (pre ++ [x]) (acc ++ p) (i + 1) (by simp; omega) (by simp; omega) (fun y hy => hx y (by simp [hy])) (by simp; omega)
    refine ⟨b, by simp at hb; simp; omega, Ev.step (f := fun k => spec_PutFrames.l0 k (pre ++ x :: t) (acc ++ p) (i + 1)) (fun k => ?_) (by simpa using he)⟩
    simp only [spec_PutFrames.l0]
    have c1 : i < ((pre ++ x :: t).length : Int) := by simp; omega
    have c2 : 0 ≤ i := by omega
    rw [if_pos c1, if_pos c2, rd_mid26 pre x t hi, e1, Option.bind_some, if_pos rfl, e2, Option.bind_some, if_pos (by omega), Option.bind_some, if_neg (by simp; omega), w64 (by omega) (by omega)]
theorem bytes17_ev (l : List Int) (hl : l.length ≤ 4611686018427387904) (i h : Int) (k : Okst l i h) : ∃ b i' h', Okst l i' h' ∧ b.length ≤ 20000 ∧ Ev (fun k => spec_l17Bytes.f k l i h l) (b, i', h') := by
  obtain ⟨t, e1, ht0, ht1⟩ := size_ev l hl 12 (by decide)
  obtain ⟨v, m, e2, _, hv, _⟩ := below_ev l hl i h k t (by omega)
  have hv1 := hv (by omega)
  have k1 := k.dn m
  obtain ⟨fs, i3, h3, k3, hf, hx, he⟩ := frames_ev l hl v (by omega) _ _ k1
  obtain ⟨b, hb, hp⟩ := putframes_end fs [] [] 0 rfl (by simp; omega) hx (by simp; omega)
  simp only [List.nil_append, List.length_nil, Nat.zero_add] at hb hp
  have hbl : b.length ≤ 13000 := by omega
  obtain ⟨c, m4, e4, _⟩ := below_ev l hl i3 h3 k3 6 (by decide)
  have k4 := k3.dn m4
  have pw : ∀ x, ∃ q, spec_PutWord.f x = some q ∧ q.length = 4 := fun x => ⟨_, rfl, rfl⟩
  have hpre : ∀ (F : List Int × Int × Int), (∃ G : Nat → Option (List Int × Int × Int), Ev G F ∧ ∀ k, (spec_l01Below.f l i3 h3 6).bind (fun bt325 => (if bt325.1 = 0 then ((spec_l01Junk.f l bt325.2.1 bt325.2.2 b).bind fun bt328 => (some (bt328.1, bt328.2.1, bt328.2.2))) else (if bt325.1 = 1 then ((spec_l01Word.f l bt325.2.1 bt325.2.2).bind fun bt333 => ((spec_PutWord.f bt333.1).bind fun t336 => (if b.length + t336.length < 140737488355328 then (some ((b ++ t336), bt333.2.1, bt333.2.2)) else (none)))) else (if bt325.1 = 2 then ((spec_l01PickInt.f l bt325.2.1 bt325.2.2 (([8007, 8008, 80] : List Int))).bind fun bt345 => ((spec_PutWord.f ((bt345.1) % 4294967296)).bind fun t348 => (if b.length + t348.length < 140737488355328 then (some ((b ++ t348), bt345.2.1, bt345.2.2)) else (none)))) else (some (b, bt325.2.1, bt325.2.2)))))) = G k) → Ev (fun k => spec_l17Bytes.f k l i h l) F := by
    rintro F ⟨G, hG, hE⟩
    unfold spec_l17Bytes.f
    rw [e1]
    simp only [Option.bind_some]
    rw [e2]
    simp only [Option.bind_some]
    exact Ev.bind he (Ev.bind hp (Ev.congr hE hG))
  by_cases c0 : c = 0
  · obtain ⟨j, i5, h5, e5, k5, hj⟩ := junk_ev l hl _ _ k4 b (by omega)
    exact ⟨j, i5, h5, k5, by omega, hpre _ ⟨fun _ => some (j, i5, h5), ev_ret (fun _ => rfl), fun k => by rw [e4, Option.bind_some, if_pos c0, e5]; rfl⟩⟩
  by_cases c1 : c = 1
  · obtain ⟨w, i5, h5, e5, k5⟩ := word_ev l hl _ _ k4
    obtain ⟨q, e6, hq⟩ := pw w
    exact ⟨b ++ q, i5, h5, k5, by simp; omega, hpre _ ⟨fun _ => some (b ++ q, i5, h5), ev_ret (fun _ => rfl), fun k => by rw [e4, Option.bind_some, if_neg c0, if_pos c1, e5, Option.bind_some, e6, Option.bind_some, if_pos (by omega)]⟩⟩
  by_cases c2 : c = 2
  · obtain ⟨w, i5, h5, e5, k5, _⟩ := pickint_ev l hl _ _ k4 [8007, 8008, 80] (by decide) (by decide)
    obtain ⟨q, e6, hq⟩ := pw (w % 4294967296)
    exact ⟨b ++ q, i5, h5, k5, by simp; omega, hpre _ ⟨fun _ => some (b ++ q, i5, h5), ev_ret (fun _ => rfl), fun k => by rw [e4, Option.bind_some, if_neg c0, if_neg c1, if_pos c2, e5, Option.bind_some, e6, Option.bind_some, if_pos (by omega)]⟩⟩
  · exact ⟨b, _, _, k4, by omega, hpre _ ⟨fun _ => some (b, _, _), ev_ret (fun _ => rfl), fun k => by rw [e4, Option.bind_some, if_neg c0, if_neg c1, if_neg c2]⟩⟩
theorem cuts_end (l : List Int) (hl : l.length ≤ 4611686018427387904) (n : Int) (hn0 : 0 ≤ n) (hn : n ≤ 1000000) (x6 : Int) (h6 : x6 ≤ 1000) (d : Nat) : ∀ (out : List Int) (j i h : Int), j = out.length → x6 - j ≤ d → d ≤ 1000 → out.length ≤ 1000 → Okst l i h →
    ∃ cs i' h', Okst l i' h' ∧ cs.length ≤ out.length + d ∧ Ev (fun k => spec_l17Cuts.l0 k n out x6 j l i h) (cs, i', h') := by
  induction d with
  | zero =>
    intro out j i h hj hd hd2 ho k
    refine ⟨out, i, h, k, by omega, ev_at (fun k => ?_)⟩
    simp only [spec_l17Cuts.l0]
    rw [if_neg (by omega)]
  | succ d ih =>
    intro out j i h hj hd hd2 ho k
    by_cases hlt : j < x6
    · obtain ⟨v, m1, e1, _⟩ := below_ev l hl i h k (wrap64 (n + 2)) (by rw [w64 (by omega) (by omega)]; omega)
      have k1 := k.dn m1
      obtain ⟨b, i2, h2, e2, k2⟩ := once_ev l hl _ _ k1 2 (by decide)
      have ej : wrap64 (j + 1) = j + 1 := w64 (by omega) (by omega)
      cases b with
      | true =>
        obtain ⟨y, m3, e3, _⟩ := below_ev l hl i2 h2 k2 7 (by decide)
        have k3 := k2.dn m3
        obtain ⟨cs, i', h', k', hc, hgo⟩ := ih ((out ++ [wrap64 (v - 1)]).set j.toNat y) (j + 1) _ _ (by simp; omega) (by omega) (by omega) (by simp; omega) k3
        refine ⟨cs, i', h', k', by simp at hc; omega, Ev.step (fun k => ?_) hgo⟩
        simp only [spec_l17Cuts.l0]
        rw [if_pos hlt, e1, Option.bind_some, if_pos (by omega), Option.bind_some, e2, Option.bind_some, if_pos rfl, e3, Option.bind_some, if_pos (by omega), if_pos (by simp; omega), ej]
      | false =>
        obtain ⟨cs, i', h', k', hc, hgo⟩ := ih (out ++ [wrap64 (v - 1)]) (j + 1) _ _ (by simp; omega) (by omega) (by omega) (by simp; omega) k2
        refine ⟨cs, i', h', k', by simp at hc; omega, Ev.step (fun k => ?_) hgo⟩
        simp only [spec_l17Cuts.l0]
        rw [if_pos hlt, e1, Option.bind_some, if_pos (by omega), Option.bind_some, e2, Option.bind_some, if_neg Bool.false_ne_true, ej]
    · refine ⟨out, i, h, k, by omega, ev_at (fun k => ?_)⟩
      simp only [spec_l17Cuts.l0]
      rw [if_neg hlt]
theorem cuts_ev (l : List Int) (hl : l.length ≤ 4611686018427387904) (n : Int) (hn0 : 0 ≤ n) (hn : n ≤ 1000000) (i h : Int) (k : Okst l i h) : ∃ cs i' h', Okst l i' h' ∧ cs.length ≤ 20 ∧ Ev (fun k => spec_l17Cuts.f k l i h n) (cs, i', h') := by
  obtain ⟨v, m1, e1, _, hv, _⟩ := below_ev l hl i h k 12 (by decide)
  have hv1 := hv (by decide)
  obtain ⟨cs, i', h', k', hc, hgo⟩ := cuts_end l hl n hn0 hn v (by omega) 12 [] 0 _ _ rfl (by omega) (by decide) (by simp) (k.dn m1)
  refine ⟨cs, i', h', k', by simp at hc; omega, Ev.congr (fun k => ?_) hgo⟩
  simp only [spec_l17Cuts.f]
  rw [e1, Option.bind_some]
theorem bytesOf_sub (s : ByteArray) (a b : Nat) : bytesOf (s.extract a b) = ((bytesOf s).drop a).take (b - a) := by
  simp only [bytesOf, ByteArray.data_extract, Array.toList_extract, List.extract_eq_take_drop, List.map_take, List.map_drop]
theorem bytesOf_drop (s : ByteArray) (n : Nat) : (bytesOf s).drop n = bytesOf (s.extract n s.size) := by
  rw [bytesOf_sub, List.take_of_length_le (by rw [List.length_drop, bytesOf_length]; exact Nat.le_refl _)]
theorem bytesOf_take (s : ByteArray) (n : Nat) : (bytesOf s).take n = bytesOf (s.extract 0 n) := by
  rw [bytesOf_sub, List.drop_zero, Nat.sub_zero]
theorem rp_fuel (n : Nat) : ∀ (m : Nat) (s : ByteArray) (acc : List S26), s.size ≤ n → s.size ≤ m → rp n s acc = rp m s acc := by
  induction n with
  | zero =>
    intro m s acc hn hm
    cases m with
    | zero => rfl
    | succ m => simp only [rp]; rw [if_pos (by omega)]
  | succ n ih =>
    intro m s acc hn hm
    cases m with
    | zero => simp only [rp]; rw [if_pos (by omega)]
    | succ m =>
      simp only [rp]
      have hw0 := WD_nn s
      by_cases h4 : s.size < 4
      · rw [if_pos h4, if_pos h4]
      rw [if_neg h4, if_neg h4]
      split
      · rfl
      split
      · rfl
      · exact ih m _ _ (by simp; omega) (by simp; omega)
theorem ext_app (s t : ByteArray) (a b : Nat) (h : b ≤ s.size) : (s ++ t).extract a b = s.extract a b := by
  apply bytesOf_inj
  rw [bytesOf_sub, bytesOf_sub, bytesOf_append]
  by_cases hab : a ≤ b
  · rw [List.drop_append_of_le_length (by rw [bytesOf_length]; omega), List.take_append_of_le_length (by rw [List.length_drop, bytesOf_length]; omega)]
  · rw [show b - a = 0 by omega, List.take_zero, List.take_zero]
theorem ext_rest (s t : ByteArray) (a : Nat) (h : a ≤ s.size) : (s ++ t).extract a (s ++ t).size = s.extract a s.size ++ t := by
  apply bytesOf_inj
  rw [bytesOf_append, ← bytesOf_drop, ← bytesOf_drop, bytesOf_append, List.drop_append_of_le_length (by rw [bytesOf_length]; exact h)]
theorem bt_app (s t : ByteArray) (i : Nat) (h : i < s.size) : bt (s ++ t) i = bt s i := by
  rw [← bt_extract (s ++ t) s.size (by rw [ByteArray.size_append]; omega) i h, ext_app s t 0 s.size (Nat.le_refl _), bt_extract s s.size (Nat.le_refl _) i h]
theorem WD_app (s t : ByteArray) (h : 4 ≤ s.size) : WD (s ++ t) = WD s := by
  unfold WD
  rw [show (0 : Int) = ((0 : Nat) : Int) from rfl, show (1 : Int) = ((1 : Nat) : Int) from rfl, show (2 : Int) = ((2 : Nat) : Int) from rfl, show (3 : Int) = ((3 : Nat) : Int) from rfl, bt_app s t 0 (by omega), bt_app s t 1 (by omega), bt_app s t 2 (by omega), bt_app s t 3 (by omega)]
theorem rp_app (n : Nat) : ∀ (s : ByteArray) (acc : List S26) (t : ByteArray) (N : Nat), s.size ≤ n → (s ++ t).size ≤ N →
    ((rp n s acc).2.2 = true → rp N (s ++ t) acc = (⟨#[]⟩, (rp n s acc).2.1, true) ∧ (rp n s acc).1 = ⟨#[]⟩) ∧
    ((rp n s acc).2.2 = false → (rp n s acc).1.size ≤ 1004 ∧ (rp n s acc).1.size ≤ s.size ∧ rp N (s ++ t) acc = rp N ((rp n s acc).1 ++ t) (rp n s acc).2.1) := by
  induction n with
  | zero =>
    intro s acc t N hs hN
    refine ⟨fun h => by simp [rp] at h, fun _ => ⟨by simp only [rp]; omega, Nat.le_refl _, rfl⟩⟩
  | succ n ih =>
    intro s acc t N hs hN
    have hw0 := WD_nn s
    have hsz : (s ++ t).size = s.size + t.size := ByteArray.size_append
    by_cases h4 : s.size < 4
    · rw [show rp (n + 1) s acc = (s, acc, false) by simp only [rp]; rw [if_pos h4]]
      exact ⟨fun h => by simp at h, fun _ => ⟨by show s.size ≤ 1004; omega, Nat.le_refl _, rfl⟩⟩
    obtain ⟨M, rfl⟩ : ∃ M, N = M + 1 := ⟨N - 1, by omega⟩
    by_cases hbad : WD s > 8007
    · rw [show rp (n + 1) s acc = (⟨#[]⟩, acc, true) by simp only [rp]; rw [if_neg h4, if_pos hbad]]
      refine ⟨fun _ => ⟨?_, rfl⟩, fun h => by simp at h⟩
      simp only [rp]
      rw [if_neg (by omega), WD_app s t (by omega), if_pos hbad]
    by_cases hsh : (s.size : Int) < 4 + WD s / 8
    · rw [show rp (n + 1) s acc = (s, acc, false) by simp only [rp]; rw [if_neg h4, if_neg hbad, if_pos hsh]]
      exact ⟨fun h => by simp at h, fun _ => ⟨by show s.size ≤ 1004; omega, Nat.le_refl _, rfl⟩⟩
    · rw [show rp (n + 1) s acc = rp n (s.extract (4 + WD s / 8).toNat s.size) (acc ++ [⟨WD s % 8, s.extract 4 (4 + WD s / 8).toNat⟩]) by simp only [rp]; rw [if_neg h4, if_neg hbad, if_neg hsh]]
      have hst : rp (M + 1) (s ++ t) acc = rp M (s.extract (4 + WD s / 8).toNat s.size ++ t) (acc ++ [⟨WD s % 8, s.extract 4 (4 + WD s / 8).toNat⟩]) := by
        simp only [rp]
        rw [WD_app s t (by omega), if_neg (by omega), if_neg hbad, if_neg (by omega), ext_rest s t _ (by omega), ext_app s t _ _ (by omega)]
      have hx : (s.extract (4 + WD s / 8).toNat s.size).size = s.size - (4 + WD s / 8).toNat := by simp
      obtain ⟨i1, i2⟩ := ih (s.extract (4 + WD s / 8).toNat s.size) (acc ++ [⟨WD s % 8, s.extract 4 (4 + WD s / 8).toNat⟩]) t M (by omega) (by rw [ByteArray.size_append]; omega)
      refine ⟨fun h => by rw [hst]; exact i1 h, fun h => ?_⟩
      obtain ⟨j1, j2, j3⟩ := i2 h
      refine ⟨j1, by omega, ?_⟩
      rw [hst, j3]
      exact rp_fuel M (M + 1) _ _ (by rw [ByteArray.size_append]; omega) (by rw [ByteArray.size_append]; omega)
/-- What a reader holds when a text has come. -/
def RP (p : ByteArray) : ByteArray × List S26 × Bool := rp p.size p []
theorem RP_push (p q : ByteArray) (hq : q.size ≤ 100000) : rpv (RP p).1 (RP p).2.1 (RP p).2.2 (bytesOf q) = RP (p ++ q) := by
  obtain ⟨h1, h2⟩ := rp_app p.size p [] q (p ++ q).size (Nat.le_refl _) (Nat.le_refl _)
  unfold RP rpv
  cases hb : (rp p.size p []).2.2 with
  | true =>
    rw [if_pos (.inl rfl), (h1 hb).1]
  | false =>
    obtain ⟨h3, h4, h5⟩ := h2 hb
    rw [if_neg (by rw [bytesOf_length]; rintro (h | h | h) <;> simp at h <;> omega), h5, strOf_bytesOf, bytesOf_length]
    exact rp_fuel _ _ _ _ (by rw [ByteArray.size_append]; omega) (by rw [ByteArray.size_append, ByteArray.size_append]; omega)
theorem RP_len (p : ByteArray) : (RP p).2.1.length ≤ p.size := by
  have := rp_len p.size p ([] : List S26)
  simpa [RP] using this
theorem same_ev (xs : List S26) (hx : xs.length ≤ 4611686018427387904) (d : Nat) : ∀ i : Int, 0 ≤ i → (xs.length : Int) - i = d → Ev (fun k => laws_sameFrames.l0 k xs xs i) true := by
  induction d with
  | zero =>
    intro i h0 hd
    exact ev_at (fun k => by simp only [laws_sameFrames.l0]; rw [if_neg (by omega)])
  | succ d ih =>
    intro i h0 hd
    refine Ev.step (fun k => ?_) (ih (i + 1) (by omega) (by omega))
    simp only [laws_sameFrames.l0]
    rw [if_pos (by omega), if_pos h0, if_pos (by omega), if_neg (by simp), w64 (by omega) (by omega)]
theorem same_evS (xs : List S26) (hx : xs.length ≤ 4611686018427387904) : Ev (fun k => laws_sameFrames.f k xs xs) true :=
  Ev.congr (fun k => by simp only [laws_sameFrames.f]; rw [if_pos trivial]) (same_ev xs hx xs.length 0 (by omega) (by omega))
/-- All pieces, one behind the other. -/
def cat : ByteArray → List ByteArray → ByteArray
  | x, [] => x
  | x, y :: t => cat (x ++ y) t
theorem cat_size (ps : List ByteArray) : ∀ x, x.size ≤ (cat x ps).size ∧ ∀ y ∈ ps, y.size ≤ (cat x ps).size := by
  induction ps with
  | nil => intro x; exact ⟨Nat.le_refl _, fun y h => absurd h (by simp)⟩
  | cons z t ih =>
    intro x
    obtain ⟨h1, h2⟩ := ih (x ++ z)
    rw [ByteArray.size_append] at h1
    refine ⟨by simp only [cat]; omega, fun y hy => ?_⟩
    rcases List.mem_cons.1 hy with rfl | hy
    · simp only [cat]; omega
    · exact h2 y hy
theorem spl_cat (cs : List Int) : ∀ (x s : ByteArray), cat x (spl cs s) = x ++ s := by
  induction cs with
  | nil =>
    intro x s
    simp only [spl]
    by_cases h : s.toList = ([] : List UInt8)
    · rw [if_pos h]
      have hz := (emp_iff s).1 h
      apply bytesOf_inj
      rw [bytesOf_append, show bytesOf s = [] from List.eq_nil_of_length_eq_zero (by rw [bytesOf_length]; exact hz), List.append_nil]
      rfl
    · rw [if_neg h]
      rfl
  | cons c t ih =>
    intro x s
    simp only [spl, cat]
    rw [ih]
    have hle : (if c < 0 then 0 else if c > (s.size : Int) then s.size else c.toNat) ≤ s.size := by split <;> (try split) <;> omega
    generalize (if c < 0 then 0 else if c > (s.size : Int) then s.size else c.toNat) = n at hle
    apply bytesOf_inj
    rw [bytesOf_append, bytesOf_append, bytesOf_append, List.append_assoc, ← bytesOf_take, ← bytesOf_drop, List.take_append_drop]
theorem rdS_at (ps pre : List ByteArray) (y : ByteArray) (t : List ByteArray) (h : ps = pre ++ y :: t) (i : Int) (hi : i = pre.length) : rdOf ByteArray.empty ps i = y := by
  subst h
  subst hi
  simp [rdOf]
theorem law_loop (b : List Int) (hb : b.length ≤ 20000) (ps suf : List ByteArray) : ∀ (pre : List ByteArray) (x : ByteArray) (i : Int), ps = pre ++ suf → i = pre.length → ps.length ≤ 2000 → cat x suf = strOfNums b →
    Ev (fun k => laws_FnPieces.l0 k b ps x i (RP x).1 (RP x).2.1 (RP x).2.2) true := by
  induction suf with
  | nil =>
    intro pre x i hp hi hl hc
    have hx : x = strOfNums b := hc
    have hsz : (strOfNums b).size = b.length := strOfNums_size b
    have hone : rpv ⟨#[]⟩ [] false b = RP (strOfNums b) := by
      have h := RP_push ⟨#[]⟩ (strOfNums b) (by omega)
      have h2 : rpv ⟨#[]⟩ [] false b = rpv ⟨#[]⟩ ([] : List S26) false (bytesOf (strOfNums b)) := by
        unfold rpv
        rw [strOf_bytesOf, bytesOf_length, hsz]
      rw [h2]
      refine h.trans (congrArg RP ?_)
      apply bytesOf_inj
      rw [bytesOf_append]
      rfl
    have hi2 := impl_push ⟨#[]⟩ ([] : List S26) false b (by simp)
    have hs2 := spec_push ⟨#[]⟩ ([] : List S26) false b (by simp)
    rw [hone] at hi2 hs2
    have hlen := RP_len (strOfNums b)
    have hsame := same_evS (RP (strOfNums b)).2.1 (by omega)
    refine Ev.step (fun k => by simp only [laws_FnPieces.l0]; rw [if_neg (by rw [hp, hi]; simp)]) (Ev.bind hi2 (Ev.bind hs2 ?_))
    refine Ev.congr (fun k => ?_) (Ev.bind hsame (ev_ret (fun k => rfl)))
    rw [hx, if_pos rfl, if_pos rfl, if_neg (by simp), if_pos (by simp), if_pos rfl]
  | cons y t ih =>
    intro pre x i hp hi hl hc
    have hpl : ps.length = pre.length + (t.length + 1) := by rw [hp]; simp
    have hsz : (strOfNums b).size = b.length := strOfNums_size b
    have hcs := cat_size (y :: t) x
    rw [hc, hsz] at hcs
    have hy := hcs.2 y (by simp)
    have hx := hcs.1
    have hr := rdS_at ps pre y t hp i hi
    have hpush := impl_push (RP x).1 (RP x).2.1 (RP x).2.2 (bytesOf y) (by have := RP_len x; omega)
    rw [RP_push x y (by omega)] at hpush
    have hn := ih (pre ++ [y]) (x ++ y) (i + 1) (by rw [hp]; simp) (by simp; omega) hl hc
    refine Ev.step (f := fun k => (impl_ReaderPush.f k (RP x).1 (RP x).2.1 (RP x).2.2 (bytesOf y)).bind fun v => laws_FnPieces.l0 k b ps (x ++ y) (i + 1) v.1 v.2.1 v.2.2) (fun k => ?_) (Ev.bind hpush hn)
    simp only [laws_FnPieces.l0]
    rw [if_pos (by omega), if_pos (by omega), hr, if_pos (by omega), if_pos (by omega), w64 (by omega) (by omega)]
theorem FnPieces : laws_FnPieces.Pure := by
  intro l h1 h2 _
  have hbigE : laws_big.f l = some (decide ((l.length : Int) > 1048576)) := rfl
  by_cases hbig : (l.length : Int) > 1048576
  · exact ⟨0, by simp only [laws_FnPieces.f]; rw [hbigE, Option.bind_some, if_pos (decide_eq_true hbig)]⟩
  have hl : l.length ≤ 4611686018427387904 := by omega
  obtain ⟨h', k0, e0⟩ := new_ev l
  obtain ⟨b, i2, h2', k2, hb, e2⟩ := bytes17_ev l hl 0 h' k0
  obtain ⟨cs, i3, h3, k3, hc, e3⟩ := cuts_ev l hl b.length (by omega) (by omega) i2 h2' k2
  have hd : Ev (fun k => spec_DrawSplit.f k l) (b, cs) := Ev.bind e0 (Ev.bind e2 (Ev.bind e3 (ev_ret (fun k => rfl))))
  have hs := impl_splv b cs
  have hsv : splv b cs = spl cs (strOfNums b) := by unfold splv; rw [if_neg (by omega)]
  rw [hsv] at hs
  have hsl := spl_len cs (strOfNums b)
  have hcat := spl_cat cs ⟨#[]⟩ (strOfNums b)
  have hgo := law_loop b hb (spl cs (strOfNums b)) (spl cs (strOfNums b)) [] ⟨#[]⟩ 0 rfl rfl (by omega) (hcat.trans (by
    apply bytesOf_inj
    rw [bytesOf_append]
    rfl))
  refine Ev.rounds ?_
  simp only [laws_FnPieces.f]
  refine Ev.congr (fun k => by rw [hbigE, Option.bind_some, if_neg (by simpa using hbig)]) (Ev.bind hd (Ev.bind hs ?_))
  exact hgo
end Go.Proofs.Ytbiaakkmmkddfaa.Pure
