/- The program's FramesOf answers as the reference's, at all bytes; it writes into no argument, and its answer is its own, behind a second call too. No condition beside the form's own reach. -/
import Derived.Test.YtbiaakkmmkddfaaPFnExactFramesOfx5
namespace Go.Proofs.Ytbiaakkmmkddfaa.Pure
open Go.RowKit Go.Proofs.Ytbiaakkmmkddfaa.PFnExactFramesOf Go.Proofs.YtbiaakkmmkddfaaW.PrintWords Go.Proofs.YtbiaakkmmkddfaaW.PrintLast Go.Proofs.YtbiaakkmmkddfaaW.PrintMore
theorem w64 {x : Int} (h0 : -9223372036854775808 ≤ x) (h1 : x ≤ 9223372036854775807) : wrap64 x = x := by unfold wrap64; omega
theorem emp_iff (s : ByteArray) : s.toList = ([] : List UInt8) ↔ s.size = 0 := by
  rw [ByteArray.toList_eq]
  obtain ⟨⟨d⟩⟩ := s
  cases d <;> simp [ByteArray.size]
theorem ev_at {α : Type} {g : Nat → Option α} {r : α} (h : ∀ k, g (k + 1) = some r) : Ev g r := ⟨1, fun k hk => by
  obtain ⟨j, rfl⟩ : ∃ j, k = j + 1 := ⟨k - 1, by omega⟩
  exact h j⟩
theorem ev_ret {α : Type} {g : Nat → Option α} {r : α} (h : ∀ k, g k = some r) : Ev g r := ⟨0, fun k _ => h k⟩
theorem ev_det {α : Type} {g : Nat → Option α} {r s : α} (h : Ev g r) (k : Ev g s) : r = s := by
  obtain ⟨K, h⟩ := h
  obtain ⟨L, k⟩ := k
  have h1 := h (K + L) (by omega)
  have h2 := k (K + L) (by omega)
  rw [h1] at h2
  exact Option.some.inj h2
theorem ba_ext {a b : ByteArray} (h : a.toList = b.toList) : a = b := by
  rw [ByteArray.toList_eq, ByteArray.toList_eq] at h
  exact ByteArray.ext (Array.toList_inj.1 h)
theorem bytesOf_append (a b : ByteArray) : bytesOf (a ++ b) = bytesOf a ++ bytesOf b := by simp [bytesOf, ByteArray.data_append]
theorem strOf_bytesOf (s : ByteArray) : strOfNums (bytesOf s) = s := by
  apply ByteArray.ext
  apply Array.toList_inj.1
  rw [strOfNums_data, bytesOf, List.map_map]
  exact (List.map_congr_left (fun b _ => by simp)).trans (List.map_id _)
theorem bytesOf_inj {a b : ByteArray} (h : bytesOf a = bytesOf b) : a = b := by rw [← strOf_bytesOf a, h, strOf_bytesOf]
theorem tdiv10 {n : Int} (h0 : 0 < n) (h1 : n ≤ 9223372036854775807) : wrap64 (Int.tdiv n 10) = n / 10 := by
  rw [Int.tdiv_eq_ediv_of_nonneg (by omega)]
  exact w64 (by omega) (by omega)
theorem one_size (x : Int) : (strOfNums [x]).size = 1 := by rw [strOfNums_size]; rfl
theorem mark_l0 (d : Nat) : ∀ (n : Int) (s : ByteArray), n < 10 ^ d → n ≤ 9223372036854775807 → s.size + d ≤ 1000 → ∃ r, Ev (fun k => laws_markText.l0 k n s) r := by
  induction d with
  | zero =>
    intro n s hn _ hs
    exact ⟨(⟨#[109]⟩ : ByteArray) ++ s, ev_at (fun k => by simp only [laws_markText.l0]; rw [if_neg (by simp at hn; omega), if_pos (by omega)])⟩
  | succ d ih =>
    intro n s hn hb hs
    by_cases h0 : n > 0
    · have hsz : (strOfNums [(wrap64 (48 + (Int.tmod n 10))) % 256] ++ s).size = 1 + s.size := by rw [ByteArray.size_append, one_size]
      obtain ⟨r, h⟩ := ih (n / 10) (strOfNums [(wrap64 (48 + (Int.tmod n 10))) % 256] ++ s) (by rw [Int.pow_succ] at hn; omega) (by omega) (by omega)
      refine ⟨r, Ev.step (fun k => ?_) h⟩
      simp only [laws_markText.l0]
      rw [if_pos h0]
      simp only [Option.bind_some]
      rw [if_pos (by rw [one_size]; omega), tdiv10 h0 hb]
    · exact ⟨(⟨#[109]⟩ : ByteArray) ++ s, ev_at (fun k => by simp only [laws_markText.l0]; rw [if_neg h0, if_pos (by omega)])⟩
theorem mark_total {n : Int} (hn : n ≤ 9223372036854775807) : ∃ r, Ev (fun k => laws_markText.f k n) r := by
  by_cases h : n ≤ 0
  · exact ⟨_, 0, fun k _ => by simp only [laws_markText.f]; rw [if_pos h]⟩
  · obtain ⟨r, hr⟩ := mark_l0 19 n ⟨#[]⟩ (by have : (10 : Int) ^ 19 = 10000000000000000000 := by decide
                                             omega) hn (by decide)
    exact ⟨r, Ev.congr (fun k => by simp only [laws_markText.f]; rw [if_neg h]) hr⟩
noncomputable def mt (n : Int) : ByteArray := open Classical in if h : ∃ r, Ev (fun k => laws_markText.f k n) r then h.choose else ⟨#[]⟩
theorem mt_ev {n : Int} (hn : n ≤ 9223372036854775807) : Ev (fun k => laws_markText.f k n) (mt n) := by
  have h := mark_total hn
  unfold mt
  rw [dif_pos h]
  exact h.choose_spec
theorem rd_midB (pre : List Int) (x : Int) (t : List Int) {i : Int} (hi : i = pre.length) : rd (pre ++ x :: t) i = x := by
  subst hi
  simp [rd]
theorem set_midB (pre : List Int) (x y : Int) (t : List Int) {i : Int} (hi : i = pre.length) : (pre ++ x :: t).set i.toNat y = pre ++ y :: t := by
  subst hi
  simp
theorem toB (suf : List Int) : ∀ (pre : List Int) (i : Int), i = pre.length → pre.length + suf.length ≤ 281474976710656 →
    Ev (fun k => laws_toByteS.l0 k (pre ++ suf) (pre ++ List.replicate suf.length 0) i) (pre ++ suf) := by
  induction suf with
  | nil =>
    intro pre i hi hl
    refine ev_at (fun k => ?_)
    simp only [laws_toByteS.l0]
    rw [if_neg (by simp; omega)]
    simp
  | cons x t ih =>
    intro pre i hi hl
    simp only [List.length_cons] at hl
    have h := ih (pre ++ [x]) (i + 1) (by simp; omega) (by simp; omega)
    have e3 : wrap64 (i + 1) = i + 1 := w64 (by omega) (by omega)
    have c1 : i < ((pre ++ x :: t).length : Int) := by simp; omega
    have c2 : 0 ≤ i := by omega
    have c3 : i < ((pre ++ List.replicate (x :: t).length (0 : Int)).length : Int) := by simp; omega
    refine Ev.step (f := fun k => laws_toByteS.l0 k (pre ++ x :: t) (pre ++ x :: List.replicate t.length 0) (i + 1)) (fun k => ?_) (by simpa using h)
    simp only [laws_toByteS.l0]
    rw [if_pos c1, if_pos c2, if_pos c3, rd_midB pre x t hi, e3, List.length_cons, List.replicate_succ, set_midB _ _ _ _ hi]
theorem toBS (xs : List Int) (hl : xs.length ≤ 281474976710656) : Ev (fun k => laws_toByteS.f k xs) xs := by
  have h := toB xs [] 0 rfl (by simpa using hl)
  exact Ev.congr (fun k => by simp only [laws_toByteS.f]; rw [if_pos (by omega), if_pos (by simpa using hl)]; rfl) h
theorem eqB (xs : List Int) (hx : xs.length ≤ 4611686018427387904) (d : Nat) : ∀ i : Int, 0 ≤ i → (xs.length : Int) - i = d → Ev (fun k => laws_eqByteS.l0 k xs xs i) true := by
  induction d with
  | zero =>
    intro i h0 hd
    exact ev_at (fun k => by simp only [laws_eqByteS.l0]; rw [if_neg (by omega)])
  | succ d ih =>
    intro i h0 hd
    refine Ev.step (fun k => ?_) (ih (i + 1) (by omega) (by omega))
    simp only [laws_eqByteS.l0]
    rw [if_pos (by omega), if_pos h0, if_pos (by omega)]
    simp only [if_true]
    rw [w64 (by omega) (by omega)]
theorem eqBS (xs : List Int) (hx : xs.length ≤ 4611686018427387904) : Ev (fun k => laws_eqByteS.f k xs xs) true :=
  Ev.congr (fun k => by simp only [laws_eqByteS.f]; rw [if_pos trivial]) (eqB xs hx xs.length 0 (by omega) (by omega))
def mkB : Int → List Int → List Int
  | _, [] => []
  | m, _ :: t => (m % 256) :: mkB (m + 1) t
theorem mkB_length (m : Int) (xs : List Int) : (mkB m xs).length = xs.length := by
  induction xs generalizing m with
  | nil => rfl
  | cons x t ih => simp [mkB, ih]
theorem markB (suf : List Int) : ∀ (pre : List Int) (m i : Int), i = pre.length → 0 ≤ m → m + suf.length ≤ 4611686018427387904 → pre.length + suf.length ≤ 4611686018427387904 →
    Ev (fun k => laws_markByteS.l0 k (pre ++ suf) m i) (m + suf.length, pre ++ mkB m suf) := by
  induction suf with
  | nil =>
    intro pre m i hi h0 hm hl
    refine ev_at (fun k => ?_)
    simp only [laws_markByteS.l0]
    rw [if_neg (by simp; omega)]
    simp [mkB]
  | cons x t ih =>
    intro pre m i hi h0 hm hl
    simp only [List.length_cons, Int.natCast_succ] at hm hl
    have h := ih (pre ++ [m % 256]) (m + 1) (i + 1) (by simp; omega) (by omega) (by omega) (by simp; omega)
    have e1 : wrap64 (m + 1) = m + 1 := w64 (by omega) (by omega)
    have e3 : wrap64 (i + 1) = i + 1 := w64 (by omega) (by omega)
    have hres : ((m + ((x :: t).length : Int), pre ++ mkB m (x :: t)) : Int × List Int) = (m + 1 + (t.length : Int), pre ++ [m % 256] ++ mkB (m + 1) t) := by
      simp [mkB]
      omega
    rw [hres]
    refine Ev.step (f := fun k => laws_markByteS.l0 k (pre ++ (m % 256) :: t) (m + 1) (i + 1)) (fun k => ?_) (by simpa using h)
    simp only [laws_markByteS.l0]
    rw [if_pos (by simp; omega), if_pos (by omega), set_midB pre x _ t hi, e1, e3]
theorem markBS (xs : List Int) (m : Int) (h0 : 0 ≤ m) (hm : m + xs.length ≤ 4611686018427387904) : Ev (fun k => laws_markByteS.f k xs m) (m + xs.length, mkB m xs) := by
  have h := markB xs [] m 0 rfl h0 hm (by simp; omega)
  simp only [List.nil_append] at h
  exact h
theorem rd_mid26 (pre : List S26) (x : S26) (t : List S26) {i : Int} (hi : i = pre.length) : rd_T26 (pre ++ x :: t) i = x := by
  subst hi
  simp [rd_T26]
theorem set_mid26 (pre : List S26) (x y : S26) (t : List S26) {i : Int} (hi : i = pre.length) : (pre ++ x :: t).set i.toNat y = pre ++ y :: t := by
  subst hi
  simp
theorem eq26 (xs : List S26) (hx : xs.length ≤ 4611686018427387904) (d : Nat) : ∀ i : Int, 0 ≤ i → (xs.length : Int) - i = d → Ev (fun k => laws_eqFrameS.l0 k xs xs i) true := by
  induction d with
  | zero =>
    intro i h0 hd
    exact ev_at (fun k => by simp only [laws_eqFrameS.l0]; rw [if_neg (by omega)])
  | succ d ih =>
    intro i h0 hd
    refine Ev.step (fun k => ?_) (ih (i + 1) (by omega) (by omega))
    simp only [laws_eqFrameS.l0, laws_eqFrame.f]
    rw [if_pos (by omega), if_pos h0, if_pos (by omega)]
    simp only [if_true, Option.bind_some]
    rw [w64 (by omega) (by omega)]
theorem eqS26 (xs : List S26) (hx : xs.length ≤ 4611686018427387904) : Ev (fun k => laws_eqFrameS.f k xs xs) true :=
  Ev.congr (fun k => by simp only [laws_eqFrameS.f]; rw [if_pos trivial]) (eq26 xs hx xs.length 0 (by omega) (by omega))
noncomputable def mkF : Int → List S26 → List S26
  | _, [] => []
  | m, _ :: t => ⟨m, mt (m + 1)⟩ :: mkF (m + 2) t
theorem mkF_length (m : Int) (xs : List S26) : (mkF m xs).length = xs.length := by
  induction xs generalizing m with
  | nil => rfl
  | cons x t ih => simp [mkF, ih]
theorem markF (suf : List S26) : ∀ (pre : List S26) (m i : Int), i = pre.length → 0 ≤ m → m + 2 * suf.length ≤ 4611686018427387904 → pre.length + suf.length ≤ 4611686018427387904 →
    Ev (fun k => laws_markFrameS.l0 k (pre ++ suf) m i) (m + 2 * suf.length, pre ++ mkF m suf) := by
  induction suf with
  | nil =>
    intro pre m i hi h0 hm hl
    refine ev_at (fun k => ?_)
    simp only [laws_markFrameS.l0]
    rw [if_neg (by simp; omega)]
    simp [mkF]
  | cons x t ih =>
    intro pre m i hi h0 hm hl
    simp only [List.length_cons, Int.natCast_succ] at hm hl
    have h := ih (pre ++ [⟨m, mt (m + 1)⟩]) (m + 2) (i + 1) (by simp; omega) (by omega) (by omega) (by simp; omega)
    have e1 : wrap64 (m + 1) = m + 1 := w64 (by omega) (by omega)
    have e2 : wrap64 (m + 1 + 1) = m + 2 := by rw [w64 (by omega) (by omega)]; omega
    have e3 : wrap64 (i + 1) = i + 1 := w64 (by omega) (by omega)
    have hres : ((m + 2 * ((x :: t).length : Int), pre ++ mkF m (x :: t)) : Int × List S26) = (m + 2 + 2 * (t.length : Int), pre ++ [⟨m, mt (m + 1)⟩] ++ mkF (m + 2) t) := by
      simp [mkF]
      omega
    rw [hres]
    refine Ev.step (f := fun k => (laws_markText.f k (m + 1)).bind fun q => laws_markFrameS.l0 k (pre ++ ⟨m, q⟩ :: t) (m + 2) (i + 1)) (fun k => ?_) (Ev.bind (mt_ev (by omega)) ?_)
    · simp only [laws_markFrameS.l0]
      rw [if_pos (by simp; omega), if_pos (by omega)]
      simp only [Option.bind_some]
      rw [e1, e2, e3, set_mid26 pre x _ t hi]
      congr 1
      funext q
      rw [rd_mid26 pre _ t hi, set_mid26 pre _ _ t hi, rd_mid26 pre _ t hi]
    · simpa using h
theorem heldF (suf : List S26) : ∀ (pre : List S26) (m i : Int), i = pre.length → 0 ≤ m → m + 2 * suf.length ≤ 4611686018427387904 → pre.length + suf.length ≤ 4611686018427387904 →
    Ev (fun k => laws_heldFrameS.l0 k (pre ++ mkF m suf) m i) (m + 2 * suf.length) := by
  induction suf with
  | nil =>
    intro pre m i hi h0 hm hl
    refine ev_at (fun k => ?_)
    simp only [laws_heldFrameS.l0]
    rw [if_neg (by simp [mkF]; omega)]
    simp
  | cons x t ih =>
    intro pre m i hi h0 hm hl
    simp only [List.length_cons, Int.natCast_succ] at hm hl
    have h := ih (pre ++ [⟨m, mt (m + 1)⟩]) (m + 2) (i + 1) (by simp; omega) (by omega) (by omega) (by simp; omega)
    have e1 : wrap64 (m + 1) = m + 1 := w64 (by omega) (by omega)
    have e2 : wrap64 (m + 1 + 1) = m + 2 := by rw [w64 (by omega) (by omega)]; omega
    have e3 : wrap64 (i + 1) = i + 1 := w64 (by omega) (by omega)
    have hres : m + 2 * ((x :: t).length : Int) = m + 2 + 2 * (t.length : Int) := by simp; omega
    rw [hres]
    refine Ev.step (f := fun k => (laws_markText.f k (m + 1)).bind fun q => if (mt (m + 1)).toList = q.toList then laws_heldFrameS.l0 k (pre ++ mkF m (x :: t)) (m + 2) (i + 1) else some (-1)) (fun k => ?_) (Ev.bind (mt_ev (by omega)) ?_)
    · rw [show mkF m (x :: t) = (⟨m, mt (m + 1)⟩ : S26) :: mkF (m + 2) t from rfl]
      simp only [laws_heldFrameS.l0]
      have c1 : i < ((pre ++ (⟨m, mt (m + 1)⟩ : S26) :: mkF (m + 2) t).length : Int) := by simp; omega
      have c2 : 0 ≤ i := by omega
      rw [if_pos c1, if_pos c2, rd_mid26 pre _ _ hi, e1, e2, e3]
      simp only [if_true]
    · simp only [if_pos]
      simpa [mkF] using h
theorem markFS (xs : List S26) (m : Int) (h0 : 0 ≤ m) (hm : m + 2 * xs.length ≤ 4611686018427387904) : Ev (fun k => laws_markFrameS.f k xs m) (m + 2 * xs.length, mkF m xs) := by
  have h := markF xs [] m 0 rfl h0 hm (by simp; omega)
  simp only [List.nil_append] at h
  exact h
theorem heldFS (xs : List S26) (m : Int) (h0 : 0 ≤ m) (hm : m + 2 * xs.length ≤ 4611686018427387904) : Ev (fun k => laws_heldFrameS.f k (mkF m xs) m) (m + 2 * xs.length) := by
  have h := heldF xs [] m 0 rfl h0 hm (by simp; omega)
  simp only [List.nil_append] at h
  exact h
theorem bt_nn (s : ByteArray) (i : Int) : 0 ≤ bt s i := by unfold bt; split <;> omega
theorem bt_le (s : ByteArray) (i : Int) : bt s i ≤ 255 := by
  unfold bt
  split
  · rename_i h
    have := (s[i.toNat]'h).toNat_lt
    omega
  · omega
theorem or_sum (i j : Nat) (hj : j ≤ 32) (hij : i ≤ j) (x y : Int) (hx0 : 0 ≤ x) (hx : x < 2 ^ i) (hy0 : 0 ≤ y) (hy : y % 2 ^ i = 0) (hy1 : y < 2 ^ j) : Go.bits .or .u32 x y = x + y := by
  have hx1 : x < 2 ^ j := Int.lt_of_lt_of_le hx (by exact_mod_cast Nat.pow_le_pow_right (by decide) hij)
  have wr : ∀ n : Int, 0 ≤ n → n < 2 ^ j → IntKind.u32.wrap n = n := by
    intro n h0 h1
    have : (2 : Int) ^ j ≤ 2 ^ 32 := by exact_mod_cast Nat.pow_le_pow_right (by decide) hj
    rw [IntKind.wrap_u32]
    have e : (2 : Int) ^ 32 = 4294967296 := by decide
    omega
  have h := bits_join .u32 j hj wr i y x hy0 hy hy1 hx0 hx hx1
  obtain ⟨a, rfl⟩ := Int.eq_ofNat_of_zero_le hx0
  obtain ⟨b, rfl⟩ := Int.eq_ofNat_of_zero_le hy0
  have ha : a < 2 ^ j := by exact_mod_cast hx1
  have hb : b < 2 ^ j := by exact_mod_cast hy1
  rw [(bits_nat .u32 j hj wr a b ha hb).2, Nat.or_comm, ← (bits_nat .u32 j hj wr b a hb ha).2, h]
  omega
/-- The word of a text's first four bytes. -/
def WD (s : ByteArray) : Int := bt s 0 + 256 * bt s 1 + 65536 * bt s 2 + 16777216 * bt s 3
theorem WD_nn (s : ByteArray) : 0 ≤ WD s := by
  have := bt_nn s 0; have := bt_nn s 1; have := bt_nn s 2; have := bt_nn s 3
  unfold WD; omega
theorem WD_lt (s : ByteArray) : WD s < 4294967296 := by
  have := bt_le s 0; have := bt_le s 1; have := bt_le s 2; have := bt_le s 3
  unfold WD; omega
theorem word_or (a b c d : Int) (a0 : 0 ≤ a) (a1 : a ≤ 255) (b0 : 0 ≤ b) (b1 : b ≤ 255) (c0 : 0 ≤ c) (c1 : c ≤ 255) (d0 : 0 ≤ d) (d1 : d ≤ 255) :
    Go.bits .or .u32 (Go.bits .or .u32 (Go.bits .or .u32 (a % 4294967296) (((b % 4294967296) * 256) % 4294967296)) (((c % 4294967296) * 65536) % 4294967296)) (((d % 4294967296) * 16777216) % 4294967296) = a + 256 * b + 65536 * c + 16777216 * d := by
  rw [show a % 4294967296 = a by omega, show ((b % 4294967296) * 256) % 4294967296 = b * 256 by omega, show ((c % 4294967296) * 65536) % 4294967296 = c * 65536 by omega, show ((d % 4294967296) * 16777216) % 4294967296 = d * 16777216 by omega]
  rw [or_sum 8 16 (by decide) (by decide) a (b * 256) a0 (by omega) (by omega) (by omega) (by omega)]
  rw [or_sum 16 24 (by decide) (by decide) (a + b * 256) (c * 65536) (by omega) (by omega) (by omega) (by omega) (by omega)]
  rw [or_sum 24 32 (by decide) (by decide) (a + b * 256 + c * 65536) (d * 16777216) (by omega) (by omega) (by omega) (by omega) (by omega)]
  omega
theorem bt_extract (s : ByteArray) (n : Nat) (hn : n ≤ s.size) (i : Nat) (hi : i < n) : bt (s.extract 0 n) i = bt s i := by
  unfold bt
  have h1 : ((i : Int)).toNat < (s.extract 0 n).size := by simp; omega
  have h2 : ((i : Int)).toNat < s.size := by simp; omega
  rw [dif_pos h1, dif_pos h2]
  simp only [Int.toNat_natCast, ByteArray.getElem_extract, Nat.zero_add]
theorem spec_word (s : ByteArray) (h : 4 ≤ s.size) : spec_GetWord.f (bytesOf (s.extract 0 4)) = some (WD s, true) := by
  have hl : ((bytesOf (s.extract 0 4)).length : Int) = 4 := by rw [bytesOf_length]; simp; omega
  have a0 := bt_nn s 0; have b0 := bt_nn s 1; have c0 := bt_nn s 2; have d0 := bt_nn s 3
  have a1 := bt_le s 0; have b1 := bt_le s 1; have c1 := bt_le s 2; have d1 := bt_le s 3
  unfold spec_GetWord.f
  rw [if_pos hl, if_pos (by omega), if_pos (by omega), if_pos (by omega), if_pos (by omega)]
  rw [rd_bytesOf, rd_bytesOf, rd_bytesOf, rd_bytesOf]
  rw [show (0 : Int) = ((0 : Nat) : Int) from rfl, show (1 : Int) = ((1 : Nat) : Int) from rfl, show (2 : Int) = ((2 : Nat) : Int) from rfl, show (3 : Int) = ((3 : Nat) : Int) from rfl, bt_extract s 4 h 0 (by decide), bt_extract s 4 h 1 (by decide), bt_extract s 4 h 2 (by decide), bt_extract s 4 h 3 (by decide)]
  simp only [Int.cast_ofNat_Int] at *
  rw [w64 (x := bt s 0) (by omega) (by omega), w64 (x := bt s 1) (by omega) (by omega), w64 (x := bt s 2) (by omega) (by omega), w64 (x := bt s 3) (by omega) (by omega)]
  rw [w64 (x := 256 * bt s 1) (by omega) (by omega), w64 (x := 65536 * bt s 2) (by omega) (by omega), w64 (x := 16777216 * bt s 3) (by omega) (by omega)]
  rw [w64 (x := bt s 0 + 256 * bt s 1) (by omega) (by omega), w64 (x := bt s 0 + 256 * bt s 1 + 65536 * bt s 2) (by omega) (by omega), w64 (x := bt s 0 + 256 * bt s 1 + 65536 * bt s 2 + 16777216 * bt s 3) (by omega) (by omega)]
  have : (bt s 0 + 256 * bt s 1 + 65536 * bt s 2 + 16777216 * bt s 3) % 4294967296 = WD s := by unfold WD; omega
  rw [this]
theorem impl_word (s : ByteArray) (h : 4 ≤ s.size) : impl_readWord.f s = some (WD s) := by
  unfold impl_readWord.f
  rw [if_pos (by omega), if_pos (by omega), if_pos (by omega), if_pos (by omega)]
  rw [word_or _ _ _ _ (bt_nn s 0) (bt_le s 0) (bt_nn s 1) (bt_le s 1) (bt_nn s 2) (bt_le s 2) (bt_nn s 3) (bt_le s 3)]
  rfl
/-- The frames of a text, and what is left of it. -/
def rp : Nat → ByteArray → List S26 → ByteArray × List S26 × Bool
  | 0, s, acc => (s, acc, false)
  | n + 1, s, acc => if s.size < 4 then (s, acc, false) else if WD s > 8007 then (⟨#[]⟩, acc, true) else if (s.size : Int) < 4 + WD s / 8 then (s, acc, false) else rp n (s.extract (4 + WD s / 8).toNat s.size) (acc ++ [⟨WD s % 8, s.extract 4 (4 + WD s / 8).toNat⟩])
theorem spec_rp (n : Nat) : ∀ (s : ByteArray) (acc : List S26), s.size ≤ n → acc.length + n ≤ 4611686018427 → Ev (fun k => spec_ReaderPush.l0 k s ⟨#[]⟩ acc true) (rp n s acc) := by
  induction n with
  | zero =>
    intro s acc hs hb
    exact ev_at (fun k => by simp only [spec_ReaderPush.l0]; rw [if_neg (by omega)]; rfl)
  | succ n ih =>
    intro s acc hs hb
    by_cases h4 : s.size < 4
    · rw [show rp (n + 1) s acc = (s, acc, false) by simp only [rp]; rw [if_pos h4]]
      exact ev_at (fun k => by simp only [spec_ReaderPush.l0]; rw [if_neg (by omega)])
    have hw0 := WD_nn s
    have hw1 := WD_lt s
    have e1 : wrap64 (WD s) = WD s := w64 (by omega) (by omega)
    have e2 : wrap64 (Int.tdiv (WD s) 8) = WD s / 8 := by rw [Int.tdiv_eq_ediv_of_nonneg hw0]; exact w64 (by omega) (by omega)
    have e3 : wrap64 (4 + WD s / 8) = 4 + WD s / 8 := w64 (by omega) (by omega)
    have e4 : Int.tmod (WD s) 8 = WD s % 8 := Int.tmod_eq_emod_of_nonneg hw0
    have hx : (s.extract 0 4).size ≤ 9223372036854775807 := by simp; omega
    by_cases hbad : WD s > 8007
    · rw [show rp (n + 1) s acc = (⟨#[]⟩, acc, true) by simp only [rp]; rw [if_neg h4, if_pos hbad]]
      refine ev_at (fun k => ?_)
      simp only [spec_ReaderPush.l0]
      rw [if_pos (by omega), if_pos (by decide), if_pos (by omega), if_pos hx, spec_word s (by omega)]
      simp only [Option.bind_some]
      rw [e1, e2, if_pos (by omega)]
    by_cases hsh : (s.size : Int) < 4 + WD s / 8
    · rw [show rp (n + 1) s acc = (s, acc, false) by simp only [rp]; rw [if_neg h4, if_neg hbad, if_pos hsh]]
      refine ev_at (fun k => ?_)
      simp only [spec_ReaderPush.l0]
      rw [if_pos (by omega), if_pos (by decide), if_pos (by omega), if_pos hx, spec_word s (by omega)]
      simp only [Option.bind_some]
      rw [e1, e2, e3, if_neg (by omega), if_pos hsh]
    · rw [show rp (n + 1) s acc = rp n (s.extract (4 + WD s / 8).toNat s.size) (acc ++ [⟨WD s % 8, s.extract 4 (4 + WD s / 8).toNat⟩]) by simp only [rp]; rw [if_neg h4, if_neg hbad, if_neg hsh]]
      refine Ev.step (fun k => ?_) (ih _ _ (by simp; omega) (by simp; omega))
      simp only [spec_ReaderPush.l0]
      rw [if_pos (by omega), if_pos (by decide), if_pos (by omega), if_pos hx, spec_word s (by omega)]
      simp only [Option.bind_some]
      rw [e1, e2, e3, e4, if_neg (by omega), if_neg hsh, if_pos (by omega), if_pos (by omega), if_pos (by omega), if_pos (by omega)]
theorem impl_rp (n : Nat) : ∀ (s : ByteArray) (acc : List S26), s.size ≤ n → acc.length + n ≤ 4611686018427 → Ev (fun k => impl_ReaderPush.l0 k s ⟨#[]⟩ acc false) (rp n s acc) := by
  induction n with
  | zero =>
    intro s acc hs hb
    exact ev_at (fun k => by simp only [impl_ReaderPush.l0]; rw [if_neg (by omega)]; rfl)
  | succ n ih =>
    intro s acc hs hb
    by_cases h4 : s.size < 4
    · rw [show rp (n + 1) s acc = (s, acc, false) by simp only [rp]; rw [if_pos h4]]
      exact ev_at (fun k => by simp only [impl_ReaderPush.l0]; rw [if_neg (by omega)])
    have hw0 := WD_nn s
    have hw1 := WD_lt s
    have e2 : (Int.tdiv (WD s) 8) % 4294967296 = WD s / 8 := by rw [Int.tdiv_eq_ediv_of_nonneg hw0]; omega
    have e4 : wrap64 (Int.tmod (WD s) 8) = WD s % 8 := by rw [Int.tmod_eq_emod_of_nonneg hw0]; exact w64 (by omega) (by omega)
    by_cases hbad : WD s > 8007
    · rw [show rp (n + 1) s acc = (⟨#[]⟩, acc, true) by simp only [rp]; rw [if_neg h4, if_pos hbad]]
      refine ev_at (fun k => ?_)
      simp only [impl_ReaderPush.l0]
      rw [if_pos (by omega), impl_word s (by omega)]
      simp only [Option.bind_some]
      rw [if_pos hbad]
    by_cases hsh : (s.size : Int) < 4 + WD s / 8
    · rw [show rp (n + 1) s acc = (s, acc, false) by simp only [rp]; rw [if_neg h4, if_neg hbad, if_pos hsh]]
      refine ev_at (fun k => ?_)
      simp only [impl_ReaderPush.l0]
      rw [if_pos (by omega), impl_word s (by omega)]
      simp only [Option.bind_some]
      rw [e2, if_neg hbad, if_pos hsh]
    · rw [show rp (n + 1) s acc = rp n (s.extract (4 + WD s / 8).toNat s.size) (acc ++ [⟨WD s % 8, s.extract 4 (4 + WD s / 8).toNat⟩]) by simp only [rp]; rw [if_neg h4, if_neg hbad, if_neg hsh]]
      refine Ev.step (fun k => ?_) (ih _ _ (by simp; omega) (by simp; omega))
      simp only [impl_ReaderPush.l0]
      rw [if_pos (by omega), impl_word s (by omega)]
      simp only [Option.bind_some]
      rw [e2, e4, if_neg hbad, if_neg hsh, if_pos (by omega), if_pos (by omega), if_pos (by omega), if_pos (by omega)]
/-- What a push makes of a reader. -/
def rpv (rest : ByteArray) (fs : List S26) (bad : Bool) (b : List Int) : ByteArray × List S26 × Bool :=
  if bad = true ∨ rest.size > 1004 ∨ b.length > 100000 then (⟨#[]⟩, fs, true) else rp (rest.size + b.length) (rest ++ strOfNums b) fs
theorem spec_push (rest : ByteArray) (fs : List S26) (bad : Bool) (b : List Int) (hf : fs.length ≤ 1000000000000) : Ev (fun k => spec_ReaderPush.f k rest fs bad b) (rpv rest fs bad b) := by
  unfold spec_ReaderPush.f rpv
  have e : ([] : List S26).length + fs.length < 5864062014805 := by simp only [List.length_nil]; omega
  simp only [Option.bind_some, if_pos e, List.nil_append]
  by_cases h1 : bad = true
  · rw [if_pos (.inl h1)]
    refine Ev.congr (fun k => by rw [if_pos h1]) (ev_at (fun k => by simp [spec_ReaderPush.j0]))
  by_cases h2 : rest.size > 1004
  · rw [if_pos (.inr (.inl h2))]
    refine Ev.congr (fun k => by rw [if_neg h1, if_pos (by omega)]) (ev_at (fun k => by simp [spec_ReaderPush.j0]))
  by_cases h3 : b.length > 100000
  · rw [if_pos (.inr (.inr h3))]
    refine Ev.congr (fun k => by rw [if_neg h1, if_neg (by omega), decide_eq_true (by omega)]) (ev_at (fun k => by simp [spec_ReaderPush.j0]))
  · rw [if_neg (by rintro (h | h | h) <;> contradiction)]
    refine Ev.congr (fun k => by rw [if_neg h1, if_neg (by omega), decide_eq_false (by omega)]) (Ev.step (fun k => ?_) (spec_rp _ _ _ (by rw [ByteArray.size_append, strOfNums_size]; omega) (by omega)))
    simp only [spec_ReaderPush.j0]
    rw [if_neg (by decide), if_pos (by rw [strOfNums_size]; omega)]
theorem impl_push (rest : ByteArray) (fs : List S26) (bad : Bool) (b : List Int) (hf : fs.length ≤ 1000000000000) : Ev (fun k => impl_ReaderPush.f k rest fs bad b) (rpv rest fs bad b) := by
  unfold impl_ReaderPush.f rpv
  have e : impl_Frame.f fs = some fs := by unfold impl_Frame.f; rw [if_pos (by omega)]
  simp only [e, Option.bind_some]
  by_cases h1 : bad = true
  · rw [if_pos (.inl h1)]
    refine Ev.congr (fun k => by rw [if_pos h1]) (ev_at (fun k => by simp [impl_ReaderPush.j0]))
  by_cases h2 : rest.size > 1004
  · rw [if_pos (.inr (.inl h2))]
    refine Ev.congr (fun k => by rw [if_neg h1, if_pos (by omega)]) (ev_at (fun k => by simp [impl_ReaderPush.j0]))
  by_cases h3 : b.length > 100000
  · rw [if_pos (.inr (.inr h3))]
    refine Ev.congr (fun k => by rw [if_neg h1, if_neg (by omega), decide_eq_true (by omega)]) (ev_at (fun k => by simp [impl_ReaderPush.j0]))
  · rw [if_neg (by rintro (h | h | h) <;> contradiction)]
    refine Ev.congr (fun k => by rw [if_neg h1, if_neg (by omega), decide_eq_false (by omega)]) (Ev.step (fun k => ?_) (impl_rp _ _ _ (by rw [ByteArray.size_append, strOfNums_size]; omega) (by omega)))
    simp only [impl_ReaderPush.j0]
    rw [if_neg (by decide), if_pos (by rw [strOfNums_size]; omega)]
theorem rp_len (n : Nat) : ∀ (s : ByteArray) (acc : List S26), (rp n s acc).2.1.length ≤ acc.length + n := by
  induction n with
  | zero => intro s acc; simp [rp]
  | succ n ih =>
    intro s acc
    simp only [rp]
    split
    · show acc.length ≤ _; omega
    split
    · show acc.length ≤ _; omega
    split
    · show acc.length ≤ _; omega
    · have := ih (s.extract (4 + WD s / 8).toNat s.size) (acc ++ [⟨WD s % 8, s.extract 4 (4 + WD s / 8).toNat⟩])
      simp at this
      omega
theorem rpv_len (rest : ByteArray) (fs : List S26) (bad : Bool) (b : List Int) : (rpv rest fs bad b).2.1.length ≤ fs.length + 101004 := by
  unfold rpv
  split
  · show fs.length ≤ _; omega
  · rename_i h
    have := rp_len (rest.size + b.length) (rest ++ strOfNums b) fs
    have h2 : ¬ rest.size > 1004 := fun h' => h (.inr (.inl h'))
    have h3 : ¬ b.length > 100000 := fun h' => h (.inr (.inr h'))
    omega
def fov (b : List Int) : List S26 × ByteArray × Bool := if (rpv ⟨#[]⟩ [] false b).2.2 = true then ([], ⟨#[]⟩, false) else ((rpv ⟨#[]⟩ [] false b).2.1, (rpv ⟨#[]⟩ [] false b).1, true)
theorem fov_len (b : List Int) : (fov b).1.length ≤ 101004 := by
  unfold fov
  split
  · simp
  · have := rpv_len ⟨#[]⟩ [] false b
    simpa using this
theorem spec_fov (b : List Int) : Ev (fun k => spec_FramesOf.f k b) (fov b) := by
  unfold spec_FramesOf.f fov
  refine Ev.bind (spec_push ⟨#[]⟩ [] false b (by simp)) ?_
  split
  · exact Ev.now _
  · exact Ev.now _
theorem impl_fov (b : List Int) : Ev (fun k => impl_FramesOf.f k b) (fov b) := by
  unfold impl_FramesOf.f fov
  refine Ev.bind (impl_push ⟨#[]⟩ [] false b (by simp)) ?_
  split
  · exact Ev.now _
  · exact Ev.now _
theorem FnExactFramesOf : laws_FnExactFramesOf.Pure := by
  intro l hl1 _ _
  by_cases hbig : (l.length : Int) > 1048576
  · exact ⟨0, by simp only [laws_FnExactFramesOf.f]; rw [if_pos hbig]⟩
  have hto := toBS l (by omega)
  have hs := spec_fov l
  have hi := impl_fov l
  have hlen := fov_len l
  generalize fov l = v at hs hi hlen
  obtain ⟨fs, rest, ok⟩ := v
  simp only at hlen
  have he := eqS26 fs (by omega)
  have heb := eqBS l (by omega)
  have hmb := markBS l 1 (by omega) (by omega)
  have hm := markFS fs 1 (by omega) (by omega)
  have hh := heldFS fs 1 (by omega) (by omega)
  have hj2 : Ev (fun k => laws_FnExactFramesOf.j2 k (mkF 1 fs) (1 + 2 * (fs.length : Int)) (ok != ok)) true := by
    refine Ev.step (fun k => by simp only [laws_FnExactFramesOf.j2]; rw [if_neg (by simp)]) (Ev.bind hh ?_)
    exact ev_ret (fun k => by rw [if_neg (by omega), if_pos rfl])
  have hj1 : Ev (fun k => laws_FnExactFramesOf.j1 k l fs rest ok fs (ok != ok)) true := by
    refine Ev.step (fun k => by simp only [laws_FnExactFramesOf.j1]; rw [if_neg (by simp)]) (Ev.bind hm (Ev.bind hh ?_))
    refine Ev.congr (fun k => by rw [if_neg (by omega), if_pos rfl]) (Ev.bind hto (Ev.bind hi (Ev.bind he ?_)))
    refine Ev.congr (fun k => by rw [if_pos rfl, if_pos rfl]) hj2
  have hj0 : Ev (fun k => laws_FnExactFramesOf.j0 k l fs rest ok l fs rest ok (ok != ok)) true := by
    refine Ev.step (fun k => by simp only [laws_FnExactFramesOf.j0]; rw [if_neg (by simp)]) (Ev.bind hto (Ev.bind heb ?_))
    refine Ev.congr (fun k => by rw [if_pos rfl]) (Ev.bind hmb ?_)
    refine Ev.congr (fun k => by rw [if_neg (by omega)]) (Ev.bind he ?_)
    refine Ev.congr (fun k => by simp only [if_true]) hj1
  refine Ev.rounds ?_
  simp only [laws_FnExactFramesOf.f]
  refine Ev.congr (fun k => by rw [if_neg hbig]) (Ev.bind hto (Ev.bind hs (Ev.bind hto (Ev.bind hi (Ev.bind he ?_)))))
  refine Ev.congr (fun k => by simp only [if_true]) hj0
end Go.Proofs.Ytbiaakkmmkddfaa.Pure
