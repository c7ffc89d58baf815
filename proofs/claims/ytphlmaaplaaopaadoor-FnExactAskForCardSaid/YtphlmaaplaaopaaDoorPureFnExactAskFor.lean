/- The program's AskFor answers as the reference's, at all arguments; its answer is its own, behind a second call too. No condition beside the form's own reach. -/
import Derived.Test.YtphlmaaplaaopaaDoorPFnExactAskForx11
namespace Go.Proofs.YtphlmaaplaaopaaDoor.Pure
open Go.RowKit Go.Proofs.YtphlmaaplaaopaaDoor.PFnExactAskFor Go.Proofs.YtphlmaaplaaopaaDoorW.PrintWords Go.Proofs.YtphlmaaplaaopaaDoorW.PrintLast Go.Proofs.YtphlmaaplaaopaaDoorW.PrintMore
theorem w64 {x : Int} (h0 : -9223372036854775808 ≤ x) (h1 : x ≤ 9223372036854775807) : wrap64 x = x := by unfold wrap64; omega
theorem emp_iff (s : ByteArray) : s.toList = ([] : List UInt8) ↔ s.size = 0 := by
  rw [ByteArray.toList_eq]
  obtain ⟨⟨d⟩⟩ := s
  cases d <;> simp [ByteArray.size]
theorem ev_at {α : Type} {g : Nat → Option α} {r : α} (h : ∀ k, g (k + 1) = some r) : Ev g r := ⟨1, fun k hk => by
  obtain ⟨j, rfl⟩ : ∃ j, k = j + 1 := ⟨k - 1, by omega⟩
  exact h j⟩
theorem ev_ret {α : Type} {g : Nat → Option α} {r : α} (h : ∀ k, g k = some r) : Ev g r := ⟨0, fun k _ => h k⟩
theorem ev_det {α : Type} {g : Nat → Option α} {r s : α} (h : Ev g r) (k : Ev g s) : r = s := by
  obtain ⟨K, h⟩ := h
  obtain ⟨L, k⟩ := k
  have h1 := h (K + L) (by omega)
  have h2 := k (K + L) (by omega)
  rw [h1] at h2
  exact Option.some.inj h2
theorem ba_ext {a b : ByteArray} (h : a.toList = b.toList) : a = b := by
  rw [ByteArray.toList_eq, ByteArray.toList_eq] at h
  exact ByteArray.ext (Array.toList_inj.1 h)
theorem bytesOf_append (a b : ByteArray) : bytesOf (a ++ b) = bytesOf a ++ bytesOf b := by simp [bytesOf, ByteArray.data_append]
theorem strOf_bytesOf (s : ByteArray) : strOfNums (bytesOf s) = s := by
  apply ByteArray.ext
  apply Array.toList_inj.1
  rw [strOfNums_data, bytesOf, List.map_map]
  exact (List.map_congr_left (fun b _ => by simp)).trans (List.map_id _)
theorem bytesOf_inj {a b : ByteArray} (h : bytesOf a = bytesOf b) : a = b := by rw [← strOf_bytesOf a, h, strOf_bytesOf]
theorem tdiv10 {n : Int} (h0 : 0 < n) (h1 : n ≤ 9223372036854775807) : wrap64 (Int.tdiv n 10) = n / 10 := by
  rw [Int.tdiv_eq_ediv_of_nonneg (by omega)]
  exact w64 (by omega) (by omega)
theorem one_size (x : Int) : (strOfNums [x]).size = 1 := by rw [strOfNums_size]; rfl
theorem mark_l0 (d : Nat) : ∀ (n : Int) (s : ByteArray), n < 10 ^ d → n ≤ 9223372036854775807 → s.size + d ≤ 1000 → ∃ r, Ev (fun k => laws_markText.l0 k n s) r := by
  induction d with
  | zero =>
    intro n s hn _ hs
    exact ⟨(⟨#[109]⟩ : ByteArray) ++ s, ev_at (fun k => by simp only [laws_markText.l0]; rw [if_neg (by simp at hn; omega), if_pos (by omega)])⟩
  | succ d ih =>
    intro n s hn hb hs
    by_cases h0 : n > 0
    · have hsz : (strOfNums [(wrap64 (48 + (Int.tmod n 10))) % 256] ++ s).size = 1 + s.size := by rw [ByteArray.size_append, one_size]
      obtain ⟨r, h⟩ := ih (n / 10) (strOfNums [(wrap64 (48 + (Int.tmod n 10))) % 256] ++ s) (by rw [Int.pow_succ] at hn; omega) (by omega) (by omega)
      refine ⟨r, Ev.step (fun k => ?_) h⟩
      simp only [laws_markText.l0]
      rw [if_pos h0]
      simp only [Option.bind_some]
      rw [if_pos (by rw [one_size]; omega), tdiv10 h0 hb]
    · exact ⟨(⟨#[109]⟩ : ByteArray) ++ s, ev_at (fun k => by simp only [laws_markText.l0]; rw [if_neg h0, if_pos (by omega)])⟩
theorem mark_total {n : Int} (hn : n ≤ 9223372036854775807) : ∃ r, Ev (fun k => laws_markText.f k n) r := by
  by_cases h : n ≤ 0
  · exact ⟨_, 0, fun k _ => by simp only [laws_markText.f]; rw [if_pos h]⟩
  · obtain ⟨r, hr⟩ := mark_l0 19 n ⟨#[]⟩ (by have : (10 : Int) ^ 19 = 10000000000000000000 := by decide
                                             omega) hn (by decide)
    exact ⟨r, Ev.congr (fun k => by simp only [laws_markText.f]; rw [if_neg h]) hr⟩
noncomputable def mt (n : Int) : ByteArray := open Classical in if h : ∃ r, Ev (fun k => laws_markText.f k n) r then h.choose else ⟨#[]⟩
theorem mt_ev {n : Int} (hn : n ≤ 9223372036854775807) : Ev (fun k => laws_markText.f k n) (mt n) := by
  have h := mark_total hn
  unfold mt
  rw [dif_pos h]
  exact h.choose_spec
theorem rd_midS (pre : List ByteArray) (x : ByteArray) (t : List ByteArray) {i : Int} (hi : i = pre.length) : rdOf ByteArray.empty (pre ++ x :: t) i = x := by
  subst hi
  simp [rdOf]
theorem set_midS (pre : List ByteArray) (x y : ByteArray) (t : List ByteArray) {i : Int} (hi : i = pre.length) : (pre ++ x :: t).set i.toNat y = pre ++ y :: t := by
  subst hi
  simp
theorem eqStr (xs : List ByteArray) (hx : xs.length ≤ 4611686018427387904) (d : Nat) : ∀ i : Int, 0 ≤ i → (xs.length : Int) - i = d → Ev (fun k => laws_eqStringS.l0 k xs xs i) true := by
  induction d with
  | zero =>
    intro i h0 hd
    exact ev_at (fun k => by simp only [laws_eqStringS.l0]; rw [if_neg (by omega)])
  | succ d ih =>
    intro i h0 hd
    refine Ev.step (fun k => ?_) (ih (i + 1) (by omega) (by omega))
    simp only [laws_eqStringS.l0]
    rw [if_pos (by omega), if_pos h0, if_pos (by omega)]
    simp only [if_true]
    rw [w64 (by omega) (by omega)]
theorem eqStrS (xs : List ByteArray) (hx : xs.length ≤ 4611686018427387904) : Ev (fun k => laws_eqStringS.f k xs xs) true :=
  Ev.congr (fun k => by simp only [laws_eqStringS.f]; rw [if_pos trivial]) (eqStr xs hx xs.length 0 (by omega) (by omega))
noncomputable def mkT : Int → List ByteArray → List ByteArray
  | _, [] => []
  | m, _ :: t => mt m :: mkT (m + 1) t
theorem mkT_length (m : Int) (xs : List ByteArray) : (mkT m xs).length = xs.length := by
  induction xs generalizing m with
  | nil => rfl
  | cons x t ih => simp [mkT, ih]
theorem markT (suf : List ByteArray) : ∀ (pre : List ByteArray) (m i : Int), i = pre.length → 0 ≤ m → m + suf.length ≤ 4611686018427387904 → pre.length + suf.length ≤ 4611686018427387904 →
    Ev (fun k => laws_markStringS.l0 k (pre ++ suf) m i) (m + suf.length, pre ++ mkT m suf) := by
  induction suf with
  | nil =>
    intro pre m i hi h0 hm hl
    refine ev_at (fun k => ?_)
    simp only [laws_markStringS.l0]
    rw [if_neg (by simp; omega)]
    simp [mkT]
  | cons x t ih =>
    intro pre m i hi h0 hm hl
    simp only [List.length_cons, Int.natCast_succ] at hm hl
    have h := ih (pre ++ [mt m]) (m + 1) (i + 1) (by simp; omega) (by omega) (by omega) (by simp; omega)
    have e1 : wrap64 (m + 1) = m + 1 := w64 (by omega) (by omega)
    have e3 : wrap64 (i + 1) = i + 1 := w64 (by omega) (by omega)
    have hres : ((m + ((x :: t).length : Int), pre ++ mkT m (x :: t)) : Int × List ByteArray) = (m + 1 + (t.length : Int), pre ++ [mt m] ++ mkT (m + 1) t) := by
      simp [mkT]
      omega
    rw [hres]
    refine Ev.step (f := fun k => (laws_markText.f k m).bind fun q => laws_markStringS.l0 k (pre ++ q :: t) (m + 1) (i + 1)) (fun k => ?_) (Ev.bind (mt_ev (by omega)) (by simpa using h))
    simp only [laws_markStringS.l0]
    rw [if_pos (by simp; omega)]
    congr 1
    funext q
    rw [if_pos (by omega), set_midS pre x _ t hi, e1, e3]
theorem heldT (suf : List ByteArray) : ∀ (pre : List ByteArray) (m i : Int), i = pre.length → 0 ≤ m → m + suf.length ≤ 4611686018427387904 → pre.length + suf.length ≤ 4611686018427387904 →
    Ev (fun k => laws_heldStringS.l0 k (pre ++ mkT m suf) m i) (m + suf.length) := by
  induction suf with
  | nil =>
    intro pre m i hi h0 hm hl
    refine ev_at (fun k => ?_)
    simp only [laws_heldStringS.l0]
    rw [if_neg (by simp [mkT]; omega)]
    simp
  | cons x t ih =>
    intro pre m i hi h0 hm hl
    simp only [List.length_cons, Int.natCast_succ] at hm hl
    have h := ih (pre ++ [mt m]) (m + 1) (i + 1) (by simp; omega) (by omega) (by omega) (by simp; omega)
    have e1 : wrap64 (m + 1) = m + 1 := w64 (by omega) (by omega)
    have e3 : wrap64 (i + 1) = i + 1 := w64 (by omega) (by omega)
    have hres : m + ((x :: t).length : Int) = m + 1 + (t.length : Int) := by simp; omega
    rw [hres]
    refine Ev.step (f := fun k => (laws_markText.f k m).bind fun q => if (mt m).toList = q.toList then laws_heldStringS.l0 k (pre ++ mkT m (x :: t)) (m + 1) (i + 1) else some (-1)) (fun k => ?_) (Ev.bind (mt_ev (by omega)) ?_)
    · rw [show mkT m (x :: t) = mt m :: mkT (m + 1) t from rfl]
      simp only [laws_heldStringS.l0]
      have c1 : i < ((pre ++ mt m :: mkT (m + 1) t).length : Int) := by simp; omega
      have c2 : 0 ≤ i := by omega
      rw [if_pos c1, if_pos c2, rd_midS pre _ _ hi, e1, e3]
    · simp only [if_pos]
      simpa [mkT] using h
theorem markTS (xs : List ByteArray) (m : Int) (h0 : 0 ≤ m) (hm : m + xs.length ≤ 4611686018427387904) : Ev (fun k => laws_markStringS.f k xs m) (m + xs.length, mkT m xs) := by
  have h := markT xs [] m 0 rfl h0 hm (by simp; omega)
  simp only [List.nil_append] at h
  exact h
theorem heldTS (xs : List ByteArray) (m : Int) (h0 : 0 ≤ m) (hm : m + xs.length ≤ 4611686018427387904) : Ev (fun k => laws_heldStringS.f k (mkT m xs) m) (m + xs.length) := by
  have h := heldT xs [] m 0 rfl h0 hm (by simp; omega)
  simp only [List.nil_append] at h
  exact h
theorem rd_midB (pre : List Int) (x : Int) (t : List Int) {i : Int} (hi : i = pre.length) : rd (pre ++ x :: t) i = x := by
  subst hi
  simp [rd]
theorem set_midB (pre : List Int) (x y : Int) (t : List Int) {i : Int} (hi : i = pre.length) : (pre ++ x :: t).set i.toNat y = pre ++ y :: t := by
  subst hi
  simp
theorem eqU (xs : List Int) (hx : xs.length ≤ 4611686018427387904) (d : Nat) : ∀ i : Int, 0 ≤ i → (xs.length : Int) - i = d → Ev (fun k => laws_eqUint32S.l0 k xs xs i) true := by
  induction d with
  | zero =>
    intro i h0 hd
    exact ev_at (fun k => by simp only [laws_eqUint32S.l0]; rw [if_neg (by omega)])
  | succ d ih =>
    intro i h0 hd
    refine Ev.step (fun k => ?_) (ih (i + 1) (by omega) (by omega))
    simp only [laws_eqUint32S.l0]
    rw [if_pos (by omega), if_pos h0, if_pos (by omega)]
    simp only [if_true]
    rw [w64 (by omega) (by omega)]
theorem eqUS (xs : List Int) (hx : xs.length ≤ 4611686018427387904) : Ev (fun k => laws_eqUint32S.f k xs xs) true :=
  Ev.congr (fun k => by simp only [laws_eqUint32S.f]; rw [if_pos trivial]) (eqU xs hx xs.length 0 (by omega) (by omega))
def mkU : Int → List Int → List Int
  | _, [] => []
  | m, _ :: t => (m % 4294967296) :: mkU (m + 1) t
theorem mkU_length (m : Int) (xs : List Int) : (mkU m xs).length = xs.length := by
  induction xs generalizing m with
  | nil => rfl
  | cons x t ih => simp [mkU, ih]
theorem markU (suf : List Int) : ∀ (pre : List Int) (m i : Int), i = pre.length → 0 ≤ m → m + suf.length ≤ 4611686018427387904 → pre.length + suf.length ≤ 4611686018427387904 →
    Ev (fun k => laws_markUint32S.l0 k (pre ++ suf) m i) (m + suf.length, pre ++ mkU m suf) := by
  induction suf with
  | nil =>
    intro pre m i hi h0 hm hl
    refine ev_at (fun k => ?_)
    simp only [laws_markUint32S.l0]
    rw [if_neg (by simp; omega)]
    simp [mkU]
  | cons x t ih =>
    intro pre m i hi h0 hm hl
    simp only [List.length_cons, Int.natCast_succ] at hm hl
    have h := ih (pre ++ [m % 4294967296]) (m + 1) (i + 1) (by simp; omega) (by omega) (by omega) (by simp; omega)
    have e1 : wrap64 (m + 1) = m + 1 := w64 (by omega) (by omega)
    have e3 : wrap64 (i + 1) = i + 1 := w64 (by omega) (by omega)
    have hres : ((m + ((x :: t).length : Int), pre ++ mkU m (x :: t)) : Int × List Int) = (m + 1 + (t.length : Int), pre ++ [m % 4294967296] ++ mkU (m + 1) t) := by
      simp [mkU]
      omega
    rw [hres]
    refine Ev.step (f := fun k => laws_markUint32S.l0 k (pre ++ (m % 4294967296) :: t) (m + 1) (i + 1)) (fun k => ?_) (by simpa using h)
    simp only [laws_markUint32S.l0]
    rw [if_pos (by simp; omega), if_pos (by omega), set_midB pre x _ t hi, e1, e3]
theorem markUS (xs : List Int) (m : Int) (h0 : 0 ≤ m) (hm : m + xs.length ≤ 4611686018427387904) : Ev (fun k => laws_markUint32S.f k xs m) (m + xs.length, mkU m xs) := by
  have h := markU xs [] m 0 rfl h0 hm (by simp; omega)
  simp only [List.nil_append] at h
  exact h
theorem heldU (suf : List Int) : ∀ (pre : List Int) (m i : Int), i = pre.length → 0 ≤ m → m + suf.length ≤ 4611686018427387904 → pre.length + suf.length ≤ 4611686018427387904 →
    Ev (fun k => laws_heldUint32S.l0 k (pre ++ mkU m suf) m i) (m + suf.length) := by
  induction suf with
  | nil =>
    intro pre m i hi h0 hm hl
    refine ev_at (fun k => ?_)
    simp only [laws_heldUint32S.l0]
    rw [if_neg (by simp [mkU]; omega)]
    simp
  | cons x t ih =>
    intro pre m i hi h0 hm hl
    simp only [List.length_cons, Int.natCast_succ] at hm hl
    have h := ih (pre ++ [m % 4294967296]) (m + 1) (i + 1) (by simp; omega) (by omega) (by omega) (by simp; omega)
    have e1 : wrap64 (m + 1) = m + 1 := w64 (by omega) (by omega)
    have e3 : wrap64 (i + 1) = i + 1 := w64 (by omega) (by omega)
    have hres : m + ((x :: t).length : Int) = m + 1 + (t.length : Int) := by simp; omega
    rw [hres]
    refine Ev.step (f := fun k => laws_heldUint32S.l0 k (pre ++ (m % 4294967296) :: mkU (m + 1) t) (m + 1) (i + 1)) (fun k => ?_) (by simpa using h)
    rw [show mkU m (x :: t) = (m % 4294967296) :: mkU (m + 1) t from rfl]
    simp only [laws_heldUint32S.l0]
    rw [if_pos (by simp; omega), if_pos (by omega), rd_midB pre _ _ hi, if_pos rfl, e1, e3]
theorem heldUS (xs : List Int) (m : Int) (h0 : 0 ≤ m) (hm : m + xs.length ≤ 4611686018427387904) : Ev (fun k => laws_heldUint32S.f k (mkU m xs) m) (m + xs.length) := by
  have h := heldU xs [] m 0 rfl h0 hm (by simp; omega)
  simp only [List.nil_append] at h
  exact h
def bz : Nat → Int → Int → Int
  | 0, _, x => x
  | d + 1, n, x => if x * x < n ∧ x < 256 then bz d n (x + 8) else x
theorem sq_rng {x : Int} (h0 : 8 ≤ x) (h1 : x ≤ 256) : 0 ≤ x * x ∧ x * x ≤ 65536 :=
  ⟨Int.mul_nonneg (by omega) (by omega), Int.le_trans (Int.mul_le_mul h1 h1 (by omega) (by omega)) (by decide)⟩
theorem bz_rng (d : Nat) : ∀ n x : Int, 8 ≤ x → x ≤ 256 → x % 8 = 0 → 8 ≤ bz d n x ∧ bz d n x ≤ 256 := by
  induction d with
  | zero => intro n x h0 h1 h2; exact ⟨h0, h1⟩
  | succ d ih =>
    intro n x h0 h1 h2
    unfold bz
    by_cases hc : x * x < n ∧ x < 256
    · rw [if_pos hc]; exact ih n (x + 8) (by omega) (by omega) (by omega)
    · rw [if_neg hc]; exact ⟨h0, h1⟩
theorem spec_bz (d : Nat) : ∀ n x : Int, 8 ≤ x → x ≤ 256 → x % 8 = 0 → 256 - x ≤ 8 * d → Ev (fun k => spec_BlockSize.l0 k n x) (bz d n x) := by
  induction d with
  | zero =>
    intro n x h0 h1 h2 h3
    refine ev_at (fun k => ?_)
    simp only [spec_BlockSize.l0, bz]
    rw [if_neg (show ¬ x < 256 by omega)]
    split <;> rfl
  | succ d ih =>
    intro n x h0 h1 h2 h3
    have hq := sq_rng h0 h1
    have e1 : wrap64 (x * x) = x * x := w64 (by omega) (by omega)
    unfold bz
    by_cases hc : x * x < n ∧ x < 256
    · rw [if_pos hc]
      refine Ev.step (fun k => ?_) (ih n (x + 8) (by omega) (by omega) (by omega) (by omega))
      simp only [spec_BlockSize.l0]
      rw [e1, if_pos hc.1, if_pos hc.2, w64 (by omega) (by omega)]
    · rw [if_neg hc]
      refine ev_at (fun k => ?_)
      simp only [spec_BlockSize.l0]
      rw [e1]
      by_cases ha : x * x < n
      · rw [if_pos ha, if_neg (by omega)]
      · rw [if_neg ha]
theorem impl_bz (d : Nat) : ∀ n x : Int, 8 ≤ x → x ≤ 256 → x % 8 = 0 → 256 - x ≤ 8 * d → Ev (fun k => impl_BlockSize.l0 k n x) (bz d n x) := by
  induction d with
  | zero =>
    intro n x h0 h1 h2 h3
    refine ev_at (fun k => ?_)
    simp only [impl_BlockSize.l0, bz]
    rw [if_neg (show ¬ x < 256 by omega)]
  | succ d ih =>
    intro n x h0 h1 h2 h3
    have hq := sq_rng h0 h1
    have e1 : wrap64 (x * x) = x * x := w64 (by omega) (by omega)
    unfold bz
    by_cases hc : x * x < n ∧ x < 256
    · rw [if_pos hc]
      refine Ev.step (fun k => ?_) (ih n (x + 8) (by omega) (by omega) (by omega) (by omega))
      simp only [impl_BlockSize.l0]
      rw [e1, if_pos hc.1, if_pos hc.2, w64 (by omega) (by omega)]
    · rw [if_neg hc]
      refine ev_at (fun k => ?_)
      simp only [impl_BlockSize.l0]
      rw [e1]
      by_cases ha : x < 256
      · rw [if_pos ha, if_neg (by omega)]
      · rw [if_neg ha]
/-- The blocks of a text. -/
def chk : Nat → ByteArray → Nat → List ByteArray
  | 0, _, _ => []
  | d + 1, s, b => if s.size = 0 then [] else s.extract 0 (min b s.size) :: chk d (s.extract (min b s.size) s.size) b
theorem chk_nil (d : Nat) (s : ByteArray) (b : Nat) (h : s.size = 0) : chk d s b = [] := by
  cases d with
  | zero => rfl
  | succ d => simp only [chk]; rw [if_pos h]
theorem chk_len (b : Nat) (hb : 1 ≤ b) (d : Nat) : ∀ s : ByteArray, s.size ≤ d → (chk d s b).length * b ≤ s.size + b - 1 := by
  induction d with
  | zero => intro s hs; simp [chk]
  | succ d ih =>
    intro s hs
    simp only [chk]
    by_cases h : s.size = 0
    · rw [if_pos h]; simp
    · rw [if_neg h]
      have h1 : (s.extract (min b s.size) s.size).size = s.size - min b s.size := by simp
      have h2 := ih (s.extract (min b s.size) s.size) (by rw [h1]; omega)
      rw [h1] at h2
      rw [List.length_cons, Nat.add_mul, Nat.one_mul]
      by_cases hbs : b ≤ s.size
      · rw [Nat.min_eq_left hbs] at h2 ⊢; omega
      · have h3 : (s.extract (min b s.size) s.size).size = 0 := by rw [h1]; omega
        rw [chk_nil _ _ _ h3]
        simp
        omega
theorem chk_size (b : Nat) (d : Nat) : ∀ s : ByteArray, ∀ x ∈ chk d s b, x.size ≤ b := by
  induction d with
  | zero => intro s x hx; cases hx
  | succ d ih =>
    intro s x hx
    simp only [chk] at hx
    by_cases h : s.size = 0
    · rw [if_pos h] at hx; cases hx
    · rw [if_neg h] at hx
      rcases List.mem_cons.1 hx with rfl | hx
      · simp; omega
      · exact ih _ x hx
theorem ext_self (s : ByteArray) : s.extract 0 s.size = s := ByteArray.extract_zero_size
theorem spec_chk (b : Nat) (hb : 1 ≤ b) (d : Nat) : ∀ (s : ByteArray) (acc : List ByteArray), s.size ≤ d → acc.length + d ≤ 1000000 → Ev (fun k => spec_l05Blocks.l0 k s b acc) (acc ++ chk d s b) := by
  induction d with
  | zero =>
    intro s acc hs hl
    refine ev_at (fun k => ?_)
    simp only [spec_l05Blocks.l0, chk]
    rw [if_neg (by omega), if_neg (by omega), List.append_nil]
  | succ d ih =>
    intro s acc hs hl
    by_cases h1 : (s.size : Int) > b
    · have e : chk (d + 1) s b = s.extract 0 b :: chk d (s.extract b s.size) b := by
        simp only [chk]
        rw [if_neg (by omega), Nat.min_eq_left (by omega)]
      rw [e]
      have h := ih (s.extract b s.size) (acc ++ [s.extract 0 b]) (by simp; omega) (by simp; omega)
      rw [List.append_assoc] at h
      refine Ev.step (fun k => ?_) h
      simp only [spec_l05Blocks.l0]
      rw [if_pos h1, if_pos (by omega), if_pos (by omega), if_pos (by omega), Int.toNat_natCast]
    · refine ev_at (fun k => ?_)
      simp only [spec_l05Blocks.l0]
      rw [if_neg h1]
      by_cases h2 : s.size = 0
      · rw [if_neg (by omega), chk_nil _ _ _ h2, List.append_nil]
      · rw [if_pos (by omega), if_pos (by omega)]
        simp only [chk]
        rw [if_neg h2, Nat.min_eq_right (by omega), ext_self, chk_nil _ _ _ (by simp)]
theorem impl_chk (b : Nat) (hb : 1 ≤ b) (d : Nat) : ∀ (s : ByteArray) (acc : List ByteArray), s.size ≤ d → acc.length + d ≤ 1000000 → Ev (fun k => impl_blocksOf.l0 k s b acc) (acc ++ chk d s b) := by
  induction d with
  | zero =>
    intro s acc hs hl
    refine ev_at (fun k => ?_)
    simp only [impl_blocksOf.l0, chk]
    rw [if_pos ((emp_iff s).2 (by omega)), List.append_nil]
  | succ d ih =>
    intro s acc hs hl
    by_cases h0 : s.size = 0
    · refine ev_at (fun k => ?_)
      simp only [impl_blocksOf.l0]
      rw [if_pos ((emp_iff s).2 h0), chk_nil _ _ _ h0, List.append_nil]
    · have e : chk (d + 1) s b = s.extract 0 (min b s.size) :: chk d (s.extract (min b s.size) s.size) b := by
        simp only [chk]
        rw [if_neg h0]
      have em : mn (b : Int) (s.size : Int) = ((min b s.size : Nat) : Int) := by
        unfold mn
        split <;> omega
      rw [e]
      have h := ih (s.extract (min b s.size) s.size) (acc ++ [s.extract 0 (min b s.size)]) (by simp; omega) (by simp; omega)
      rw [List.append_assoc] at h
      refine Ev.step (fun k => ?_) h
      simp only [impl_blocksOf.l0]
      rw [if_neg (fun hh => h0 ((emp_iff s).1 hh)), em, if_pos (by omega), if_pos (by omega), if_pos (by omega), Int.toNat_natCast]
/-- The weak sum's two counts behind i bytes. -/
def wA (s : ByteArray) : Nat → Int
  | 0 => 0
  | i + 1 => wA s i + bt s i
def wB (s : ByteArray) : Nat → Int
  | 0 => 0
  | i + 1 => wB s i + wA s (i + 1)
theorem wA_rng (s : ByteArray) (i : Nat) : 0 ≤ wA s i ∧ wA s i ≤ 255 * i := by
  induction i with
  | zero => simp [wA]
  | succ i ih => have := bt_range s i; simp only [wA]; omega
theorem wB_rng (s : ByteArray) (i : Nat) (hi : i ≤ 256) : 0 ≤ wB s i ∧ wB s i ≤ 65280 * i := by
  induction i with
  | zero => simp [wB]
  | succ i ih => have := wA_rng s (i + 1); have := ih (by omega); simp only [wB]; omega
def wk (a b : Int) : Int := b % 65536 * 65536 + a % 65536
theorem and16 (x : Int) (h0 : 0 ≤ x) (h1 : x < 4611686018427387904) : Go.bits .and .i64 x 65535 = x % 65536 := by
  have hk : ∀ n : Int, 0 ≤ n → n < 2 ^ 62 → IntKind.i64.wrap n = n := by
    intro n h0 h1
    have e : (2 : Int) ^ 62 = 4611686018427387904 := by decide
    rw [IntKind.wrap_i64]
    omega
  obtain ⟨a, rfl⟩ := Int.eq_ofNat_of_zero_le h0
  have h := (bits_nat .i64 62 (by decide) hk a 65535 (by omega) (by decide)).1
  rw [show ((65535 : Nat) : Int) = 65535 from rfl] at h
  rw [h, show (65535 : Nat) = 2 ^ 16 - 1 from rfl, Nat.and_two_pow_sub_one_eq_mod]
  omega
theorem wr32 : ∀ n : Int, 0 ≤ n → n < 2 ^ 32 → IntKind.u32.wrap n = n := by
  intro n h0 h1
  have e : (2 : Int) ^ 32 = 4294967296 := by decide
  rw [IntKind.wrap_u32]
  omega
theorem impl_wk (a b : Int) (ha : 0 ≤ a) (ha1 : a < 4611686018427387904) (hb : 0 ≤ b) (hb1 : b < 4611686018427387904) : impl_weak.f a b = some (wk a b) := by
  simp only [impl_weak.f]
  rw [and16 a ha ha1, and16 b hb hb1, show (b % 65536 % 4294967296 * 65536) % 4294967296 = b % 65536 * 65536 by omega, show a % 65536 % 4294967296 = a % 65536 by omega]
  rw [bits_join .u32 32 (by decide) wr32 16 (b % 65536 * 65536) (a % 65536) (by omega) (by omega) (by omega) (by omega) (by omega) (by omega)]
  rfl
theorem spec_wk (a b : Int) (ha : 0 ≤ a) (ha1 : a < 4611686018427387904) (hb : 0 ≤ b) (hb1 : b < 4611686018427387904) : spec_l03Pair.f a b = some (wk a b) := by
  simp only [spec_l03Pair.f]
  have e (x : Int) (h0 : 0 ≤ x) (h1 : x < 4611686018427387904) : Int.tmod (wrap64 (Int.tmod x 65536 + 65536)) 65536 = x % 65536 := by
    rw [Int.tmod_eq_emod_of_nonneg h0, w64 (by omega) (by omega), Int.tmod_eq_emod_of_nonneg (by omega)]
    omega
  rw [e a ha ha1, e b hb hb1, w64 (x := b % 65536 * 65536) (by omega) (by omega), w64 (by omega) (by omega)]
  unfold wk
  congr 1
  omega
theorem impl_weakOf (s : ByteArray) (hs : s.size ≤ 256) : Ev (fun k => impl_weakOf.f k s) (wk (wA s s.size) (wB s s.size)) := by
  suffices h : ∀ (d i : Nat), i + d = s.size → Ev (fun k => impl_weakOf.l0 k s (wA s i) (wB s i) s.size i) (wk (wA s s.size) (wB s s.size)) from Ev.congr (fun k => rfl) (h s.size 0 (by omega))
  intro d
  induction d with
  | zero =>
    intro i hi
    obtain rfl : i = s.size := by omega
    have h1 := wA_rng s s.size
    have h2 := wB_rng s s.size hs
    refine ev_at (fun k => ?_)
    simp only [impl_weakOf.l0]
    rw [if_neg (by omega), impl_wk _ _ h1.1 (by omega) h2.1 (by omega)]
    rfl
  | succ d ih =>
    intro i hi
    have h := ih (i + 1) (by omega)
    have h1 := wA_rng s (i + 1)
    have h2 := wB_rng s (i + 1) (by omega)
    have hb := bt_range s i
    refine Ev.step (fun k => ?_) h
    simp only [impl_weakOf.l0]
    rw [if_pos (by omega), if_pos (by omega), if_pos (by omega)]
    simp only [wA, wB] at h1 h2 ⊢
    rw [w64 (x := bt s i) (by omega) (by omega), w64 (x := wA s i + bt s i) (by omega) (by omega), w64 (x := wB s i + (wA s i + bt s i)) (by omega) (by omega), w64 (x := (i : Int) + 1) (by omega) (by omega)]
    rfl
theorem spec_weakOf (s : ByteArray) (hs : s.size ≤ 256) : Ev (fun k => spec_WeakOf.f k s) (wk (wA s s.size) (wB s s.size)) := by
  suffices h : ∀ (d i : Nat), i + d = s.size → Ev (fun k => spec_WeakOf.l0 k s (wA s i) (wB s i + ((s.size : Int) - i) * wA s i) i) (wk (wA s s.size) (wB s s.size)) from
    Ev.congr (fun k => by simp only [spec_WeakOf.f]; rw [if_neg (by omega)]; simp [wA, wB]) (h s.size 0 (by omega))
  intro d
  induction d with
  | zero =>
    intro i hi
    obtain rfl : i = s.size := by omega
    have h1 := wA_rng s s.size
    have h2 := wB_rng s s.size hs
    refine ev_at (fun k => ?_)
    simp only [spec_WeakOf.l0]
    rw [if_neg (by omega), Int.sub_self, Int.zero_mul, Int.add_zero, spec_wk _ _ h1.1 (by omega) h2.1 (by omega)]
    rfl
  | succ d ih =>
    intro i hi
    have h := ih (i + 1) (by omega)
    have h1 := wA_rng s (i + 1)
    have h2 := wB_rng s (i + 1) (by omega)
    have h1' := wA_rng s i
    have h2' := wB_rng s i (by omega)
    have hb := bt_range s i
    obtain ⟨m, hm⟩ : ∃ m : Int, m = (s.size : Int) - i := ⟨_, rfl⟩
    have hm1 : 1 ≤ m := by omega
    have hm2 : m ≤ 256 := by omega
    have p1 : 0 ≤ m * bt s i := Int.mul_nonneg (by omega) hb.1
    have p2 : m * bt s i ≤ 256 * 255 := Int.mul_le_mul hm2 hb.2 hb.1 (by decide)
    have p3 : 0 ≤ m * wA s i := Int.mul_nonneg (by omega) h1'.1
    have p4 : m * wA s i ≤ 256 * 65280 := Int.mul_le_mul hm2 (by omega) h1'.1 (by decide)
    have e : wB s i + m * wA s i + m * bt s i = wB s (i + 1) + ((s.size : Int) - ((i + 1 : Nat) : Int)) * wA s (i + 1) := by
      rw [show (s.size : Int) - ((i + 1 : Nat) : Int) = m - 1 by omega]
      simp only [wB, wA]
      rw [Int.sub_mul, Int.mul_add]
      omega
    rw [← e] at h
    refine Ev.step (fun k => ?_) h
    simp only [spec_WeakOf.l0]
    rw [if_pos (by omega), if_pos (by omega)]
    rw [← hm, w64 (x := bt s i) (by omega) (by omega), w64 (x := wA s i + bt s i) (by omega) (by omega), w64 (x := m) (by omega) (by omega), w64 (x := m * bt s i) (by omega) (by omega), w64 (x := wB s i + m * wA s i + m * bt s i) (by omega) (by omega), w64 (x := (i : Int) + 1) (by omega) (by omega)]
    rfl
def sws (bs : List ByteArray) : List Int := bs.map fun s => wk (wA s s.size) (wB s s.size)
def sss (x : Int) (bs : List ByteArray) : List ByteArray := bs.map fun s => (XS.strong (strOfNums (XS.w4 x) ++ s)).extract 0 4
theorem impl_shorts (x : Int) (s : ByteArray) (hs : s.size ≤ 19996) : impl_short.f x s 4 = some ((XS.strong (strOfNums (XS.w4 x) ++ s)).extract 0 4) := by
  have e : (strOfNums (XS.w4 x)).size = 4 := rfl
  have e1 : (strOfNums (XS.w4 x) ++ s).size = 4 + s.size := by rw [ByteArray.size_append, e]
  have e2 : (XS.strong (strOfNums (XS.w4 x) ++ s)).size = 16 := rfl
  unfold impl_short.f impl_wordText.f
  simp only [Option.bind_some]
  rw [show ([x % 256, x / 256 % 256, x / 65536 % 256, x / 16777216 % 256] : List Int) = XS.w4 x from rfl, if_pos (by rw [e]; omega)]
  simp only [impl_strong.f]
  rw [if_pos (by rw [e1]; omega), Option.bind_some, if_pos (by decide), if_pos (by rw [e2]; decide)]
  rfl
theorem spec_shorts (x : Int) (hx0 : 0 ≤ x) (hx1 : x < 4294967296) (s : ByteArray) (hs : s.size ≤ 19996) : spec_ShortSum.f x s 4 = some ((XS.strong (strOfNums (XS.w4 x) ++ s)).extract 0 4) := by
  unfold spec_ShortSum.f
  rw [if_pos ⟨hx0, hx1, by decide, by decide, hs⟩]
  rfl
theorem rdS_mid (pre : List ByteArray) (x : ByteArray) (t : List ByteArray) {i : Int} (hi : i = pre.length) : rdOf ByteArray.empty (pre ++ x :: t) i = x := by
  subst hi
  simp [rdOf]
theorem spec_sl (x b r : Int) (hx0 : 0 ≤ x) (hx1 : x < 4294967296) (suf : List ByteArray) : ∀ (pre : List ByteArray) (ws : List Int) (ss : List ByteArray) (i : Int), i = pre.length → (∀ y ∈ suf, y.size ≤ 256) → pre.length + suf.length ≤ 1000000 → ws.length + suf.length ≤ 1000000 → ss.length + suf.length ≤ 1000000 →
    Ev (fun k => spec_SigOf.l0 k x (pre ++ suf) i b r ws ss) (b, r, ws ++ sws suf, ss ++ sss x suf, true) := by
  induction suf with
  | nil =>
    intro pre ws ss i hi hs h1 h2 h3
    refine ev_at (fun k => ?_)
    simp only [spec_SigOf.l0]
    rw [if_neg (by simp; omega)]
    simp [sws, sss]
  | cons y t ih =>
    intro pre ws ss i hi hs h1 h2 h3
    simp only [List.length_cons] at h1 h2 h3
    have hy := hs y (List.mem_cons_self ..)
    have h := ih (pre ++ [y]) (ws ++ [wk (wA y y.size) (wB y y.size)]) (ss ++ [(XS.strong (strOfNums (XS.w4 x) ++ y)).extract 0 4]) (i + 1) (by simp; omega) (fun z hz => hs z (List.mem_cons_of_mem _ hz)) (by simp; omega) (by simp; omega) (by simp; omega)
    have e : (b, r, ws ++ sws (y :: t), ss ++ sss x (y :: t), true) = (b, r, (ws ++ [wk (wA y y.size) (wB y y.size)]) ++ sws t, (ss ++ [(XS.strong (strOfNums (XS.w4 x) ++ y)).extract 0 4]) ++ sss x t, true) := by simp [sws, sss]
    rw [e]
    refine Ev.step (f := fun k => (spec_WeakOf.f k y).bind fun q => spec_SigOf.l0 k x (pre ++ y :: t) (i + 1) b r (ws ++ [q]) (ss ++ [(XS.strong (strOfNums (XS.w4 x) ++ y)).extract 0 4])) (fun k => ?_) (Ev.bind (spec_weakOf y hy) (by simpa using h))
    simp only [spec_SigOf.l0]
    rw [if_pos (by simp; omega), if_pos (by omega), rdS_mid pre y t hi]
    congr 1
    funext q
    rw [if_pos (by omega), spec_shorts x hx0 hx1 y (by omega), Option.bind_some, if_pos (by omega), w64 (by omega) (by omega)]
theorem impl_sl (x b r n : Int) (suf : List ByteArray) : ∀ (pre : List ByteArray) (ws : List Int) (ss : List ByteArray) (i : Int), i = pre.length → n = ((pre ++ suf).length : Int) → (∀ y ∈ suf, y.size ≤ 256) → pre.length + suf.length ≤ 1000000 → ws.length + suf.length ≤ 1000000 → ss.length + suf.length ≤ 1000000 →
    Ev (fun k => impl_SigOf.l0 k x (pre ++ suf) n i b r ws ss) (b, r, ws ++ sws suf, ss ++ sss x suf, true) := by
  induction suf with
  | nil =>
    intro pre ws ss i hi hn hs h1 h2 h3
    refine ev_at (fun k => ?_)
    simp only [impl_SigOf.l0]
    rw [if_neg (by rw [hn]; simp; omega)]
    simp [sws, sss]
  | cons y t ih =>
    intro pre ws ss i hi hn hs h1 h2 h3
    simp only [List.length_cons] at h1 h2 h3
    have hy := hs y (List.mem_cons_self ..)
    have h := ih (pre ++ [y]) (ws ++ [wk (wA y y.size) (wB y y.size)]) (ss ++ [(XS.strong (strOfNums (XS.w4 x) ++ y)).extract 0 4]) (i + 1) (by simp; omega) (by rw [hn]; simp) (fun z hz => hs z (List.mem_cons_of_mem _ hz)) (by simp; omega) (by simp; omega) (by simp; omega)
    have e : (b, r, ws ++ sws (y :: t), ss ++ sss x (y :: t), true) = (b, r, (ws ++ [wk (wA y y.size) (wB y y.size)]) ++ sws t, (ss ++ [(XS.strong (strOfNums (XS.w4 x) ++ y)).extract 0 4]) ++ sss x t, true) := by simp [sws, sss]
    rw [e]
    refine Ev.step (f := fun k => (impl_weakOf.f k y).bind fun q => impl_SigOf.l0 k x (pre ++ y :: t) n (i + 1) b r (ws ++ [q]) (ss ++ [(XS.strong (strOfNums (XS.w4 x) ++ y)).extract 0 4])) (fun k => ?_) (Ev.bind (impl_weakOf y hy) (by simpa using h))
    simp only [impl_SigOf.l0]
    rw [if_pos (by rw [hn]; simp; omega), if_pos (by omega), if_pos (by simp; omega), rdS_mid pre y t hi]
    congr 1
    funext q
    rw [if_pos (by omega), impl_shorts x y (by omega), Option.bind_some, if_pos (by omega), w64 (by omega) (by omega)]
def sgc (s : ByteArray) (b : Int) : Prop := 1 ≤ b ∧ b ≤ 256 ∧ s.size ≤ 20000 ∧ (s.size : Int) ≤ b * 2500
def sgv (s : ByteArray) (b x : Int) : Int × Int × List Int × List ByteArray × Bool := (b, (s.size : Int) % b, sws (chk s.size s b.toNat), sss x (chk s.size s b.toNat), true)
def sgz : Int × Int × List Int × List ByteArray × Bool := (0, 0, [], [], false)
theorem chk_some (s : ByteArray) (b : Int) (h : sgc s b) : (chk s.size s b.toNat).length ≤ 2500 := by
  obtain ⟨h1, h2, h3, h4⟩ := h
  obtain ⟨m, rfl⟩ := Int.eq_ofNat_of_zero_le (show 0 ≤ b by omega)
  have h := chk_len m (by omega) s.size s (Nat.le_refl _)
  rw [Int.toNat_natCast]
  have : (chk s.size s m).length * m < 2501 * m := by omega
  exact Nat.lt_succ_iff.1 (Nat.lt_of_mul_lt_mul_right this)
theorem div_cond (n b : Int) (h0 : 0 ≤ n) (h1 : 1 ≤ b) (hn : n ≤ 20000) (hb : b ≤ 256) : wrap64 (Int.tdiv (wrap64 ((wrap64 (n + b)) - 1)) b) > 2500 ↔ ¬ n ≤ b * 2500 := by
  rw [w64 (x := n + b) (by omega) (by omega), w64 (x := n + b - 1) (by omega) (by omega), Int.tdiv_eq_ediv_of_nonneg (by omega)]
  have hd0 : 0 ≤ (n + b - 1) / b := Int.ediv_nonneg (by omega) (by omega)
  have hd1 : (n + b - 1) / b ≤ n + b - 1 := Int.ediv_le_self _ (by omega)
  rw [w64 (by omega) (by omega)]
  have h := Int.le_ediv_iff_mul_le (a := 2501) (b := n + b - 1) (c := b) (by omega)
  constructor
  · intro hh hle
    have := h.1 (by omega)
    omega
  · intro hh
    have := h.2 (by omega)
    omega
theorem spec_sig (s : ByteArray) (b x : Int) (hx0 : 0 ≤ x) (hx1 : x < 4294967296) (r) (h : sgc s b ∧ r = sgv s b x ∨ ¬ sgc s b ∧ r = sgz) : Ev (fun k => spec_SigOf.f k s b x) r := by
  have hz : Ev (fun k => spec_SigOf.j0 k s b x true) sgz := ev_at (fun k => by simp only [spec_SigOf.j0]; rw [if_pos trivial]; rfl)
  unfold spec_SigOf.f spec_l01In.f
  by_cases h1 : b ≥ 1
  · by_cases h2 : b ≤ 256
    · refine Ev.congr (fun k => by rw [if_pos h1, Option.bind_some, if_pos (decide_eq_true h2)]) ?_
      by_cases h3 : (s.size : Int) > 20000
      · obtain ⟨_, rfl⟩ | ⟨_, rfl⟩ := h
        · rename_i hc; unfold sgc at hc; omega
        · exact Ev.congr (fun k => by rw [if_pos h3]) hz
      · have hd := div_cond (s.size : Int) b (by omega) h1 (by omega) h2
        refine Ev.congr (fun k => by rw [if_neg h3, if_neg (by omega)]) ?_
        by_cases h4 : (s.size : Int) ≤ b * 2500
        · have hc : sgc s b := ⟨h1, h2, by omega, h4⟩
          obtain ⟨_, rfl⟩ | ⟨hn, rfl⟩ := h
          · have hl := chk_some s b hc
            obtain ⟨m, rfl⟩ := Int.eq_ofNat_of_zero_le (show 0 ≤ b by omega)
            rw [decide_eq_false (fun hh => (hd.1 hh) h4)]
            rw [Int.toNat_natCast] at hl
            have hb := spec_chk m (by omega) s.size s [] (Nat.le_refl _) (by simp; omega)
            rw [List.nil_append] at hb
            have hq := spec_sl x m ((s.size : Int) % m) hx0 hx1 (chk s.size s m) [] [] [] 0 rfl (fun y hy => Nat.le_trans (chk_size _ _ _ y hy) (by omega)) (by simp; omega) (by simp; omega) (by simp; omega)
            refine Ev.step (f := fun k => (spec_l05Blocks.f k s m).bind fun t => spec_SigOf.l0 k x t 0 m ((s.size : Int) % m) [] []) (fun k => ?_) (Ev.bind (Ev.congr (fun k => rfl) hb) ?_)
            · simp only [spec_SigOf.j0]
              rw [if_neg (by decide), if_neg (by omega)]
            · exact hq
          · exact absurd hc hn
        · rw [decide_eq_true (hd.2 h4)]
          obtain ⟨hc, rfl⟩ | ⟨_, rfl⟩ := h
          · exact absurd hc.2.2.2 h4
          · exact hz
    · obtain ⟨hc, rfl⟩ | ⟨_, rfl⟩ := h
      · exact absurd hc.2.1 h2
      · exact Ev.congr (fun k => by rw [if_pos h1, Option.bind_some, if_neg (by simpa using h2)]) hz
  · obtain ⟨hc, rfl⟩ | ⟨_, rfl⟩ := h
    · exact absurd hc.1 h1
    · exact Ev.congr (fun k => by rw [if_neg h1, Option.bind_some, if_neg (by decide)]) hz
theorem impl_sig (s : ByteArray) (b x : Int) (r) (h : sgc s b ∧ r = sgv s b x ∨ ¬ sgc s b ∧ r = sgz) : Ev (fun k => impl_SigOf.f k s b x) r := by
  have hz : Ev (fun k => impl_SigOf.j0 k s b x true) sgz := ev_at (fun k => by simp only [impl_SigOf.j0]; rw [if_pos trivial]; rfl)
  unfold impl_SigOf.f impl_within.f
  by_cases h1 : b ≥ 1
  · by_cases h2 : b ≤ 256
    · refine Ev.congr (fun k => by rw [if_pos h1, Option.bind_some, if_pos (decide_eq_true h2)]) ?_
      by_cases h3 : (s.size : Int) > 20000
      · obtain ⟨hc, rfl⟩ | ⟨_, rfl⟩ := h
        · unfold sgc at hc; omega
        · exact Ev.congr (fun k => by rw [if_pos h3]) hz
      · refine Ev.congr (fun k => by rw [if_neg h3, w64 (x := b * 2500) (by omega) (by omega)]) ?_
        by_cases h4 : (s.size : Int) ≤ b * 2500
        · have hc : sgc s b := ⟨h1, h2, by omega, h4⟩
          obtain ⟨_, rfl⟩ | ⟨hn, rfl⟩ := h
          · have hl := chk_some s b hc
            obtain ⟨m, rfl⟩ := Int.eq_ofNat_of_zero_le (show 0 ≤ b by omega)
            rw [decide_eq_false (by omega)]
            rw [Int.toNat_natCast] at hl
            have hb := impl_chk m (by omega) s.size s [] (Nat.le_refl _) (by simp; omega)
            rw [List.nil_append] at hb
            have hq := impl_sl x m ((s.size : Int) % m) _ (chk s.size s m) [] [] [] 0 rfl rfl (fun y hy => Nat.le_trans (chk_size _ _ _ y hy) (by omega)) (by simp; omega) (by simp; omega) (by simp; omega)
            refine Ev.step (f := fun k => (impl_blocksOf.f k s m).bind fun t => impl_SigOf.l0 k x t (t.length : Int) 0 m ((s.size : Int) % m) [] []) (fun k => ?_) (Ev.bind (Ev.congr (fun k => rfl) hb) ?_)
            · simp only [impl_SigOf.j0]
              rw [if_neg (by decide), if_neg (by omega)]
            · exact hq
          · exact absurd hc hn
        · rw [decide_eq_true (show (s.size : Int) > b * 2500 by omega)]
          obtain ⟨hc, rfl⟩ | ⟨_, rfl⟩ := h
          · exact absurd hc.2.2.2 h4
          · exact hz
    · obtain ⟨hc, rfl⟩ | ⟨_, rfl⟩ := h
      · exact absurd hc.2.1 h2
      · exact Ev.congr (fun k => by rw [if_pos h1, Option.bind_some, if_neg (by simpa using h2)]) hz
  · obtain ⟨hc, rfl⟩ | ⟨_, rfl⟩ := h
    · exact absurd hc.1 h1
    · exact Ev.congr (fun k => by rw [if_neg h1, Option.bind_some, if_neg (by decide)]) hz
theorem eqSigS (a b : Int) (ws : List Int) (ss : List ByteArray) (hw : ws.length ≤ 2500) (hs : ss.length ≤ 2500) : Ev (fun k => laws_eqSig.f k a b ws ss a b ws ss) true := by
  refine Ev.congr (fun k => by simp only [laws_eqSig.f]; rw [if_pos trivial, if_pos trivial]) (Ev.bind (eqUS ws (by omega)) ?_)
  refine Ev.congr (fun k => by rw [if_pos rfl]) (Ev.bind (eqStrS ss (by omega)) (ev_ret (fun k => by rw [if_pos rfl])))
theorem markSigS (a b : Int) (ws : List Int) (ss : List ByteArray) (hw : ws.length ≤ 2500) (hs : ss.length ≤ 2500) : Ev (fun k => laws_markSig.f k a b ws ss 1) (1 + (ws.length : Int) + (ss.length : Int), mkU 1 ws, mkT (1 + (ws.length : Int)) ss) := by
  refine Ev.bind (markUS ws 1 (by decide) (by omega)) ?_
  exact Ev.bind (markTS ss _ (by omega) (by omega)) (ev_ret (fun k => rfl))
theorem heldSigS (a b : Int) (ws : List Int) (ss : List ByteArray) (hw : ws.length ≤ 2500) (hs : ss.length ≤ 2500) : Ev (fun k => laws_heldSig.f k a b (mkU 1 ws) (mkT (1 + (ws.length : Int)) ss) 1) (1 + (ws.length : Int) + (ss.length : Int)) := by
  refine Ev.bind (heldUS ws 1 (by decide) (by omega)) ?_
  refine Ev.congr (fun k => by rw [if_neg (by omega)]) (Ev.bind (heldTS ss _ (by omega) (by omega)) (ev_ret (fun k => by rw [if_neg (by omega)])))
theorem eqTok0 : Ev (fun k => laws_eqTokenS.f k [] []) true := Ev.congr (fun k => by simp only [laws_eqTokenS.f]; rw [if_pos trivial]) (ev_at (fun k => by simp only [laws_eqTokenS.l0]; rw [if_neg (by simp)]))
theorem mkTok0 (m : Int) : Ev (fun k => laws_markTokenS.f k [] m) (m, []) := ev_at (fun k => by simp only [laws_markTokenS.f, laws_markTokenS.l0]; rw [if_neg (by simp)])
theorem hdTok0 (m : Int) : Ev (fun k => laws_heldTokenS.f k [] m) m := ev_at (fun k => by simp only [laws_heldTokenS.f, laws_heldTokenS.l0]; rw [if_neg (by simp)])
theorem eqMsg0 (a b c d : Int) (ws : List Int) (ss : List ByteArray) (hw : ws.length ≤ 2500) (hs : ss.length ≤ 2500) : Ev (fun k => laws_eqMsg.f k a b c d ws ss [] (⟨#[]⟩ : ByteArray) a b c d ws ss [] (⟨#[]⟩ : ByteArray)) true := by
  refine Ev.congr (fun k => by simp only [laws_eqMsg.f]; rw [if_pos trivial, if_pos trivial]) (Ev.bind (eqSigS c d ws ss hw hs) ?_)
  refine Ev.congr (fun k => by rw [if_pos rfl]) (Ev.bind eqTok0 (ev_ret (fun k => by rw [if_pos rfl]; simp)))
theorem markMsg0 (a b c d : Int) (ws : List Int) (ss : List ByteArray) (hw : ws.length ≤ 2500) (hs : ss.length ≤ 2500) : Ev (fun k => laws_markMsg.f k a b c d ws ss [] (⟨#[]⟩ : ByteArray) 1) (1 + (ws.length : Int) + (ss.length : Int), mkU 1 ws, mkT (1 + (ws.length : Int)) ss, []) := by
  refine Ev.bind (markSigS c d ws ss hw hs) ?_
  exact Ev.bind (mkTok0 _) (ev_ret (fun k => rfl))
theorem heldMsg0 (a b c d : Int) (ws : List Int) (ss : List ByteArray) (hw : ws.length ≤ 2500) (hs : ss.length ≤ 2500) : Ev (fun k => laws_heldMsg.f k a b c d (mkU 1 ws) (mkT (1 + (ws.length : Int)) ss) [] (⟨#[]⟩ : ByteArray) 1) (1 + (ws.length : Int) + (ss.length : Int)) := by
  refine Ev.bind (heldSigS c d ws ss hw hs) ?_
  refine Ev.congr (fun k => by rw [if_neg (by omega)]) (Ev.bind (hdTok0 _) (ev_ret (fun k => by rw [if_neg (by omega)])))
def av (n a b c : Int) (ws : List Int) (ss : List ByteArray) (ok : Bool) : Int × Int × Int × Int × List Int × List ByteArray × (List (S130)) × ByteArray × Bool := (n, a, b, c, ws, ss, [], ⟨#[]⟩, ok)
def bzv (s : ByteArray) : Int := bz 31 s.size 8
theorem ask (a0 : Int) (s : ByteArray) (x : Int) (hx0 : 0 ≤ x) (hx1 : x < 4294967296) : ∃ n a b c ws ss ok, ws.length ≤ 2500 ∧ ss.length ≤ 2500 ∧ Ev (fun k => spec_AskFor.f k a0 s x) (av n a b c ws ss ok) ∧ Ev (fun k => impl_AskFor.f k a0 s x) (av n a b c ws ss ok) := by
  by_cases hc : (0 ≤ a0 ∧ a0 ≤ 1000) ∧ s.size ≤ 20000
  · obtain ⟨⟨h1, h2⟩, h3⟩ := hc
    have hr := bz_rng 31 s.size 8 (by decide) (by decide) (by decide)
    have hS := spec_bz 31 s.size 8 (by decide) (by decide) (by decide) (by decide)
    have hI := impl_bz 31 s.size 8 (by decide) (by decide) (by decide) (by decide)
    generalize bz 31 s.size 8 = b at hr hS hI
    have hg : sgc s b := ⟨by omega, by omega, h3, by omega⟩
    have hl := chk_some s b hg
    have qS := spec_sig s b x hx0 hx1 _ (.inl ⟨hg, rfl⟩)
    have qI := impl_sig s b x _ (.inl ⟨hg, rfl⟩)
    refine ⟨0, a0, b, (s.size : Int) % b, sws (chk s.size s b.toNat), sss x (chk s.size s b.toNat), true, by simpa [sws] using hl, by simpa [sss] using hl, ?_, ?_⟩
    · unfold spec_AskFor.f spec_l01In.f
      refine Ev.congr (fun k => by rw [if_pos h1, Option.bind_some, if_pos (decide_eq_true h2), decide_eq_false (by omega)]) ?_
      refine Ev.step (f := fun k => (spec_BlockSize.f k (s.size : Int)).bind fun t => (spec_SigOf.f k s t x).bind fun bt => some (av 0 a0 bt.1 bt.2.1 bt.2.2.1 bt.2.2.2.1 true)) (fun k => by simp only [spec_AskFor.j0]; rw [if_neg (by decide)]; rfl) (Ev.bind (Ev.congr (fun k => rfl) hS) (Ev.bind qS (ev_ret (fun k => rfl))))
    · unfold impl_AskFor.f impl_within.f
      refine Ev.congr (fun k => by rw [if_pos h1, Option.bind_some, if_pos (decide_eq_true h2), decide_eq_false (by omega)]) ?_
      refine Ev.step (f := fun k => (impl_BlockSize.f k (s.size : Int)).bind fun t => (impl_SigOf.f k s t x).bind fun bt => if bt.2.2.2.2 = true then some (av 0 a0 bt.1 bt.2.1 bt.2.2.1 bt.2.2.2.1 true) else some (av 0 0 0 0 [] [] false)) (fun k => by simp only [impl_AskFor.j0]; rw [if_neg (by decide)]; rfl) (Ev.bind (Ev.congr (fun k => rfl) hI) (Ev.bind qI (ev_ret (fun k => if_pos rfl))))
  · have zS : Ev (fun k => spec_AskFor.j0 k a0 s x true) (av 0 0 0 0 [] [] false) := ev_at (fun k => by simp only [spec_AskFor.j0]; rw [if_pos trivial]; rfl)
    have zI : Ev (fun k => impl_AskFor.j0 k a0 s x true) (av 0 0 0 0 [] [] false) := ev_at (fun k => by simp only [impl_AskFor.j0]; rw [if_pos trivial]; rfl)
    refine ⟨0, 0, 0, 0, [], [], false, by simp, by simp, ?_, ?_⟩
    · unfold spec_AskFor.f spec_l01In.f
      by_cases h1 : a0 ≥ 0
      · by_cases h2 : a0 ≤ 1000
        · exact Ev.congr (fun k => by rw [if_pos h1, Option.bind_some, if_pos (decide_eq_true h2), decide_eq_true (by omega)]) zS
        · exact Ev.congr (fun k => by rw [if_pos h1, Option.bind_some, if_neg (by simpa using h2)]) zS
      · exact Ev.congr (fun k => by rw [if_neg h1, Option.bind_some, if_neg (by decide)]) zS
    · unfold impl_AskFor.f impl_within.f
      by_cases h1 : a0 ≥ 0
      · by_cases h2 : a0 ≤ 1000
        · exact Ev.congr (fun k => by rw [if_pos h1, Option.bind_some, if_pos (decide_eq_true h2), decide_eq_true (by omega)]) zI
        · exact Ev.congr (fun k => by rw [if_pos h1, Option.bind_some, if_neg (by simpa using h2)]) zI
      · exact Ev.congr (fun k => by rw [if_neg h1, Option.bind_some, if_neg (by decide)]) zI
theorem lit_u32 {x : Int} (h : (Lit.int .u32 x).wf = true) : 0 ≤ x ∧ x < 4294967296 := by
  simp only [Lit.wf, Bool.and_eq_true, decide_eq_true_eq] at h
  have e1 : IntKind.u32.min = 0 := rfl
  have e2 : IntKind.u32.max = 4294967295 := by decide
  omega
theorem FnExactAskFor : laws_FnExactAskFor.Pure := by
  intro a0 a1 a2 _ _ h2
  obtain ⟨hx0, hx1⟩ := lit_u32 h2
  refine Ev.rounds ?_
  unfold laws_FnExactAskFor.f
  by_cases hbig : (a1.size : Int) > 1048576
  · exact ev_ret (fun k => by rw [if_pos hbig])
  obtain ⟨n, a, b, c, ws, ss, ok, hw, hs, hS, hI⟩ := ask a0 a1 a2 hx0 hx1
  have he := eqMsg0 n a b c ws ss hw hs
  have hm := markMsg0 n a b c ws ss hw hs
  have hh := heldMsg0 n a b c ws ss hw hs
  have e1 : (ok != ok) = false := by simp
  have hj1 : Ev (fun k => laws_FnExactAskFor.j1 k (1 + (ws.length : Int) + (ss.length : Int)) false n a b c (mkU 1 ws) (mkT (1 + (ws.length : Int)) ss) [] (⟨#[]⟩ : ByteArray)) true := by
    refine Ev.step (fun k => by simp only [laws_FnExactAskFor.j1]; rw [if_neg (by decide)]) (Ev.bind hh ?_)
    exact ev_ret (fun k => by rw [if_neg (by omega), if_pos rfl])
  have hj0 : Ev (fun k => laws_FnExactAskFor.j0 k a0 a1 a2 ok false n a b c ws ss [] (⟨#[]⟩ : ByteArray) n a b c ws ss [] (⟨#[]⟩ : ByteArray)) true := by
    refine Ev.step (fun k => by simp only [laws_FnExactAskFor.j0]; rw [if_neg (by decide)]) (Ev.bind hm (Ev.bind hh ?_))
    refine Ev.congr (fun k => by rw [if_neg (by omega), if_pos rfl]) (Ev.bind hI (Ev.bind he ?_))
    exact Ev.congr (fun k => by rw [if_pos rfl, show ((av n a b c ws ss ok).2.2.2.2.2.2.2.2 != ok) = false from e1]) hj1
  refine Ev.congr (fun k => by rw [if_neg hbig]) (Ev.bind hS (Ev.bind hI (Ev.bind he ?_)))
  exact Ev.congr (fun k => by rw [if_pos rfl, show ((av n a b c ws ss ok).2.2.2.2.2.2.2.2 != (av n a b c ws ss ok).2.2.2.2.2.2.2.2) = false from e1]; rfl) hj0
end Go.Proofs.YtphlmaaplaaopaaDoor.Pure
