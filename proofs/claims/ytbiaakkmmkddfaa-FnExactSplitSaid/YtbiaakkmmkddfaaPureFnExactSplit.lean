/- The program's Split answers as the reference's, at all bytes and all cuts; it writes into no argument, and its answer is its own, behind a second call too. No condition beside the form's own reach. -/
import Derived.Test.YtbiaakkmmkddfaaPFnExactSplitx3
namespace Go.Proofs.Ytbiaakkmmkddfaa.Pure
open Go.RowKit Go.Proofs.Ytbiaakkmmkddfaa.PFnExactSplit Go.Proofs.YtbiaakkmmkddfaaW.PrintWords Go.Proofs.YtbiaakkmmkddfaaW.PrintLast Go.Proofs.YtbiaakkmmkddfaaW.PrintMore
theorem w64 {x : Int} (h0 : -9223372036854775808 ≤ x) (h1 : x ≤ 9223372036854775807) : wrap64 x = x := by unfold wrap64; omega
theorem emp_iff (s : ByteArray) : s.toList = ([] : List UInt8) ↔ s.size = 0 := by
  rw [ByteArray.toList_eq]
  obtain ⟨⟨d⟩⟩ := s
  cases d <;> simp [ByteArray.size]
theorem ev_at {α : Type} {g : Nat → Option α} {r : α} (h : ∀ k, g (k + 1) = some r) : Ev g r := ⟨1, fun k hk => by
  obtain ⟨j, rfl⟩ : ∃ j, k = j + 1 := ⟨k - 1, by omega⟩
  exact h j⟩
theorem ev_ret {α : Type} {g : Nat → Option α} {r : α} (h : ∀ k, g k = some r) : Ev g r := ⟨0, fun k _ => h k⟩
theorem ev_det {α : Type} {g : Nat → Option α} {r s : α} (h : Ev g r) (k : Ev g s) : r = s := by
  obtain ⟨K, h⟩ := h
  obtain ⟨L, k⟩ := k
  have h1 := h (K + L) (by omega)
  have h2 := k (K + L) (by omega)
  rw [h1] at h2
  exact Option.some.inj h2
theorem ba_ext {a b : ByteArray} (h : a.toList = b.toList) : a = b := by
  rw [ByteArray.toList_eq, ByteArray.toList_eq] at h
  exact ByteArray.ext (Array.toList_inj.1 h)
theorem bytesOf_append (a b : ByteArray) : bytesOf (a ++ b) = bytesOf a ++ bytesOf b := by simp [bytesOf, ByteArray.data_append]
theorem strOf_bytesOf (s : ByteArray) : strOfNums (bytesOf s) = s := by
  apply ByteArray.ext
  apply Array.toList_inj.1
  rw [strOfNums_data, bytesOf, List.map_map]
  exact (List.map_congr_left (fun b _ => by simp)).trans (List.map_id _)
theorem bytesOf_inj {a b : ByteArray} (h : bytesOf a = bytesOf b) : a = b := by rw [← strOf_bytesOf a, h, strOf_bytesOf]
theorem tdiv10 {n : Int} (h0 : 0 < n) (h1 : n ≤ 9223372036854775807) : wrap64 (Int.tdiv n 10) = n / 10 := by
  rw [Int.tdiv_eq_ediv_of_nonneg (by omega)]
  exact w64 (by omega) (by omega)
theorem one_size (x : Int) : (strOfNums [x]).size = 1 := by rw [strOfNums_size]; rfl
theorem mark_l0 (d : Nat) : ∀ (n : Int) (s : ByteArray), n < 10 ^ d → n ≤ 9223372036854775807 → s.size + d ≤ 1000 → ∃ r, Ev (fun k => laws_markText.l0 k n s) r := by
  induction d with
  | zero =>
    intro n s hn _ hs
    exact ⟨(⟨#[109]⟩ : ByteArray) ++ s, ev_at (fun k => by simp only [laws_markText.l0]; rw [if_neg (by simp at hn; omega), if_pos (by omega)])⟩
  | succ d ih =>
    intro n s hn hb hs
    by_cases h0 : n > 0
    · have hsz : (strOfNums [(wrap64 (48 + (Int.tmod n 10))) % 256] ++ s).size = 1 + s.size := by rw [ByteArray.size_append, one_size]
      obtain ⟨r, h⟩ := ih (n / 10) (strOfNums [(wrap64 (48 + (Int.tmod n 10))) % 256] ++ s) (by rw [Int.pow_succ] at hn; omega) (by omega) (by omega)
      refine ⟨r, Ev.step (fun k => ?_) h⟩
      simp only [laws_markText.l0]
      rw [if_pos h0]
      simp only [Option.bind_some]
      rw [if_pos (by rw [one_size]; omega), tdiv10 h0 hb]
    · exact ⟨(⟨#[109]⟩ : ByteArray) ++ s, ev_at (fun k => by simp only [laws_markText.l0]; rw [if_neg h0, if_pos (by omega)])⟩
theorem mark_total {n : Int} (hn : n ≤ 9223372036854775807) : ∃ r, Ev (fun k => laws_markText.f k n) r := by
  by_cases h : n ≤ 0
  · exact ⟨_, 0, fun k _ => by simp only [laws_markText.f]; rw [if_pos h]⟩
  · obtain ⟨r, hr⟩ := mark_l0 19 n ⟨#[]⟩ (by have : (10 : Int) ^ 19 = 10000000000000000000 := by decide
                                             omega) hn (by decide)
    exact ⟨r, Ev.congr (fun k => by simp only [laws_markText.f]; rw [if_neg h]) hr⟩
noncomputable def mt (n : Int) : ByteArray := open Classical in if h : ∃ r, Ev (fun k => laws_markText.f k n) r then h.choose else ⟨#[]⟩
theorem mt_ev {n : Int} (hn : n ≤ 9223372036854775807) : Ev (fun k => laws_markText.f k n) (mt n) := by
  have h := mark_total hn
  unfold mt
  rw [dif_pos h]
  exact h.choose_spec
theorem rd_midB (pre : List Int) (x : Int) (t : List Int) {i : Int} (hi : i = pre.length) : rd (pre ++ x :: t) i = x := by
  subst hi
  simp [rd]
theorem set_midB (pre : List Int) (x y : Int) (t : List Int) {i : Int} (hi : i = pre.length) : (pre ++ x :: t).set i.toNat y = pre ++ y :: t := by
  subst hi
  simp
theorem toB (suf : List Int) : ∀ (pre : List Int) (i : Int), i = pre.length → pre.length + suf.length ≤ 281474976710656 →
    Ev (fun k => laws_toByteS.l0 k (pre ++ suf) (pre ++ List.replicate suf.length 0) i) (pre ++ suf) := by
  induction suf with
  | nil =>
    intro pre i hi hl
    refine ev_at (fun k => ?_)
    simp only [laws_toByteS.l0]
    rw [if_neg (by simp; omega)]
    simp
  | cons x t ih =>
    intro pre i hi hl
    simp only [List.length_cons] at hl
    have h := ih (pre ++ [x]) (i + 1) (by simp; omega) (by simp; omega)
    have e3 : wrap64 (i + 1) = i + 1 := w64 (by omega) (by omega)
    have c1 : i < ((pre ++ x :: t).length : Int) := by simp; omega
    have c2 : 0 ≤ i := by omega
    have c3 : i < ((pre ++ List.replicate (x :: t).length (0 : Int)).length : Int) := by simp; omega
    refine Ev.step (f := fun k => laws_toByteS.l0 k (pre ++ x :: t) (pre ++ x :: List.replicate t.length 0) (i + 1)) (fun k => ?_) (by simpa using h)
    simp only [laws_toByteS.l0]
    rw [if_pos c1, if_pos c2, if_pos c3, rd_midB pre x t hi, e3, List.length_cons, List.replicate_succ, set_midB _ _ _ _ hi]
theorem toBS (xs : List Int) (hl : xs.length ≤ 281474976710656) : Ev (fun k => laws_toByteS.f k xs) xs := by
  have h := toB xs [] 0 rfl (by simpa using hl)
  exact Ev.congr (fun k => by simp only [laws_toByteS.f]; rw [if_pos (by omega), if_pos (by simpa using hl)]; rfl) h
theorem eqB (xs : List Int) (hx : xs.length ≤ 4611686018427387904) (d : Nat) : ∀ i : Int, 0 ≤ i → (xs.length : Int) - i = d → Ev (fun k => laws_eqByteS.l0 k xs xs i) true := by
  induction d with
  | zero =>
    intro i h0 hd
    exact ev_at (fun k => by simp only [laws_eqByteS.l0]; rw [if_neg (by omega)])
  | succ d ih =>
    intro i h0 hd
    refine Ev.step (fun k => ?_) (ih (i + 1) (by omega) (by omega))
    simp only [laws_eqByteS.l0]
    rw [if_pos (by omega), if_pos h0, if_pos (by omega)]
    simp only [if_true]
    rw [w64 (by omega) (by omega)]
theorem eqBS (xs : List Int) (hx : xs.length ≤ 4611686018427387904) : Ev (fun k => laws_eqByteS.f k xs xs) true :=
  Ev.congr (fun k => by simp only [laws_eqByteS.f]; rw [if_pos trivial]) (eqB xs hx xs.length 0 (by omega) (by omega))
def mkB : Int → List Int → List Int
  | _, [] => []
  | m, _ :: t => (m % 256) :: mkB (m + 1) t
theorem mkB_length (m : Int) (xs : List Int) : (mkB m xs).length = xs.length := by
  induction xs generalizing m with
  | nil => rfl
  | cons x t ih => simp [mkB, ih]
theorem markB (suf : List Int) : ∀ (pre : List Int) (m i : Int), i = pre.length → 0 ≤ m → m + suf.length ≤ 4611686018427387904 → pre.length + suf.length ≤ 4611686018427387904 →
    Ev (fun k => laws_markByteS.l0 k (pre ++ suf) m i) (m + suf.length, pre ++ mkB m suf) := by
  induction suf with
  | nil =>
    intro pre m i hi h0 hm hl
    refine ev_at (fun k => ?_)
    simp only [laws_markByteS.l0]
    rw [if_neg (by simp; omega)]
    simp [mkB]
  | cons x t ih =>
    intro pre m i hi h0 hm hl
    simp only [List.length_cons, Int.natCast_succ] at hm hl
    have h := ih (pre ++ [m % 256]) (m + 1) (i + 1) (by simp; omega) (by omega) (by omega) (by simp; omega)
    have e1 : wrap64 (m + 1) = m + 1 := w64 (by omega) (by omega)
    have e3 : wrap64 (i + 1) = i + 1 := w64 (by omega) (by omega)
    have hres : ((m + ((x :: t).length : Int), pre ++ mkB m (x :: t)) : Int × List Int) = (m + 1 + (t.length : Int), pre ++ [m % 256] ++ mkB (m + 1) t) := by
      simp [mkB]
      omega
    rw [hres]
    refine Ev.step (f := fun k => laws_markByteS.l0 k (pre ++ (m % 256) :: t) (m + 1) (i + 1)) (fun k => ?_) (by simpa using h)
    simp only [laws_markByteS.l0]
    rw [if_pos (by simp; omega), if_pos (by omega), set_midB pre x _ t hi, e1, e3]
theorem markBS (xs : List Int) (m : Int) (h0 : 0 ≤ m) (hm : m + xs.length ≤ 4611686018427387904) : Ev (fun k => laws_markByteS.f k xs m) (m + xs.length, mkB m xs) := by
  have h := markB xs [] m 0 rfl h0 hm (by simp; omega)
  simp only [List.nil_append] at h
  exact h
theorem toI (suf : List Int) : ∀ (pre : List Int) (i : Int), i = pre.length → pre.length + suf.length ≤ 35184372088832 →
    Ev (fun k => laws_toIntS.l0 k (pre ++ suf) (pre ++ List.replicate suf.length 0) i) (pre ++ suf) := by
  induction suf with
  | nil =>
    intro pre i hi hl
    refine ev_at (fun k => ?_)
    simp only [laws_toIntS.l0]
    rw [if_neg (by simp; omega)]
    simp
  | cons x t ih =>
    intro pre i hi hl
    simp only [List.length_cons] at hl
    have h := ih (pre ++ [x]) (i + 1) (by simp; omega) (by simp; omega)
    have e3 : wrap64 (i + 1) = i + 1 := w64 (by omega) (by omega)
    have c1 : i < ((pre ++ x :: t).length : Int) := by simp; omega
    have c2 : 0 ≤ i := by omega
    have c3 : i < ((pre ++ List.replicate (x :: t).length (0 : Int)).length : Int) := by simp; omega
    refine Ev.step (f := fun k => laws_toIntS.l0 k (pre ++ x :: t) (pre ++ x :: List.replicate t.length 0) (i + 1)) (fun k => ?_) (by simpa using h)
    simp only [laws_toIntS.l0]
    rw [if_pos c1, if_pos c2, if_pos c3, rd_midB pre x t hi, e3, List.length_cons, List.replicate_succ, set_midB _ _ _ _ hi]
theorem toIS (xs : List Int) (hl : xs.length ≤ 35184372088832) : Ev (fun k => laws_toIntS.f k xs) xs := by
  have h := toI xs [] 0 rfl (by simpa using hl)
  exact Ev.congr (fun k => by simp only [laws_toIntS.f]; rw [if_pos (by omega), if_pos (by simpa using hl)]; rfl) h
theorem eqI (xs : List Int) (hx : xs.length ≤ 4611686018427387904) (d : Nat) : ∀ i : Int, 0 ≤ i → (xs.length : Int) - i = d → Ev (fun k => laws_eqIntS.l0 k xs xs i) true := by
  induction d with
  | zero =>
    intro i h0 hd
    exact ev_at (fun k => by simp only [laws_eqIntS.l0]; rw [if_neg (by omega)])
  | succ d ih =>
    intro i h0 hd
    refine Ev.step (fun k => ?_) (ih (i + 1) (by omega) (by omega))
    simp only [laws_eqIntS.l0]
    rw [if_pos (by omega), if_pos h0, if_pos (by omega)]
    simp only [if_true]
    rw [w64 (by omega) (by omega)]
theorem eqIS (xs : List Int) (hx : xs.length ≤ 4611686018427387904) : Ev (fun k => laws_eqIntS.f k xs xs) true :=
  Ev.congr (fun k => by simp only [laws_eqIntS.f]; rw [if_pos trivial]) (eqI xs hx xs.length 0 (by omega) (by omega))
def mkI : Int → List Int → List Int
  | _, [] => []
  | m, _ :: t => m :: mkI (m + 1) t
theorem markI (suf : List Int) : ∀ (pre : List Int) (m i : Int), i = pre.length → 0 ≤ m → m + suf.length ≤ 4611686018427387904 → pre.length + suf.length ≤ 4611686018427387904 →
    Ev (fun k => laws_markIntS.l0 k (pre ++ suf) m i) (m + suf.length, pre ++ mkI m suf) := by
  induction suf with
  | nil =>
    intro pre m i hi h0 hm hl
    refine ev_at (fun k => ?_)
    simp only [laws_markIntS.l0]
    rw [if_neg (by simp; omega)]
    simp [mkI]
  | cons x t ih =>
    intro pre m i hi h0 hm hl
    simp only [List.length_cons, Int.natCast_succ] at hm hl
    have h := ih (pre ++ [m]) (m + 1) (i + 1) (by simp; omega) (by omega) (by omega) (by simp; omega)
    have e1 : wrap64 (m + 1) = m + 1 := w64 (by omega) (by omega)
    have e3 : wrap64 (i + 1) = i + 1 := w64 (by omega) (by omega)
    have hres : ((m + ((x :: t).length : Int), pre ++ mkI m (x :: t)) : Int × List Int) = (m + 1 + (t.length : Int), pre ++ [m] ++ mkI (m + 1) t) := by
      simp [mkI]
      omega
    rw [hres]
    refine Ev.step (f := fun k => laws_markIntS.l0 k (pre ++ m :: t) (m + 1) (i + 1)) (fun k => ?_) (by simpa using h)
    simp only [laws_markIntS.l0]
    rw [if_pos (by simp; omega), if_pos (by omega), set_midB pre x _ t hi, e1, e3]
theorem markIS (xs : List Int) (m : Int) (h0 : 0 ≤ m) (hm : m + xs.length ≤ 4611686018427387904) : Ev (fun k => laws_markIntS.f k xs m) (m + xs.length, mkI m xs) := by
  have h := markI xs [] m 0 rfl h0 hm (by simp; omega)
  simp only [List.nil_append] at h
  exact h
theorem rd_midS (pre : List ByteArray) (x : ByteArray) (t : List ByteArray) {i : Int} (hi : i = pre.length) : rdOf ByteArray.empty (pre ++ x :: t) i = x := by
  subst hi
  simp [rdOf]
theorem set_midS (pre : List ByteArray) (x y : ByteArray) (t : List ByteArray) {i : Int} (hi : i = pre.length) : (pre ++ x :: t).set i.toNat y = pre ++ y :: t := by
  subst hi
  simp
theorem eqStr (xs : List ByteArray) (hx : xs.length ≤ 4611686018427387904) (d : Nat) : ∀ i : Int, 0 ≤ i → (xs.length : Int) - i = d → Ev (fun k => laws_eqStringS.l0 k xs xs i) true := by
  induction d with
  | zero =>
    intro i h0 hd
    exact ev_at (fun k => by simp only [laws_eqStringS.l0]; rw [if_neg (by omega)])
  | succ d ih =>
    intro i h0 hd
    refine Ev.step (fun k => ?_) (ih (i + 1) (by omega) (by omega))
    simp only [laws_eqStringS.l0]
    rw [if_pos (by omega), if_pos h0, if_pos (by omega)]
    simp only [if_true]
    rw [w64 (by omega) (by omega)]
theorem eqStrS (xs : List ByteArray) (hx : xs.length ≤ 4611686018427387904) : Ev (fun k => laws_eqStringS.f k xs xs) true :=
  Ev.congr (fun k => by simp only [laws_eqStringS.f]; rw [if_pos trivial]) (eqStr xs hx xs.length 0 (by omega) (by omega))
noncomputable def mkT : Int → List ByteArray → List ByteArray
  | _, [] => []
  | m, _ :: t => mt m :: mkT (m + 1) t
theorem mkT_length (m : Int) (xs : List ByteArray) : (mkT m xs).length = xs.length := by
  induction xs generalizing m with
  | nil => rfl
  | cons x t ih => simp [mkT, ih]
theorem markT (suf : List ByteArray) : ∀ (pre : List ByteArray) (m i : Int), i = pre.length → 0 ≤ m → m + suf.length ≤ 4611686018427387904 → pre.length + suf.length ≤ 4611686018427387904 →
    Ev (fun k => laws_markStringS.l0 k (pre ++ suf) m i) (m + suf.length, pre ++ mkT m suf) := by
  induction suf with
  | nil =>
    intro pre m i hi h0 hm hl
    refine ev_at (fun k => ?_)
    simp only [laws_markStringS.l0]
    rw [if_neg (by simp; omega)]
    simp [mkT]
  | cons x t ih =>
    intro pre m i hi h0 hm hl
    simp only [List.length_cons, Int.natCast_succ] at hm hl
    have h := ih (pre ++ [mt m]) (m + 1) (i + 1) (by simp; omega) (by omega) (by omega) (by simp; omega)
    have e1 : wrap64 (m + 1) = m + 1 := w64 (by omega) (by omega)
    have e3 : wrap64 (i + 1) = i + 1 := w64 (by omega) (by omega)
    have hres : ((m + ((x :: t).length : Int), pre ++ mkT m (x :: t)) : Int × List ByteArray) = (m + 1 + (t.length : Int), pre ++ [mt m] ++ mkT (m + 1) t) := by
      simp [mkT]
      omega
    rw [hres]
    refine Ev.step (f := fun k => (laws_markText.f k m).bind fun q => laws_markStringS.l0 k (pre ++ q :: t) (m + 1) (i + 1)) (fun k => ?_) (Ev.bind (mt_ev (by omega)) (by simpa using h))
    simp only [laws_markStringS.l0]
    rw [if_pos (by simp; omega)]
    congr 1
    funext q
    rw [if_pos (by omega), set_midS pre x _ t hi, e1, e3]
theorem heldT (suf : List ByteArray) : ∀ (pre : List ByteArray) (m i : Int), i = pre.length → 0 ≤ m → m + suf.length ≤ 4611686018427387904 → pre.length + suf.length ≤ 4611686018427387904 →
    Ev (fun k => laws_heldStringS.l0 k (pre ++ mkT m suf) m i) (m + suf.length) := by
  induction suf with
  | nil =>
    intro pre m i hi h0 hm hl
    refine ev_at (fun k => ?_)
    simp only [laws_heldStringS.l0]
    rw [if_neg (by simp [mkT]; omega)]
    simp
  | cons x t ih =>
    intro pre m i hi h0 hm hl
    simp only [List.length_cons, Int.natCast_succ] at hm hl
    have h := ih (pre ++ [mt m]) (m + 1) (i + 1) (by simp; omega) (by omega) (by omega) (by simp; omega)
    have e1 : wrap64 (m + 1) = m + 1 := w64 (by omega) (by omega)
    have e3 : wrap64 (i + 1) = i + 1 := w64 (by omega) (by omega)
    have hres : m + ((x :: t).length : Int) = m + 1 + (t.length : Int) := by simp; omega
    rw [hres]
    refine Ev.step (f := fun k => (laws_markText.f k m).bind fun q => if (mt m).toList = q.toList then laws_heldStringS.l0 k (pre ++ mkT m (x :: t)) (m + 1) (i + 1) else some (-1)) (fun k => ?_) (Ev.bind (mt_ev (by omega)) ?_)
    · rw [show mkT m (x :: t) = mt m :: mkT (m + 1) t from rfl]
      simp only [laws_heldStringS.l0]
      have c1 : i < ((pre ++ mt m :: mkT (m + 1) t).length : Int) := by simp; omega
      have c2 : 0 ≤ i := by omega
      rw [if_pos c1, if_pos c2, rd_midS pre _ _ hi, e1, e3]
    · simp only [if_pos]
      simpa [mkT] using h
theorem markTS (xs : List ByteArray) (m : Int) (h0 : 0 ≤ m) (hm : m + xs.length ≤ 4611686018427387904) : Ev (fun k => laws_markStringS.f k xs m) (m + xs.length, mkT m xs) := by
  have h := markT xs [] m 0 rfl h0 hm (by simp; omega)
  simp only [List.nil_append] at h
  exact h
theorem heldTS (xs : List ByteArray) (m : Int) (h0 : 0 ≤ m) (hm : m + xs.length ≤ 4611686018427387904) : Ev (fun k => laws_heldStringS.f k (mkT m xs) m) (m + xs.length) := by
  have h := heldT xs [] m 0 rfl h0 hm (by simp; omega)
  simp only [List.nil_append] at h
  exact h
/-- The pieces of a text, as the cuts say. -/
def spl : List Int → ByteArray → List ByteArray
  | [], s => if s.toList = ([] : List UInt8) then [] else [s]
  | c :: t, s => s.extract 0 (if c < 0 then 0 else if c > (s.size : Int) then s.size else c.toNat) :: spl t (s.extract (if c < 0 then 0 else if c > (s.size : Int) then s.size else c.toNat) s.size)
theorem spl_len (cs : List Int) (s : ByteArray) : (spl cs s).length ≤ cs.length + 1 := by
  induction cs generalizing s with
  | nil => simp only [spl]; split <;> simp
  | cons c t ih => have := ih (s.extract (if c < 0 then 0 else if c > (s.size : Int) then s.size else c.toNat) s.size); simp only [spl, List.length_cons]; omega
theorem ext_full (s : ByteArray) : s.extract 0 s.size = s := ByteArray.extract_zero_size
theorem ext_none (s : ByteArray) : s.extract 0 0 = (⟨#[]⟩ : ByteArray) := by
  apply ByteArray.ext
  simp
theorem spec_spl (suf : List Int) : ∀ (pre : List Int) (acc : List ByteArray) (s : ByteArray) (i : Int), i = pre.length → pre.length + suf.length ≤ 1000 → acc.length = pre.length →
    Ev (fun k => spec_Split.l0 k (pre ++ suf) acc s i) (acc ++ spl suf s) := by
  induction suf with
  | nil =>
    intro pre acc s i hi hl ha
    refine ev_at (fun k => ?_)
    simp only [spec_Split.l0]
    rw [if_neg (by simp; omega)]
    simp only [spl]
    by_cases he : s.toList = ([] : List UInt8)
    · rw [if_pos he, if_pos he]; simp
    · rw [if_neg he, if_neg he, if_pos (by simp at hl; omega)]
  | cons c t ih =>
    intro pre acc s i hi hl ha
    simp only [List.length_cons] at hl
    have e3 : wrap64 (i + 1) = i + 1 := w64 (by omega) (by omega)
    have c1 : i < ((pre ++ c :: t).length : Int) := by simp; omega
    have c2 : 0 ≤ i := by omega
    have c3 : acc.length < 8796093022208 := by omega
    have h := fun (p r : ByteArray) => ih (pre ++ [c]) (acc ++ [p]) r (i + 1) (by simp; omega) (by simp; omega) (by simp; omega)
    simp only [List.append_assoc, List.cons_append, List.nil_append] at h
    by_cases h1 : c < 0
    · rw [show spl (c :: t) s = ⟨#[]⟩ :: spl t s by simp only [spl, if_pos h1, ext_none, ext_full]]
      refine Ev.step (fun k => ?_) (h ⟨#[]⟩ s)
      simp only [spec_Split.l0]
      rw [if_pos c1, if_pos c2, rd_midB pre c t hi, if_pos h1, if_pos c3, e3]
    by_cases h2 : c > (s.size : Int)
    · rw [show spl (c :: t) s = s :: spl t (s.extract s.size s.size) by simp only [spl, if_neg h1, if_pos h2, ext_full]]
      refine Ev.step (fun k => ?_) (h s _)
      simp only [spec_Split.l0]
      rw [if_pos c1, if_pos c2, rd_midB pre c t hi, if_neg h1, if_pos h2, if_pos c3, e3, Int.toNat_natCast]
    · rw [show spl (c :: t) s = s.extract 0 c.toNat :: spl t (s.extract c.toNat s.size) by simp only [spl, if_neg h1, if_neg h2]]
      refine Ev.step (fun k => ?_) (h _ _)
      simp only [spec_Split.l0]
      rw [if_pos c1, if_pos c2, rd_midB pre c t hi, if_neg h1, if_neg h2, if_pos (by omega), if_pos (by omega), if_pos c3, e3]
theorem impl_spl (suf : List Int) : ∀ (pre : List Int) (acc : List ByteArray) (s : ByteArray) (i : Int), i = pre.length → pre.length + suf.length ≤ 1000 → acc.length = pre.length →
    Ev (fun k => impl_Split.l0 k acc s (pre ++ suf) ((pre ++ suf).length : Int) i) (acc ++ spl suf s) := by
  induction suf with
  | nil =>
    intro pre acc s i hi hl ha
    refine ev_at (fun k => ?_)
    simp only [impl_Split.l0]
    rw [if_neg (by simp; omega)]
    simp only [spl]
    by_cases he : s.toList = ([] : List UInt8)
    · rw [if_pos he, if_pos he]; simp
    · rw [if_neg he, if_neg he, if_pos (by simp at hl; omega)]
  | cons c t ih =>
    intro pre acc s i hi hl ha
    simp only [List.length_cons] at hl
    have e3 : wrap64 (i + 1) = i + 1 := w64 (by omega) (by omega)
    have c1 : i < ((pre ++ c :: t).length : Int) := by simp; omega
    have c2 : 0 ≤ i := by omega
    have c3 : acc.length < 8796093022208 := by omega
    have em : mn (mx c 0) (s.size : Int) = ((if c < 0 then 0 else if c > (s.size : Int) then s.size else c.toNat : Nat) : Int) := by
      unfold mn mx
      by_cases h1 : c < 0
      · rw [if_pos h1, if_pos h1, if_neg (by omega)]; rfl
      · rw [if_neg h1, if_neg h1]
        by_cases h2 : c > (s.size : Int)
        · rw [if_pos (by omega), if_pos h2]
        · rw [if_neg (by omega), if_neg h2]; omega
    have h := ih (pre ++ [c]) (acc ++ [s.extract 0 (if c < 0 then 0 else if c > (s.size : Int) then s.size else c.toNat)]) (s.extract (if c < 0 then 0 else if c > (s.size : Int) then s.size else c.toNat) s.size) (i + 1) (by simp; omega) (by simp; omega) (by simp; omega)
    simp only [List.append_assoc, List.cons_append, List.nil_append] at h
    refine Ev.step (fun k => ?_) h
    have hle : (if c < 0 then 0 else if c > (s.size : Int) then s.size else c.toNat) ≤ s.size := by split <;> (try split) <;> omega
    simp only [impl_Split.l0]
    rw [if_pos c1, if_pos c2, if_pos c1, rd_midB pre c t hi, em, if_pos (by omega), if_pos (by omega), if_pos c3, e3, Int.toNat_natCast]
def splv (b : List Int) (cs : List Int) : List ByteArray := if b.length > 100000 ∨ cs.length > 1000 then [] else spl cs (strOfNums b)
theorem splv_len (b cs : List Int) : (splv b cs).length ≤ 1001 := by
  unfold splv
  split
  · simp
  · rename_i h
    have := spl_len cs (strOfNums b)
    have : ¬ cs.length > 1000 := fun h' => h (.inr h')
    omega
theorem spec_splv (b cs : List Int) : Ev (fun k => spec_Split.f k b cs) (splv b cs) := by
  unfold spec_Split.f splv
  simp only [Option.bind_some]
  by_cases h1 : b.length > 100000
  · rw [if_pos (.inl h1)]
    exact Ev.congr (fun k => by rw [if_pos (by omega)]) (ev_at (fun k => by simp [spec_Split.j0]))
  by_cases h2 : cs.length > 1000
  · rw [if_pos (.inr h2)]
    exact Ev.congr (fun k => by rw [if_neg (by omega), decide_eq_true (by omega)]) (ev_at (fun k => by simp [spec_Split.j0]))
  · rw [if_neg (by rintro (h | h) <;> contradiction)]
    have h := spec_spl cs [] [] (strOfNums b) 0 rfl (by simp; omega) rfl
    simp only [List.nil_append] at h
    exact Ev.congr (fun k => by rw [if_neg (by omega), decide_eq_false (by omega)]) (Ev.step (fun k => by simp only [spec_Split.j0]; rw [if_neg (by decide)]) h)
theorem impl_splv (b cs : List Int) : Ev (fun k => impl_Split.f k b cs) (splv b cs) := by
  unfold impl_Split.f splv
  by_cases h1 : b.length > 100000
  · rw [if_pos (.inl h1)]
    exact Ev.congr (fun k => by rw [if_pos (by omega)]) (ev_at (fun k => by simp [impl_Split.j0]))
  by_cases h2 : cs.length > 1000
  · rw [if_pos (.inr h2)]
    exact Ev.congr (fun k => by rw [if_neg (by omega), decide_eq_true (by omega)]) (ev_at (fun k => by simp [impl_Split.j0]))
  · rw [if_neg (by rintro (h | h) <;> contradiction)]
    have h := impl_spl cs [] [] (strOfNums b) 0 rfl (by simp; omega) rfl
    simp only [List.nil_append] at h
    exact Ev.congr (fun k => by rw [if_neg (by omega), decide_eq_false (by omega)]) (Ev.step (fun k => by simp only [impl_Split.j0]; rw [if_neg (by decide)]) h)
theorem FnExactSplit : laws_FnExactSplit.Pure := by
  intro b cs hb1 _ _ hc1 _ _
  by_cases hbig : (b.length : Int) > 1048576
  · exact ⟨0, by simp only [laws_FnExactSplit.f]; rw [if_pos hbig]⟩
  by_cases hbig2 : (cs.length : Int) > 1048576
  · exact ⟨0, by simp only [laws_FnExactSplit.f]; rw [if_neg hbig, if_pos hbig2]⟩
  have hto := toBS b (by omega)
  have hti := toIS cs (by omega)
  have hs := spec_splv b cs
  have hi := impl_splv b cs
  have hlen := splv_len b cs
  generalize splv b cs = v at hs hi hlen
  have he := eqStrS v (by omega)
  have heb := eqBS b (by omega)
  have hei := eqIS cs (by omega)
  have hmb := markBS b 1 (by omega) (by omega)
  have hmi := markIS cs (1 + b.length) (by omega) (by omega)
  have hm := markTS v 1 (by omega) (by omega)
  have hh := heldTS v 1 (by omega) (by omega)
  have hj0 : Ev (fun k => laws_FnExactSplit.j0 k b cs v v (!true)) true := by
    refine Ev.step (fun k => by simp only [laws_FnExactSplit.j0]; rw [if_neg (by simp)]) (Ev.bind hm (Ev.bind hh ?_))
    refine Ev.congr (fun k => by rw [if_neg (by omega), if_pos rfl]) (Ev.bind hto (Ev.bind hti (Ev.bind hi (Ev.bind he ?_))))
    refine Ev.congr (fun k => by rw [if_pos rfl]) (Ev.bind hh ?_)
    exact ev_ret (fun k => by rw [if_neg (by omega), if_pos rfl])
  refine Ev.rounds ?_
  simp only [laws_FnExactSplit.f]
  refine Ev.congr (fun k => by rw [if_neg hbig, if_neg hbig2]) (Ev.bind hto (Ev.bind hti (Ev.bind hs (Ev.bind hto (Ev.bind hti (Ev.bind hi (Ev.bind he ?_)))))))
  refine Ev.congr (fun k => by rw [if_pos rfl]) (Ev.bind hto (Ev.bind heb ?_))
  refine Ev.congr (fun k => by rw [if_pos rfl]) (Ev.bind hti (Ev.bind hei ?_))
  refine Ev.congr (fun k => by rw [if_pos rfl]) (Ev.bind hmb (Ev.bind hmi ?_))
  refine Ev.congr (fun k => by rw [if_neg (by omega)]) (Ev.bind he ?_)
  exact hj0
end Go.Proofs.Ytbiaakkmmkddfaa.Pure
