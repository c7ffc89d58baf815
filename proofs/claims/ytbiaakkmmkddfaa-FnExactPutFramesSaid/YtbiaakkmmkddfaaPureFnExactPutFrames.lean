/- The program's PutFrames answers as the reference's, at all lists of frames; it writes into no argument, and its answer is its own, behind a second call too. No condition beside the form's own reach. -/
import Derived.Test.YtbiaakkmmkddfaaPFnExactPutFramesx4
namespace Go.Proofs.Ytbiaakkmmkddfaa.Pure
open Go.RowKit Go.Proofs.Ytbiaakkmmkddfaa.PFnExactPutFrames Go.Proofs.YtbiaakkmmkddfaaW.PrintWords Go.Proofs.YtbiaakkmmkddfaaW.PrintLast Go.Proofs.YtbiaakkmmkddfaaW.PrintMore
theorem w64 {x : Int} (h0 : -9223372036854775808 ≤ x) (h1 : x ≤ 9223372036854775807) : wrap64 x = x := by unfold wrap64; omega
theorem emp_iff (s : ByteArray) : s.toList = ([] : List UInt8) ↔ s.size = 0 := by
  rw [ByteArray.toList_eq]
  obtain ⟨⟨d⟩⟩ := s
  cases d <;> simp [ByteArray.size]
theorem ev_at {α : Type} {g : Nat → Option α} {r : α} (h : ∀ k, g (k + 1) = some r) : Ev g r := ⟨1, fun k hk => by
  obtain ⟨j, rfl⟩ : ∃ j, k = j + 1 := ⟨k - 1, by omega⟩
  exact h j⟩
theorem ev_ret {α : Type} {g : Nat → Option α} {r : α} (h : ∀ k, g k = some r) : Ev g r := ⟨0, fun k _ => h k⟩
theorem ev_det {α : Type} {g : Nat → Option α} {r s : α} (h : Ev g r) (k : Ev g s) : r = s := by
  obtain ⟨K, h⟩ := h
  obtain ⟨L, k⟩ := k
  have h1 := h (K + L) (by omega)
  have h2 := k (K + L) (by omega)
  rw [h1] at h2
  exact Option.some.inj h2
theorem ba_ext {a b : ByteArray} (h : a.toList = b.toList) : a = b := by
  rw [ByteArray.toList_eq, ByteArray.toList_eq] at h
  exact ByteArray.ext (Array.toList_inj.1 h)
theorem bytesOf_append (a b : ByteArray) : bytesOf (a ++ b) = bytesOf a ++ bytesOf b := by simp [bytesOf, ByteArray.data_append]
theorem strOf_bytesOf (s : ByteArray) : strOfNums (bytesOf s) = s := by
  apply ByteArray.ext
  apply Array.toList_inj.1
  rw [strOfNums_data, bytesOf, List.map_map]
  exact (List.map_congr_left (fun b _ => by simp)).trans (List.map_id _)
theorem bytesOf_inj {a b : ByteArray} (h : bytesOf a = bytesOf b) : a = b := by rw [← strOf_bytesOf a, h, strOf_bytesOf]
theorem tdiv10 {n : Int} (h0 : 0 < n) (h1 : n ≤ 9223372036854775807) : wrap64 (Int.tdiv n 10) = n / 10 := by
  rw [Int.tdiv_eq_ediv_of_nonneg (by omega)]
  exact w64 (by omega) (by omega)
theorem one_size (x : Int) : (strOfNums [x]).size = 1 := by rw [strOfNums_size]; rfl
theorem mark_l0 (d : Nat) : ∀ (n : Int) (s : ByteArray), n < 10 ^ d → n ≤ 9223372036854775807 → s.size + d ≤ 1000 → ∃ r, Ev (fun k => laws_markText.l0 k n s) r := by
  induction d with
  | zero =>
    intro n s hn _ hs
    exact ⟨(⟨#[109]⟩ : ByteArray) ++ s, ev_at (fun k => by simp only [laws_markText.l0]; rw [if_neg (by simp at hn; omega), if_pos (by omega)])⟩
  | succ d ih =>
    intro n s hn hb hs
    by_cases h0 : n > 0
    · have hsz : (strOfNums [(wrap64 (48 + (Int.tmod n 10))) % 256] ++ s).size = 1 + s.size := by rw [ByteArray.size_append, one_size]
      obtain ⟨r, h⟩ := ih (n / 10) (strOfNums [(wrap64 (48 + (Int.tmod n 10))) % 256] ++ s) (by rw [Int.pow_succ] at hn; omega) (by omega) (by omega)
      refine ⟨r, Ev.step (fun k => ?_) h⟩
      simp only [laws_markText.l0]
      rw [if_pos h0]
      simp only [Option.bind_some]
      rw [if_pos (by rw [one_size]; omega), tdiv10 h0 hb]
    · exact ⟨(⟨#[109]⟩ : ByteArray) ++ s, ev_at (fun k => by simp only [laws_markText.l0]; rw [if_neg h0, if_pos (by omega)])⟩
theorem mark_total {n : Int} (hn : n ≤ 9223372036854775807) : ∃ r, Ev (fun k => laws_markText.f k n) r := by
  by_cases h : n ≤ 0
  · exact ⟨_, 0, fun k _ => by simp only [laws_markText.f]; rw [if_pos h]⟩
  · obtain ⟨r, hr⟩ := mark_l0 19 n ⟨#[]⟩ (by have : (10 : Int) ^ 19 = 10000000000000000000 := by decide
                                             omega) hn (by decide)
    exact ⟨r, Ev.congr (fun k => by simp only [laws_markText.f]; rw [if_neg h]) hr⟩
noncomputable def mt (n : Int) : ByteArray := open Classical in if h : ∃ r, Ev (fun k => laws_markText.f k n) r then h.choose else ⟨#[]⟩
theorem mt_ev {n : Int} (hn : n ≤ 9223372036854775807) : Ev (fun k => laws_markText.f k n) (mt n) := by
  have h := mark_total hn
  unfold mt
  rw [dif_pos h]
  exact h.choose_spec
theorem rd_midB (pre : List Int) (x : Int) (t : List Int) {i : Int} (hi : i = pre.length) : rd (pre ++ x :: t) i = x := by
  subst hi
  simp [rd]
theorem set_midB (pre : List Int) (x y : Int) (t : List Int) {i : Int} (hi : i = pre.length) : (pre ++ x :: t).set i.toNat y = pre ++ y :: t := by
  subst hi
  simp
theorem eqB (xs : List Int) (hx : xs.length ≤ 4611686018427387904) (d : Nat) : ∀ i : Int, 0 ≤ i → (xs.length : Int) - i = d → Ev (fun k => laws_eqByteS.l0 k xs xs i) true := by
  induction d with
  | zero =>
    intro i h0 hd
    exact ev_at (fun k => by simp only [laws_eqByteS.l0]; rw [if_neg (by omega)])
  | succ d ih =>
    intro i h0 hd
    refine Ev.step (fun k => ?_) (ih (i + 1) (by omega) (by omega))
    simp only [laws_eqByteS.l0]
    rw [if_pos (by omega), if_pos h0, if_pos (by omega)]
    simp only [if_true]
    rw [w64 (by omega) (by omega)]
theorem eqBS (xs : List Int) (hx : xs.length ≤ 4611686018427387904) : Ev (fun k => laws_eqByteS.f k xs xs) true :=
  Ev.congr (fun k => by simp only [laws_eqByteS.f]; rw [if_pos trivial]) (eqB xs hx xs.length 0 (by omega) (by omega))
def mkB : Int → List Int → List Int
  | _, [] => []
  | m, _ :: t => (m % 256) :: mkB (m + 1) t
theorem mkB_length (m : Int) (xs : List Int) : (mkB m xs).length = xs.length := by
  induction xs generalizing m with
  | nil => rfl
  | cons x t ih => simp [mkB, ih]
theorem markB (suf : List Int) : ∀ (pre : List Int) (m i : Int), i = pre.length → 0 ≤ m → m + suf.length ≤ 4611686018427387904 → pre.length + suf.length ≤ 4611686018427387904 →
    Ev (fun k => laws_markByteS.l0 k (pre ++ suf) m i) (m + suf.length, pre ++ mkB m suf) := by
  induction suf with
  | nil =>
    intro pre m i hi h0 hm hl
    refine ev_at (fun k => ?_)
    simp only [laws_markByteS.l0]
    rw [if_neg (by simp; omega)]
    simp [mkB]
  | cons x t ih =>
    intro pre m i hi h0 hm hl
    simp only [List.length_cons, Int.natCast_succ] at hm hl
    have h := ih (pre ++ [m % 256]) (m + 1) (i + 1) (by simp; omega) (by omega) (by omega) (by simp; omega)
    have e1 : wrap64 (m + 1) = m + 1 := w64 (by omega) (by omega)
    have e3 : wrap64 (i + 1) = i + 1 := w64 (by omega) (by omega)
    have hres : ((m + ((x :: t).length : Int), pre ++ mkB m (x :: t)) : Int × List Int) = (m + 1 + (t.length : Int), pre ++ [m % 256] ++ mkB (m + 1) t) := by
      simp [mkB]
      omega
    rw [hres]
    refine Ev.step (f := fun k => laws_markByteS.l0 k (pre ++ (m % 256) :: t) (m + 1) (i + 1)) (fun k => ?_) (by simpa using h)
    simp only [laws_markByteS.l0]
    rw [if_pos (by simp; omega), if_pos (by omega), set_midB pre x _ t hi, e1, e3]
theorem markBS (xs : List Int) (m : Int) (h0 : 0 ≤ m) (hm : m + xs.length ≤ 4611686018427387904) : Ev (fun k => laws_markByteS.f k xs m) (m + xs.length, mkB m xs) := by
  have h := markB xs [] m 0 rfl h0 hm (by simp; omega)
  simp only [List.nil_append] at h
  exact h
theorem heldB (suf : List Int) : ∀ (pre : List Int) (m i : Int), i = pre.length → 0 ≤ m → m + suf.length ≤ 4611686018427387904 → pre.length + suf.length ≤ 4611686018427387904 →
    Ev (fun k => laws_heldByteS.l0 k (pre ++ mkB m suf) m i) (m + suf.length) := by
  induction suf with
  | nil =>
    intro pre m i hi h0 hm hl
    refine ev_at (fun k => ?_)
    simp only [laws_heldByteS.l0]
    rw [if_neg (by simp [mkB]; omega)]
    simp
  | cons x t ih =>
    intro pre m i hi h0 hm hl
    simp only [List.length_cons, Int.natCast_succ] at hm hl
    have h := ih (pre ++ [m % 256]) (m + 1) (i + 1) (by simp; omega) (by omega) (by omega) (by simp; omega)
    have e1 : wrap64 (m + 1) = m + 1 := w64 (by omega) (by omega)
    have e3 : wrap64 (i + 1) = i + 1 := w64 (by omega) (by omega)
    have hres : m + ((x :: t).length : Int) = m + 1 + (t.length : Int) := by simp; omega
    rw [hres]
    refine Ev.step (f := fun k => laws_heldByteS.l0 k (pre ++ (m % 256) :: mkB (m + 1) t) (m + 1) (i + 1)) (fun k => ?_) (by simpa using h)
    rw [show mkB m (x :: t) = (m % 256) :: mkB (m + 1) t from rfl]
    simp only [laws_heldByteS.l0]
    rw [if_pos (by simp; omega), if_pos (by omega), rd_midB pre _ _ hi, if_pos rfl, e1, e3]
theorem heldBS (xs : List Int) (m : Int) (h0 : 0 ≤ m) (hm : m + xs.length ≤ 4611686018427387904) : Ev (fun k => laws_heldByteS.f k (mkB m xs) m) (m + xs.length) := by
  have h := heldB xs [] m 0 rfl h0 hm (by simp; omega)
  simp only [List.nil_append] at h
  exact h
theorem rd_mid23 (pre : List S23) (x : S23) (t : List S23) {i : Int} (hi : i = pre.length) : rd_T23 (pre ++ x :: t) i = x := by
  subst hi
  simp [rd_T23]
theorem set_mid23 (pre : List S23) (x y : S23) (t : List S23) {i : Int} (hi : i = pre.length) : (pre ++ x :: t).set i.toNat y = pre ++ y :: t := by
  subst hi
  simp
theorem rd_mid26 (pre : List S26) (x : S26) (t : List S26) {i : Int} (hi : i = pre.length) : rd_T26 (pre ++ x :: t) i = x := by
  subst hi
  simp [rd_T26]
theorem set_mid26 (pre : List S26) (x y : S26) (t : List S26) {i : Int} (hi : i = pre.length) : (pre ++ x :: t).set i.toNat y = pre ++ y :: t := by
  subst hi
  simp
def szF : List S23 → Nat
  | [] => 0
  | x :: t => x.f1.size + szF t
def szv : Int → List S23 → Int
  | l, [] => l
  | l, x :: t => if l - x.f1.size < 0 then -1 else szv (l - x.f1.size) t
theorem szv_some : ∀ (xs : List S23) (l : Int), 0 ≤ l → ¬ szv l xs < 0 → (szF xs : Int) ≤ l := by
  intro xs
  induction xs with
  | nil => intro l h0 _; simpa [szF] using h0
  | cons x t ih =>
    intro l h0 h
    simp only [szv] at h
    by_cases hc : l - x.f1.size < 0
    · rw [if_pos hc] at h; omega
    · rw [if_neg hc] at h
      have := ih (l - x.f1.size) (by omega) h
      simp only [szF]
      omega
theorem szS (suf : List S23) : ∀ (pre : List S23) (l i : Int), i = pre.length → 0 ≤ l → l ≤ 1048576 → pre.length + suf.length ≤ 4611686018427387904 → (∀ x ∈ suf, x.f1.size ≤ 140737488351232) →
    Ev (fun k => laws_szFrameS.l0 k (pre ++ suf) l i) (szv l suf) := by
  induction suf with
  | nil =>
    intro pre l i hi h0 h1 hl _
    refine ev_at (fun k => ?_)
    simp only [laws_szFrameS.l0]
    rw [if_neg (by simp; omega)]
    rfl
  | cons x t ih =>
    intro pre l i hi h0 h1 hl hx
    have hxs := hx x (List.mem_cons_self ..)
    simp only [List.length_cons] at hl
    have e1 : wrap64 (l - (x.f1.size : Int)) = l - x.f1.size := w64 (by omega) (by omega)
    have e3 : wrap64 (i + 1) = i + 1 := w64 (by omega) (by omega)
    have c1 : i < ((pre ++ x :: t).length : Int) := by simp; omega
    have c2 : 0 ≤ i := by omega
    by_cases hc : l - (x.f1.size : Int) < 0
    · rw [show szv l (x :: t) = -1 by simp only [szv]; rw [if_pos hc]]
      refine ev_at (fun k => ?_)
      simp only [laws_szFrameS.l0, laws_szFrame.f]
      rw [if_pos c1, if_pos c2, rd_mid23 pre x t hi, e1, if_pos hc]
      rfl
    · rw [show szv l (x :: t) = szv (l - x.f1.size) t by simp only [szv]; rw [if_neg hc]]
      have h := ih (pre ++ [x]) (l - x.f1.size) (i + 1) (by simp; omega) (by omega) (by omega) (by simp; omega) (fun y hy => hx y (List.mem_cons_of_mem _ hy))
      refine Ev.step (f := fun k => laws_szFrameS.l0 k (pre ++ x :: t) (l - x.f1.size) (i + 1)) (fun k => ?_) (by simpa using h)
      simp only [laws_szFrameS.l0, laws_szFrame.f]
      rw [if_pos c1, if_pos c2, rd_mid23 pre x t hi, e1, if_neg hc]
      simp only [Option.bind_some]
      rw [if_neg hc, e3]
theorem szFSl (xs : List S23) (b : Int) (hb0 : 0 ≤ b) (hb1 : b ≤ 1048576) (hl : xs.length ≤ 140737488355327) (hx : ∀ x ∈ xs, x.f1.size ≤ 140737488351232) :
    Ev (fun k => laws_szFrameS.f k xs b) (if b - (xs.length : Int) < 0 then -1 else szv (b - xs.length) xs) := by
  have e1 : wrap64 (b - (xs.length : Int)) = b - xs.length := w64 (by omega) (by omega)
  by_cases hc : b - (xs.length : Int) < 0
  · rw [if_pos hc]
    exact ev_ret (fun k => by simp only [laws_szFrameS.f]; rw [e1, if_pos hc])
  · rw [if_neg hc]
    have h := szS xs [] (b - xs.length) 0 rfl (by omega) (by omega) (by simp; omega) hx
    exact Ev.congr (fun k => by simp only [laws_szFrameS.f]; rw [e1, if_neg hc]; rfl) h
theorem szFS (xs : List S23) (hl : xs.length ≤ 140737488355327) (hx : ∀ x ∈ xs, x.f1.size ≤ 140737488351232) :
    Ev (fun k => laws_szFrameS.f k xs 1048576) (if 1048576 - (xs.length : Int) < 0 then -1 else szv (1048576 - xs.length) xs) := szFSl xs _ (by decide) (by decide) hl hx
theorem toS (suf : List S23) : ∀ (pre : List S23) (i : Int), i = pre.length → pre.length + suf.length ≤ 11728124029610 →
    Ev (fun k => laws_toFrameS.l0 k (pre ++ suf) (pre.map (fun x => (⟨x.f0, x.f1⟩ : S26)) ++ List.replicate suf.length z26) i) ((pre ++ suf).map (fun x => (⟨x.f0, x.f1⟩ : S26))) := by
  induction suf with
  | nil =>
    intro pre i hi hl
    refine ev_at (fun k => ?_)
    simp only [laws_toFrameS.l0]
    rw [if_neg (by simp; omega)]
    simp
  | cons x t ih =>
    intro pre i hi hl
    simp only [List.length_cons] at hl
    have h := ih (pre ++ [x]) (i + 1) (by simp; omega) (by simp; omega)
    have e3 : wrap64 (i + 1) = i + 1 := w64 (by omega) (by omega)
    have c1 : i < ((pre ++ x :: t).length : Int) := by simp; omega
    have c2 : 0 ≤ i := by omega
    have c3 : i < ((pre.map (fun x => (⟨x.f0, x.f1⟩ : S26)) ++ List.replicate (x :: t).length z26).length : Int) := by simp; omega
    refine Ev.step (f := fun k => laws_toFrameS.l0 k (pre ++ x :: t) (pre.map (fun x => (⟨x.f0, x.f1⟩ : S26)) ++ (⟨x.f0, x.f1⟩ : S26) :: List.replicate t.length z26) (i + 1)) (fun k => ?_) (by simpa using h)
    simp only [laws_toFrameS.l0, laws_toFrame.f]
    rw [if_pos c1, if_pos c2, rd_mid23 pre x t hi]
    simp only [Option.bind_some]
    rw [if_pos c3, e3, List.length_cons, List.replicate_succ, set_mid26 _ _ _ _ (by simpa using hi)]
theorem toFS (xs : List S23) (hl : xs.length ≤ 11728124029610) : Ev (fun k => laws_toFrameS.f k xs) (xs.map (fun x => (⟨x.f0, x.f1⟩ : S26))) := by
  have h := toS xs [] 0 rfl (by simpa using hl)
  simp only [List.nil_append, List.map_nil] at h
  exact Ev.congr (fun k => by simp only [laws_toFrameS.f]; rw [if_pos (by omega), if_pos (by simpa using hl)]; rfl) h
theorem eq26 (xs : List S26) (hx : xs.length ≤ 4611686018427387904) (d : Nat) : ∀ i : Int, 0 ≤ i → (xs.length : Int) - i = d → Ev (fun k => laws_eqFrameS.l0 k xs xs i) true := by
  induction d with
  | zero =>
    intro i h0 hd
    exact ev_at (fun k => by simp only [laws_eqFrameS.l0]; rw [if_neg (by omega)])
  | succ d ih =>
    intro i h0 hd
    refine Ev.step (fun k => ?_) (ih (i + 1) (by omega) (by omega))
    simp only [laws_eqFrameS.l0, laws_eqFrame.f]
    rw [if_pos (by omega), if_pos h0, if_pos (by omega)]
    simp only [if_true, Option.bind_some]
    rw [w64 (by omega) (by omega)]
theorem eqS26 (xs : List S26) (hx : xs.length ≤ 4611686018427387904) : Ev (fun k => laws_eqFrameS.f k xs xs) true :=
  Ev.congr (fun k => by simp only [laws_eqFrameS.f]; rw [if_pos trivial]) (eq26 xs hx xs.length 0 (by omega) (by omega))
noncomputable def mkF : Int → List S26 → List S26
  | _, [] => []
  | m, _ :: t => ⟨m, mt (m + 1)⟩ :: mkF (m + 2) t
theorem mkF_length (m : Int) (xs : List S26) : (mkF m xs).length = xs.length := by
  induction xs generalizing m with
  | nil => rfl
  | cons x t ih => simp [mkF, ih]
theorem markF (suf : List S26) : ∀ (pre : List S26) (m i : Int), i = pre.length → 0 ≤ m → m + 2 * suf.length ≤ 4611686018427387904 → pre.length + suf.length ≤ 4611686018427387904 →
    Ev (fun k => laws_markFrameS.l0 k (pre ++ suf) m i) (m + 2 * suf.length, pre ++ mkF m suf) := by
  induction suf with
  | nil =>
    intro pre m i hi h0 hm hl
    refine ev_at (fun k => ?_)
    simp only [laws_markFrameS.l0]
    rw [if_neg (by simp; omega)]
    simp [mkF]
  | cons x t ih =>
    intro pre m i hi h0 hm hl
    simp only [List.length_cons, Int.natCast_succ] at hm hl
    have h := ih (pre ++ [⟨m, mt (m + 1)⟩]) (m + 2) (i + 1) (by simp; omega) (by omega) (by omega) (by simp; omega)
    have e1 : wrap64 (m + 1) = m + 1 := w64 (by omega) (by omega)
    have e2 : wrap64 (m + 1 + 1) = m + 2 := by rw [w64 (by omega) (by omega)]; omega
    have e3 : wrap64 (i + 1) = i + 1 := w64 (by omega) (by omega)
    have hres : ((m + 2 * ((x :: t).length : Int), pre ++ mkF m (x :: t)) : Int × List S26) = (m + 2 + 2 * (t.length : Int), pre ++ [⟨m, mt (m + 1)⟩] ++ mkF (m + 2) t) := by
      simp [mkF]
      omega
    rw [hres]
    refine Ev.step (f := fun k => (laws_markText.f k (m + 1)).bind fun q => laws_markFrameS.l0 k (pre ++ ⟨m, q⟩ :: t) (m + 2) (i + 1)) (fun k => ?_) (Ev.bind (mt_ev (by omega)) ?_)
    · simp only [laws_markFrameS.l0]
      rw [if_pos (by simp; omega), if_pos (by omega)]
      simp only [Option.bind_some]
      rw [e1, e2, e3, set_mid26 pre x _ t hi]
      congr 1
      funext q
      rw [rd_mid26 pre _ t hi, set_mid26 pre _ _ t hi, rd_mid26 pre _ t hi]
    · simpa using h
theorem markFS (xs : List S26) (m : Int) (h0 : 0 ≤ m) (hm : m + 2 * xs.length ≤ 4611686018427387904) : Ev (fun k => laws_markFrameS.f k xs m) (m + 2 * xs.length, mkF m xs) := by
  have h := markF xs [] m 0 rfl h0 hm (by simp; omega)
  simp only [List.nil_append] at h
  exact h
theorem bytesOf_strOf : ∀ (l : List Int), (∀ x ∈ l, 0 ≤ x ∧ x < 256) → bytesOf (strOfNums l) = l := by
  intro l h
  unfold bytesOf
  rw [strOfNums_data, List.map_map]
  conv => rhs; rw [← List.map_id l]
  refine List.map_congr_left (fun x hx => ?_)
  obtain ⟨h0, h1⟩ := h x hx
  simp
  omega
/-- A frame's bytes. -/
def wd (n : Int) : List Int := [n % 256, n / 256 % 256, n / 65536 % 256, n / 16777216 % 256]
def pfv (tag : Int) (s : ByteArray) : List Int := if 0 ≤ tag ∧ tag ≤ 7 ∧ s.size ≤ 1000 then wd (8 * s.size + tag) ++ bytesOf s else []
theorem pfv_len (tag : Int) (s : ByteArray) : (pfv tag s).length ≤ 1004 := by
  unfold pfv
  split
  · rename_i h
    rw [List.length_append, bytesOf_length]
    simp [wd]
    omega
  · simp
theorem wd_range (n : Int) : ∀ x ∈ wd n, 0 ≤ x ∧ x < 256 := by
  intro x hx
  simp only [wd, List.mem_cons, List.not_mem_nil, or_false] at hx
  omega
theorem spec_ok (tag : Int) (s : ByteArray) : spec_FrameOk.f tag s = some (decide (0 ≤ tag ∧ tag ≤ 7 ∧ s.size ≤ 1000)) := by
  unfold spec_FrameOk.f spec_l01In.f
  by_cases h0 : tag ≥ 0
  · rw [if_pos h0]
    by_cases h1 : tag ≤ 7
    · simp [h0, h1]; omega
    · simp [h1]
  · rw [if_neg h0]
    have : ¬ 0 ≤ tag := by omega
    simp [this]
theorem spec_pf (tag : Int) (s : ByteArray) : spec_PutFrame.f tag s = some (pfv tag s) := by
  unfold spec_PutFrame.f
  rw [spec_ok, Option.bind_some]
  unfold pfv
  by_cases h : 0 ≤ tag ∧ tag ≤ 7 ∧ s.size ≤ 1000
  · rw [if_pos h, if_pos (decide_eq_true h)]
    obtain ⟨h0, h1, h2⟩ := h
    have e1 : wrap64 (8 * (s.size : Int)) = 8 * s.size := w64 (by omega) (by omega)
    have e2 : wrap64 (8 * (s.size : Int) + tag) = 8 * s.size + tag := w64 (by omega) (by omega)
    have e3 : (8 * (s.size : Int) + tag) % 4294967296 = 8 * s.size + tag := by omega
    rw [e1, e2, e3]
    have hn : spec_PutWord.f (8 * (s.size : Int) + tag) = some (wd (8 * s.size + tag)) := by
      generalize hk : 8 * (s.size : Int) + tag = n
      have e4 : wrap64 n = n := w64 (by omega) (by omega)
      unfold spec_PutWord.f wd
      rw [e4, Int.tdiv_eq_ediv_of_nonneg (by omega), Int.tdiv_eq_ediv_of_nonneg (by omega), Int.tdiv_eq_ediv_of_nonneg (by omega), w64 (x := n / 256) (by omega) (by omega), w64 (x := n / 65536) (by omega) (by omega), w64 (x := n / 16777216) (by omega) (by omega), Int.tmod_eq_emod_of_nonneg (by omega), Int.tmod_eq_emod_of_nonneg (by omega), Int.tmod_eq_emod_of_nonneg (by omega)]
      simp
    rw [hn, Option.bind_some, if_pos (by omega), Option.bind_some, if_pos (by rw [bytesOf_length]; simp [wd]; omega)]
  · rw [if_neg h, if_neg (by simpa using h)]
theorem ok_pos (x : S26) (h : impl_PutFrames.ok x = true) : 0 ≤ x.f0 ∧ x.f0 ≤ 7 ∧ x.f1.size ≤ 1000 := of_decide_eq_true h
theorem pfv_ft (x : S26) (h : impl_PutFrames.ok x = true) : pfv x.f0 x.f1 = bytesOf (impl_PutFrames.ft x) := by
  unfold pfv impl_PutFrames.ft
  rw [if_pos (ok_pos x h), bytesOf_append]
  rw [show impl_PutFrames.wd = wd from rfl, bytesOf_strOf _ (wd_range _)]
theorem all_acc (l : List S26) : ∀ acc : ByteArray, impl_PutFrames.all l acc = acc ++ impl_PutFrames.all l ⟨#[]⟩ := by
  induction l with
  | nil => intro acc; apply ByteArray.ext; simp [impl_PutFrames.all, ByteArray.data_append]
  | cons x t ih =>
    intro acc
    simp only [impl_PutFrames.all]
    rw [ih (acc ++ impl_PutFrames.ft x), ih ((⟨#[]⟩ : ByteArray) ++ impl_PutFrames.ft x)]
    apply ByteArray.ext
    simp [ByteArray.data_append, Array.append_assoc]
def pfsv (l : List S26) : List Int := if impl_PutFrames.fit l 0 = true then bytesOf (impl_PutFrames.all l ⟨#[]⟩) else []
theorem pfsv_len (l : List S26) : (pfsv l).length ≤ 100000 := by
  unfold pfsv
  split
  · rename_i h
    have := impl_PutFrames.all_size l 0 ⟨#[]⟩ (by decide) h
    have h0 : (⟨#[]⟩ : ByteArray).size = 0 := rfl
    rw [bytesOf_length]
    omega
  · simp
theorem impl_pfs (l : List S26) : impl_PutFrames.f l = some (pfsv l) := by
  unfold impl_PutFrames.f pfsv
  split <;> rfl
theorem spec_pfs0 (suf : List S26) : ∀ (pre : List S26) (acc : List Int) (i : Int), i = pre.length → pre.length + suf.length ≤ 4611686018427387904 → acc.length ≤ 100000 →
    Ev (fun k => spec_PutFrames.l0 k (pre ++ suf) acc i) (if impl_PutFrames.fit suf acc.length = true then acc ++ bytesOf (impl_PutFrames.all suf ⟨#[]⟩) else []) := by
  induction suf with
  | nil =>
    intro pre acc i hi hl ha
    refine ev_at (fun k => ?_)
    simp only [spec_PutFrames.l0]
    rw [if_neg (by simp; omega)]
    simp [impl_PutFrames.fit, impl_PutFrames.all, bytesOf]
  | cons x t ih =>
    intro pre acc i hi hl ha
    simp only [List.length_cons] at hl
    have e3 : wrap64 (i + 1) = i + 1 := w64 (by omega) (by omega)
    have c1 : i < ((pre ++ x :: t).length : Int) := by simp; omega
    have c2 : 0 ≤ i := by omega
    by_cases hk : impl_PutFrames.ok x = true
    · have hs1 := ok_pos x hk
      have hlen : (acc ++ bytesOf (impl_PutFrames.ft x)).length = acc.length + (4 + x.f1.size) := by rw [List.length_append, bytesOf_length, impl_PutFrames.ft_size]
      by_cases hb : ((acc ++ bytesOf (impl_PutFrames.ft x)).length : Int) > 100000
      · have hf : impl_PutFrames.fit (x :: t) acc.length = false := by
          simp only [impl_PutFrames.fit, hk, Bool.true_and]
          rw [decide_eq_false (by rw [hlen] at hb; omega), Bool.false_and]
        rw [if_neg (by rw [hf]; decide)]
        refine ev_at (fun k => ?_)
        simp only [spec_PutFrames.l0]
        rw [if_pos c1, if_pos c2, rd_mid26 pre x t hi, spec_ok, Option.bind_some, if_pos (decide_eq_true hs1), spec_pf, Option.bind_some, pfv_ft x hk, if_pos (by rw [List.length_append] at hlen; omega), Option.bind_some, if_pos hb]
      · have h := ih (pre ++ [x]) (acc ++ bytesOf (impl_PutFrames.ft x)) (i + 1) (by simp; omega) (by simp; omega) (by omega)
        have hf : impl_PutFrames.fit (x :: t) acc.length = impl_PutFrames.fit t ((acc ++ bytesOf (impl_PutFrames.ft x)).length : Int) := by
          simp only [impl_PutFrames.fit, hk, Bool.true_and]
          rw [hlen] at hb ⊢
          rw [decide_eq_true (by omega), Bool.true_and]
          congr 1
        have ha2 : acc ++ bytesOf (impl_PutFrames.all (x :: t) ⟨#[]⟩) = acc ++ bytesOf (impl_PutFrames.ft x) ++ bytesOf (impl_PutFrames.all t ⟨#[]⟩) := by
          simp only [impl_PutFrames.all]
          rw [all_acc t, bytesOf_append, bytesOf_append, List.append_assoc]
          simp [bytesOf]
        rw [hf, ha2]
        refine Ev.step (f := fun k => spec_PutFrames.l0 k (pre ++ x :: t) (acc ++ bytesOf (impl_PutFrames.ft x)) (i + 1)) (fun k => ?_) (by simpa using h)
        simp only [spec_PutFrames.l0]
        rw [if_pos c1, if_pos c2, rd_mid26 pre x t hi, spec_ok, Option.bind_some, if_pos (decide_eq_true hs1), spec_pf, Option.bind_some, pfv_ft x hk, if_pos (by rw [List.length_append] at hlen; omega), Option.bind_some, if_neg hb, e3]
    · have hf : impl_PutFrames.fit (x :: t) acc.length = false := by simp [impl_PutFrames.fit, hk]
      rw [if_neg (by rw [hf]; decide)]
      refine ev_at (fun k => ?_)
      simp only [spec_PutFrames.l0]
      rw [if_pos c1, if_pos c2, rd_mid26 pre x t hi, spec_ok, Option.bind_some, if_neg (by intro h; exact hk h)]
theorem spec_pfs (l : List S26) (hl : l.length ≤ 4611686018427387904) : Ev (fun k => spec_PutFrames.f k l) (pfsv l) := by
  have h := spec_pfs0 l [] [] 0 rfl (by simpa using hl) (by simp)
  simpa [spec_PutFrames.f, pfsv] using h
theorem FnExactPutFrames : laws_FnExactPutFrames.Pure := by
  intro l _ hl2 hx
  have hl : l.length ≤ 5864062014634 := by omega
  have hz := szFS l (by omega) (fun x hm => (hx x hm).2)
  by_cases hc : (if 1048576 - (l.length : Int) < 0 then -1 else szv (1048576 - l.length) l) < 0
  · refine Ev.rounds ?_
    simp only [laws_FnExactPutFrames.f]
    refine Ev.bind hz ?_
    exact ev_ret (fun k => by rw [if_pos hc])
  have hlen : ¬ 1048576 - (l.length : Int) < 0 := fun h => by rw [if_pos h] at hc; omega
  have hto := toFS l (by omega)
  have hml : (l.map (fun x => (⟨x.f0, x.f1⟩ : S26))).length = l.length := by simp
  generalize l.map (fun x => (⟨x.f0, x.f1⟩ : S26)) = m at hto hml
  have hs := spec_pfs m (by omega)
  have hi := impl_pfs m
  have hvl := pfsv_len m
  generalize pfsv m = v at hs hi hvl
  have he := eqBS v (by omega)
  have hef := eqS26 m (by omega)
  have hmf := markFS m 1 (by omega) (by omega)
  have hm := markBS v 1 (by omega) (by omega)
  have hh := heldBS v 1 (by omega) (by omega)
  have hj0 : Ev (fun k => laws_FnExactPutFrames.j0 k l v v (!true)) true := by
    refine Ev.step (fun k => by simp only [laws_FnExactPutFrames.j0]; rw [if_neg (by simp)]) (Ev.bind hm (Ev.bind hh ?_))
    refine Ev.congr (fun k => by rw [if_neg (by omega), if_pos rfl]) (Ev.bind hto ?_)
    refine Ev.congr (fun k => by rw [hi, Option.bind_some]) (Ev.bind he ?_)
    refine Ev.congr (fun k => by rw [if_pos rfl]) (Ev.bind hh ?_)
    exact ev_ret (fun k => by rw [if_neg (by omega), if_pos rfl])
  refine Ev.rounds ?_
  simp only [laws_FnExactPutFrames.f]
  refine Ev.bind hz ?_
  refine Ev.congr (fun k => by rw [if_neg hc]) (Ev.bind hto (Ev.bind hs (Ev.bind hto ?_)))
  refine Ev.congr (fun k => by rw [hi, Option.bind_some]) (Ev.bind he ?_)
  refine Ev.congr (fun k => by rw [if_pos rfl]) (Ev.bind hto (Ev.bind hef ?_))
  refine Ev.congr (fun k => by rw [if_pos rfl]) (Ev.bind hmf ?_)
  refine Ev.congr (fun k => by rw [if_neg (by omega)]) (Ev.bind he ?_)
  exact hj0
end Go.Proofs.Ytbiaakkmmkddfaa.Pure
