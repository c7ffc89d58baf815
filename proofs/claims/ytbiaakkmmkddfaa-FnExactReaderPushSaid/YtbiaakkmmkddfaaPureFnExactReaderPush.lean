/- The program's ReaderPush answers as the reference's, at all readers and bytes; it writes into no argument, and its answer is its own, behind a second call too. No condition beside the form's own reach. -/
import Derived.Test.YtbiaakkmmkddfaaPFnExactReaderPushx6
namespace Go.Proofs.Ytbiaakkmmkddfaa.Pure
open Go.RowKit Go.Proofs.Ytbiaakkmmkddfaa.PFnExactReaderPush Go.Proofs.YtbiaakkmmkddfaaW.PrintWords Go.Proofs.YtbiaakkmmkddfaaW.PrintLast Go.Proofs.YtbiaakkmmkddfaaW.PrintMore
theorem w64 {x : Int} (h0 : -9223372036854775808 ≤ x) (h1 : x ≤ 9223372036854775807) : wrap64 x = x := by unfold wrap64; omega
theorem emp_iff (s : ByteArray) : s.toList = ([] : List UInt8) ↔ s.size = 0 := by
  rw [ByteArray.toList_eq]
  obtain ⟨⟨d⟩⟩ := s
  cases d <;> simp [ByteArray.size]
theorem ev_at {α : Type} {g : Nat → Option α} {r : α} (h : ∀ k, g (k + 1) = some r) : Ev g r := ⟨1, fun k hk => by
  obtain ⟨j, rfl⟩ : ∃ j, k = j + 1 := ⟨k - 1, by omega⟩
  exact h j⟩
theorem ev_ret {α : Type} {g : Nat → Option α} {r : α} (h : ∀ k, g k = some r) : Ev g r := ⟨0, fun k _ => h k⟩
theorem ev_det {α : Type} {g : Nat → Option α} {r s : α} (h : Ev g r) (k : Ev g s) : r = s := by
  obtain ⟨K, h⟩ := h
  obtain ⟨L, k⟩ := k
  have h1 := h (K + L) (by omega)
  have h2 := k (K + L) (by omega)
  rw [h1] at h2
  exact Option.some.inj h2
theorem ba_ext {a b : ByteArray} (h : a.toList = b.toList) : a = b := by
  rw [ByteArray.toList_eq, ByteArray.toList_eq] at h
  exact ByteArray.ext (Array.toList_inj.1 h)
theorem bytesOf_append (a b : ByteArray) : bytesOf (a ++ b) = bytesOf a ++ bytesOf b := by simp [bytesOf, ByteArray.data_append]
theorem strOf_bytesOf (s : ByteArray) : strOfNums (bytesOf s) = s := by
  apply ByteArray.ext
  apply Array.toList_inj.1
  rw [strOfNums_data, bytesOf, List.map_map]
  exact (List.map_congr_left (fun b _ => by simp)).trans (List.map_id _)
theorem bytesOf_inj {a b : ByteArray} (h : bytesOf a = bytesOf b) : a = b := by rw [← strOf_bytesOf a, h, strOf_bytesOf]
theorem tdiv10 {n : Int} (h0 : 0 < n) (h1 : n ≤ 9223372036854775807) : wrap64 (Int.tdiv n 10) = n / 10 := by
  rw [Int.tdiv_eq_ediv_of_nonneg (by omega)]
  exact w64 (by omega) (by omega)
theorem one_size (x : Int) : (strOfNums [x]).size = 1 := by rw [strOfNums_size]; rfl
theorem mark_l0 (d : Nat) : ∀ (n : Int) (s : ByteArray), n < 10 ^ d → n ≤ 9223372036854775807 → s.size + d ≤ 1000 → ∃ r, Ev (fun k => laws_markText.l0 k n s) r := by
  induction d with
  | zero =>
    intro n s hn _ hs
    exact ⟨(⟨#[109]⟩ : ByteArray) ++ s, ev_at (fun k => by simp only [laws_markText.l0]; rw [if_neg (by simp at hn; omega), if_pos (by omega)])⟩
  | succ d ih =>
    intro n s hn hb hs
    by_cases h0 : n > 0
    · have hsz : (strOfNums [(wrap64 (48 + (Int.tmod n 10))) % 256] ++ s).size = 1 + s.size := by rw [ByteArray.size_append, one_size]
      obtain ⟨r, h⟩ := ih (n / 10) (strOfNums [(wrap64 (48 + (Int.tmod n 10))) % 256] ++ s) (by rw [Int.pow_succ] at hn; omega) (by omega) (by omega)
      refine ⟨r, Ev.step (fun k => ?_) h⟩
      simp only [laws_markText.l0]
      rw [if_pos h0]
      simp only [Option.bind_some]
      rw [if_pos (by rw [one_size]; omega), tdiv10 h0 hb]
    · exact ⟨(⟨#[109]⟩ : ByteArray) ++ s, ev_at (fun k => by simp only [laws_markText.l0]; rw [if_neg h0, if_pos (by omega)])⟩
theorem mark_total {n : Int} (hn : n ≤ 9223372036854775807) : ∃ r, Ev (fun k => laws_markText.f k n) r := by
  by_cases h : n ≤ 0
  · exact ⟨_, 0, fun k _ => by simp only [laws_markText.f]; rw [if_pos h]⟩
  · obtain ⟨r, hr⟩ := mark_l0 19 n ⟨#[]⟩ (by have : (10 : Int) ^ 19 = 10000000000000000000 := by decide
                                             omega) hn (by decide)
    exact ⟨r, Ev.congr (fun k => by simp only [laws_markText.f]; rw [if_neg h]) hr⟩
noncomputable def mt (n : Int) : ByteArray := open Classical in if h : ∃ r, Ev (fun k => laws_markText.f k n) r then h.choose else ⟨#[]⟩
theorem mt_ev {n : Int} (hn : n ≤ 9223372036854775807) : Ev (fun k => laws_markText.f k n) (mt n) := by
  have h := mark_total hn
  unfold mt
  rw [dif_pos h]
  exact h.choose_spec
theorem rd_midB (pre : List Int) (x : Int) (t : List Int) {i : Int} (hi : i = pre.length) : rd (pre ++ x :: t) i = x := by
  subst hi
  simp [rd]
theorem set_midB (pre : List Int) (x y : Int) (t : List Int) {i : Int} (hi : i = pre.length) : (pre ++ x :: t).set i.toNat y = pre ++ y :: t := by
  subst hi
  simp
theorem toB (suf : List Int) : ∀ (pre : List Int) (i : Int), i = pre.length → pre.length + suf.length ≤ 281474976710656 →
    Ev (fun k => laws_toByteS.l0 k (pre ++ suf) (pre ++ List.replicate suf.length 0) i) (pre ++ suf) := by
  induction suf with
  | nil =>
    intro pre i hi hl
    refine ev_at (fun k => ?_)
    simp only [laws_toByteS.l0]
    rw [if_neg (by simp; omega)]
    simp
  | cons x t ih =>
    intro pre i hi hl
    simp only [List.length_cons] at hl
    have h := ih (pre ++ [x]) (i + 1) (by simp; omega) (by simp; omega)
    have e3 : wrap64 (i + 1) = i + 1 := w64 (by omega) (by omega)
    have c1 : i < ((pre ++ x :: t).length : Int) := by simp; omega
    have c2 : 0 ≤ i := by omega
    have c3 : i < ((pre ++ List.replicate (x :: t).length (0 : Int)).length : Int) := by simp; omega
    refine Ev.step (f := fun k => laws_toByteS.l0 k (pre ++ x :: t) (pre ++ x :: List.replicate t.length 0) (i + 1)) (fun k => ?_) (by simpa using h)
    simp only [laws_toByteS.l0]
    rw [if_pos c1, if_pos c2, if_pos c3, rd_midB pre x t hi, e3, List.length_cons, List.replicate_succ, set_midB _ _ _ _ hi]
theorem toBS (xs : List Int) (hl : xs.length ≤ 281474976710656) : Ev (fun k => laws_toByteS.f k xs) xs := by
  have h := toB xs [] 0 rfl (by simpa using hl)
  exact Ev.congr (fun k => by simp only [laws_toByteS.f]; rw [if_pos (by omega), if_pos (by simpa using hl)]; rfl) h
theorem eqB (xs : List Int) (hx : xs.length ≤ 4611686018427387904) (d : Nat) : ∀ i : Int, 0 ≤ i → (xs.length : Int) - i = d → Ev (fun k => laws_eqByteS.l0 k xs xs i) true := by
  induction d with
  | zero =>
    intro i h0 hd
    exact ev_at (fun k => by simp only [laws_eqByteS.l0]; rw [if_neg (by omega)])
  | succ d ih =>
    intro i h0 hd
    refine Ev.step (fun k => ?_) (ih (i + 1) (by omega) (by omega))
    simp only [laws_eqByteS.l0]
    rw [if_pos (by omega), if_pos h0, if_pos (by omega)]
    simp only [if_true]
    rw [w64 (by omega) (by omega)]
theorem eqBS (xs : List Int) (hx : xs.length ≤ 4611686018427387904) : Ev (fun k => laws_eqByteS.f k xs xs) true :=
  Ev.congr (fun k => by simp only [laws_eqByteS.f]; rw [if_pos trivial]) (eqB xs hx xs.length 0 (by omega) (by omega))
def mkB : Int → List Int → List Int
  | _, [] => []
  | m, _ :: t => (m % 256) :: mkB (m + 1) t
theorem mkB_length (m : Int) (xs : List Int) : (mkB m xs).length = xs.length := by
  induction xs generalizing m with
  | nil => rfl
  | cons x t ih => simp [mkB, ih]
theorem markB (suf : List Int) : ∀ (pre : List Int) (m i : Int), i = pre.length → 0 ≤ m → m + suf.length ≤ 4611686018427387904 → pre.length + suf.length ≤ 4611686018427387904 →
    Ev (fun k => laws_markByteS.l0 k (pre ++ suf) m i) (m + suf.length, pre ++ mkB m suf) := by
  induction suf with
  | nil =>
    intro pre m i hi h0 hm hl
    refine ev_at (fun k => ?_)
    simp only [laws_markByteS.l0]
    rw [if_neg (by simp; omega)]
    simp [mkB]
  | cons x t ih =>
    intro pre m i hi h0 hm hl
    simp only [List.length_cons, Int.natCast_succ] at hm hl
    have h := ih (pre ++ [m % 256]) (m + 1) (i + 1) (by simp; omega) (by omega) (by omega) (by simp; omega)
    have e1 : wrap64 (m + 1) = m + 1 := w64 (by omega) (by omega)
    have e3 : wrap64 (i + 1) = i + 1 := w64 (by omega) (by omega)
    have hres : ((m + ((x :: t).length : Int), pre ++ mkB m (x :: t)) : Int × List Int) = (m + 1 + (t.length : Int), pre ++ [m % 256] ++ mkB (m + 1) t) := by
      simp [mkB]
      omega
    rw [hres]
    refine Ev.step (f := fun k => laws_markByteS.l0 k (pre ++ (m % 256) :: t) (m + 1) (i + 1)) (fun k => ?_) (by simpa using h)
    simp only [laws_markByteS.l0]
    rw [if_pos (by simp; omega), if_pos (by omega), set_midB pre x _ t hi, e1, e3]
theorem markBS (xs : List Int) (m : Int) (h0 : 0 ≤ m) (hm : m + xs.length ≤ 4611686018427387904) : Ev (fun k => laws_markByteS.f k xs m) (m + xs.length, mkB m xs) := by
  have h := markB xs [] m 0 rfl h0 hm (by simp; omega)
  simp only [List.nil_append] at h
  exact h
theorem rd_mid23 (pre : List S23) (x : S23) (t : List S23) {i : Int} (hi : i = pre.length) : rd_T23 (pre ++ x :: t) i = x := by
  subst hi
  simp [rd_T23]
theorem set_mid23 (pre : List S23) (x y : S23) (t : List S23) {i : Int} (hi : i = pre.length) : (pre ++ x :: t).set i.toNat y = pre ++ y :: t := by
  subst hi
  simp
theorem rd_mid26 (pre : List S26) (x : S26) (t : List S26) {i : Int} (hi : i = pre.length) : rd_T26 (pre ++ x :: t) i = x := by
  subst hi
  simp [rd_T26]
theorem set_mid26 (pre : List S26) (x y : S26) (t : List S26) {i : Int} (hi : i = pre.length) : (pre ++ x :: t).set i.toNat y = pre ++ y :: t := by
  subst hi
  simp
def szF : List S23 → Nat
  | [] => 0
  | x :: t => x.f1.size + szF t
def szv : Int → List S23 → Int
  | l, [] => l
  | l, x :: t => if l - x.f1.size < 0 then -1 else szv (l - x.f1.size) t
theorem szv_some : ∀ (xs : List S23) (l : Int), 0 ≤ l → ¬ szv l xs < 0 → (szF xs : Int) ≤ l := by
  intro xs
  induction xs with
  | nil => intro l h0 _; simpa [szF] using h0
  | cons x t ih =>
    intro l h0 h
    simp only [szv] at h
    by_cases hc : l - x.f1.size < 0
    · rw [if_pos hc] at h; omega
    · rw [if_neg hc] at h
      have := ih (l - x.f1.size) (by omega) h
      simp only [szF]
      omega
theorem szS (suf : List S23) : ∀ (pre : List S23) (l i : Int), i = pre.length → 0 ≤ l → l ≤ 1048576 → pre.length + suf.length ≤ 4611686018427387904 → (∀ x ∈ suf, x.f1.size ≤ 140737488351232) →
    Ev (fun k => laws_szFrameS.l0 k (pre ++ suf) l i) (szv l suf) := by
  induction suf with
  | nil =>
    intro pre l i hi h0 h1 hl _
    refine ev_at (fun k => ?_)
    simp only [laws_szFrameS.l0]
    rw [if_neg (by simp; omega)]
    rfl
  | cons x t ih =>
    intro pre l i hi h0 h1 hl hx
    have hxs := hx x (List.mem_cons_self ..)
    simp only [List.length_cons] at hl
    have e1 : wrap64 (l - (x.f1.size : Int)) = l - x.f1.size := w64 (by omega) (by omega)
    have e3 : wrap64 (i + 1) = i + 1 := w64 (by omega) (by omega)
    have c1 : i < ((pre ++ x :: t).length : Int) := by simp; omega
    have c2 : 0 ≤ i := by omega
    by_cases hc : l - (x.f1.size : Int) < 0
    · rw [show szv l (x :: t) = -1 by simp only [szv]; rw [if_pos hc]]
      refine ev_at (fun k => ?_)
      simp only [laws_szFrameS.l0, laws_szFrame.f]
      rw [if_pos c1, if_pos c2, rd_mid23 pre x t hi, e1, if_pos hc]
      rfl
    · rw [show szv l (x :: t) = szv (l - x.f1.size) t by simp only [szv]; rw [if_neg hc]]
      have h := ih (pre ++ [x]) (l - x.f1.size) (i + 1) (by simp; omega) (by omega) (by omega) (by simp; omega) (fun y hy => hx y (List.mem_cons_of_mem _ hy))
      refine Ev.step (f := fun k => laws_szFrameS.l0 k (pre ++ x :: t) (l - x.f1.size) (i + 1)) (fun k => ?_) (by simpa using h)
      simp only [laws_szFrameS.l0, laws_szFrame.f]
      rw [if_pos c1, if_pos c2, rd_mid23 pre x t hi, e1, if_neg hc]
      simp only [Option.bind_some]
      rw [if_neg hc, e3]
theorem szFSl (xs : List S23) (b : Int) (hb0 : 0 ≤ b) (hb1 : b ≤ 1048576) (hl : xs.length ≤ 140737488355327) (hx : ∀ x ∈ xs, x.f1.size ≤ 140737488351232) :
    Ev (fun k => laws_szFrameS.f k xs b) (if b - (xs.length : Int) < 0 then -1 else szv (b - xs.length) xs) := by
  have e1 : wrap64 (b - (xs.length : Int)) = b - xs.length := w64 (by omega) (by omega)
  by_cases hc : b - (xs.length : Int) < 0
  · rw [if_pos hc]
    exact ev_ret (fun k => by simp only [laws_szFrameS.f]; rw [e1, if_pos hc])
  · rw [if_neg hc]
    have h := szS xs [] (b - xs.length) 0 rfl (by omega) (by omega) (by simp; omega) hx
    exact Ev.congr (fun k => by simp only [laws_szFrameS.f]; rw [e1, if_neg hc]; rfl) h
theorem szFS (xs : List S23) (hl : xs.length ≤ 140737488355327) (hx : ∀ x ∈ xs, x.f1.size ≤ 140737488351232) :
    Ev (fun k => laws_szFrameS.f k xs 1048576) (if 1048576 - (xs.length : Int) < 0 then -1 else szv (1048576 - xs.length) xs) := szFSl xs _ (by decide) (by decide) hl hx
theorem toS (suf : List S23) : ∀ (pre : List S23) (i : Int), i = pre.length → pre.length + suf.length ≤ 11728124029610 →
    Ev (fun k => laws_toFrameS.l0 k (pre ++ suf) (pre.map (fun x => (⟨x.f0, x.f1⟩ : S26)) ++ List.replicate suf.length z26) i) ((pre ++ suf).map (fun x => (⟨x.f0, x.f1⟩ : S26))) := by
  induction suf with
  | nil =>
    intro pre i hi hl
    refine ev_at (fun k => ?_)
    simp only [laws_toFrameS.l0]
    rw [if_neg (by simp; omega)]
    simp
  | cons x t ih =>
    intro pre i hi hl
    simp only [List.length_cons] at hl
    have h := ih (pre ++ [x]) (i + 1) (by simp; omega) (by simp; omega)
    have e3 : wrap64 (i + 1) = i + 1 := w64 (by omega) (by omega)
    have c1 : i < ((pre ++ x :: t).length : Int) := by simp; omega
    have c2 : 0 ≤ i := by omega
    have c3 : i < ((pre.map (fun x => (⟨x.f0, x.f1⟩ : S26)) ++ List.replicate (x :: t).length z26).length : Int) := by simp; omega
    refine Ev.step (f := fun k => laws_toFrameS.l0 k (pre ++ x :: t) (pre.map (fun x => (⟨x.f0, x.f1⟩ : S26)) ++ (⟨x.f0, x.f1⟩ : S26) :: List.replicate t.length z26) (i + 1)) (fun k => ?_) (by simpa using h)
    simp only [laws_toFrameS.l0, laws_toFrame.f]
    rw [if_pos c1, if_pos c2, rd_mid23 pre x t hi]
    simp only [Option.bind_some]
    rw [if_pos c3, e3, List.length_cons, List.replicate_succ, set_mid26 _ _ _ _ (by simpa using hi)]
theorem toFS (xs : List S23) (hl : xs.length ≤ 11728124029610) : Ev (fun k => laws_toFrameS.f k xs) (xs.map (fun x => (⟨x.f0, x.f1⟩ : S26))) := by
  have h := toS xs [] 0 rfl (by simpa using hl)
  simp only [List.nil_append, List.map_nil] at h
  exact Ev.congr (fun k => by simp only [laws_toFrameS.f]; rw [if_pos (by omega), if_pos (by simpa using hl)]; rfl) h
theorem eq26 (xs : List S26) (hx : xs.length ≤ 4611686018427387904) (d : Nat) : ∀ i : Int, 0 ≤ i → (xs.length : Int) - i = d → Ev (fun k => laws_eqFrameS.l0 k xs xs i) true := by
  induction d with
  | zero =>
    intro i h0 hd
    exact ev_at (fun k => by simp only [laws_eqFrameS.l0]; rw [if_neg (by omega)])
  | succ d ih =>
    intro i h0 hd
    refine Ev.step (fun k => ?_) (ih (i + 1) (by omega) (by omega))
    simp only [laws_eqFrameS.l0, laws_eqFrame.f]
    rw [if_pos (by omega), if_pos h0, if_pos (by omega)]
    simp only [if_true, Option.bind_some]
    rw [w64 (by omega) (by omega)]
theorem eqS26 (xs : List S26) (hx : xs.length ≤ 4611686018427387904) : Ev (fun k => laws_eqFrameS.f k xs xs) true :=
  Ev.congr (fun k => by simp only [laws_eqFrameS.f]; rw [if_pos trivial]) (eq26 xs hx xs.length 0 (by omega) (by omega))
noncomputable def mkF : Int → List S26 → List S26
  | _, [] => []
  | m, _ :: t => ⟨m, mt (m + 1)⟩ :: mkF (m + 2) t
theorem mkF_length (m : Int) (xs : List S26) : (mkF m xs).length = xs.length := by
  induction xs generalizing m with
  | nil => rfl
  | cons x t ih => simp [mkF, ih]
theorem markF (suf : List S26) : ∀ (pre : List S26) (m i : Int), i = pre.length → 0 ≤ m → m + 2 * suf.length ≤ 4611686018427387904 → pre.length + suf.length ≤ 4611686018427387904 →
    Ev (fun k => laws_markFrameS.l0 k (pre ++ suf) m i) (m + 2 * suf.length, pre ++ mkF m suf) := by
  induction suf with
  | nil =>
    intro pre m i hi h0 hm hl
    refine ev_at (fun k => ?_)
    simp only [laws_markFrameS.l0]
    rw [if_neg (by simp; omega)]
    simp [mkF]
  | cons x t ih =>
    intro pre m i hi h0 hm hl
    simp only [List.length_cons, Int.natCast_succ] at hm hl
    have h := ih (pre ++ [⟨m, mt (m + 1)⟩]) (m + 2) (i + 1) (by simp; omega) (by omega) (by omega) (by simp; omega)
    have e1 : wrap64 (m + 1) = m + 1 := w64 (by omega) (by omega)
    have e2 : wrap64 (m + 1 + 1) = m + 2 := by rw [w64 (by omega) (by omega)]; omega
    have e3 : wrap64 (i + 1) = i + 1 := w64 (by omega) (by omega)
    have hres : ((m + 2 * ((x :: t).length : Int), pre ++ mkF m (x :: t)) : Int × List S26) = (m + 2 + 2 * (t.length : Int), pre ++ [⟨m, mt (m + 1)⟩] ++ mkF (m + 2) t) := by
      simp [mkF]
      omega
    rw [hres]
    refine Ev.step (f := fun k => (laws_markText.f k (m + 1)).bind fun q => laws_markFrameS.l0 k (pre ++ ⟨m, q⟩ :: t) (m + 2) (i + 1)) (fun k => ?_) (Ev.bind (mt_ev (by omega)) ?_)
    · simp only [laws_markFrameS.l0]
      rw [if_pos (by simp; omega), if_pos (by omega)]
      simp only [Option.bind_some]
      rw [e1, e2, e3, set_mid26 pre x _ t hi]
      congr 1
      funext q
      rw [rd_mid26 pre _ t hi, set_mid26 pre _ _ t hi, rd_mid26 pre _ t hi]
    · simpa using h
theorem heldF (suf : List S26) : ∀ (pre : List S26) (m i : Int), i = pre.length → 0 ≤ m → m + 2 * suf.length ≤ 4611686018427387904 → pre.length + suf.length ≤ 4611686018427387904 →
    Ev (fun k => laws_heldFrameS.l0 k (pre ++ mkF m suf) m i) (m + 2 * suf.length) := by
  induction suf with
  | nil =>
    intro pre m i hi h0 hm hl
    refine ev_at (fun k => ?_)
    simp only [laws_heldFrameS.l0]
    rw [if_neg (by simp [mkF]; omega)]
    simp
  | cons x t ih =>
    intro pre m i hi h0 hm hl
    simp only [List.length_cons, Int.natCast_succ] at hm hl
    have h := ih (pre ++ [⟨m, mt (m + 1)⟩]) (m + 2) (i + 1) (by simp; omega) (by omega) (by omega) (by simp; omega)
    have e1 : wrap64 (m + 1) = m + 1 := w64 (by omega) (by omega)
    have e2 : wrap64 (m + 1 + 1) = m + 2 := by rw [w64 (by omega) (by omega)]; omega
    have e3 : wrap64 (i + 1) = i + 1 := w64 (by omega) (by omega)
    have hres : m + 2 * ((x :: t).length : Int) = m + 2 + 2 * (t.length : Int) := by simp; omega
    rw [hres]
    refine Ev.step (f := fun k => (laws_markText.f k (m + 1)).bind fun q => if (mt (m + 1)).toList = q.toList then laws_heldFrameS.l0 k (pre ++ mkF m (x :: t)) (m + 2) (i + 1) else some (-1)) (fun k => ?_) (Ev.bind (mt_ev (by omega)) ?_)
    · rw [show mkF m (x :: t) = (⟨m, mt (m + 1)⟩ : S26) :: mkF (m + 2) t from rfl]
      simp only [laws_heldFrameS.l0]
      have c1 : i < ((pre ++ (⟨m, mt (m + 1)⟩ : S26) :: mkF (m + 2) t).length : Int) := by simp; omega
      have c2 : 0 ≤ i := by omega
      rw [if_pos c1, if_pos c2, rd_mid26 pre _ _ hi, e1, e2, e3]
      simp only [if_true]
    · simp only [if_pos]
      simpa [mkF] using h
theorem markFS (xs : List S26) (m : Int) (h0 : 0 ≤ m) (hm : m + 2 * xs.length ≤ 4611686018427387904) : Ev (fun k => laws_markFrameS.f k xs m) (m + 2 * xs.length, mkF m xs) := by
  have h := markF xs [] m 0 rfl h0 hm (by simp; omega)
  simp only [List.nil_append] at h
  exact h
theorem heldFS (xs : List S26) (m : Int) (h0 : 0 ≤ m) (hm : m + 2 * xs.length ≤ 4611686018427387904) : Ev (fun k => laws_heldFrameS.f k (mkF m xs) m) (m + 2 * xs.length) := by
  have h := heldF xs [] m 0 rfl h0 hm (by simp; omega)
  simp only [List.nil_append] at h
  exact h
theorem bt_nn (s : ByteArray) (i : Int) : 0 ≤ bt s i := by unfold bt; split <;> omega
theorem bt_le (s : ByteArray) (i : Int) : bt s i ≤ 255 := by
  unfold bt
  split
  · rename_i h
    have := (s[i.toNat]'h).toNat_lt
    omega
  · omega
theorem or_sum (i j : Nat) (hj : j ≤ 32) (hij : i ≤ j) (x y : Int) (hx0 : 0 ≤ x) (hx : x < 2 ^ i) (hy0 : 0 ≤ y) (hy : y % 2 ^ i = 0) (hy1 : y < 2 ^ j) : Go.bits .or .u32 x y = x + y := by
  have hx1 : x < 2 ^ j := Int.lt_of_lt_of_le hx (by exact_mod_cast Nat.pow_le_pow_right (by decide) hij)
  have wr : ∀ n : Int, 0 ≤ n → n < 2 ^ j → IntKind.u32.wrap n = n := by
    intro n h0 h1
    have : (2 : Int) ^ j ≤ 2 ^ 32 := by exact_mod_cast Nat.pow_le_pow_right (by decide) hj
    rw [IntKind.wrap_u32]
    have e : (2 : Int) ^ 32 = 4294967296 := by decide
    omega
  have h := bits_join .u32 j hj wr i y x hy0 hy hy1 hx0 hx hx1
  obtain ⟨a, rfl⟩ := Int.eq_ofNat_of_zero_le hx0
  obtain ⟨b, rfl⟩ := Int.eq_ofNat_of_zero_le hy0
  have ha : a < 2 ^ j := by exact_mod_cast hx1
  have hb : b < 2 ^ j := by exact_mod_cast hy1
  rw [(bits_nat .u32 j hj wr a b ha hb).2, Nat.or_comm, ← (bits_nat .u32 j hj wr b a hb ha).2, h]
  omega
/-- The word of a text's first four bytes. -/
def WD (s : ByteArray) : Int := bt s 0 + 256 * bt s 1 + 65536 * bt s 2 + 16777216 * bt s 3
theorem WD_nn (s : ByteArray) : 0 ≤ WD s := by
  have := bt_nn s 0; have := bt_nn s 1; have := bt_nn s 2; have := bt_nn s 3
  unfold WD; omega
theorem WD_lt (s : ByteArray) : WD s < 4294967296 := by
  have := bt_le s 0; have := bt_le s 1; have := bt_le s 2; have := bt_le s 3
  unfold WD; omega
theorem word_or (a b c d : Int) (a0 : 0 ≤ a) (a1 : a ≤ 255) (b0 : 0 ≤ b) (b1 : b ≤ 255) (c0 : 0 ≤ c) (c1 : c ≤ 255) (d0 : 0 ≤ d) (d1 : d ≤ 255) :
    Go.bits .or .u32 (Go.bits .or .u32 (Go.bits .or .u32 (a % 4294967296) (((b % 4294967296) * 256) % 4294967296)) (((c % 4294967296) * 65536) % 4294967296)) (((d % 4294967296) * 16777216) % 4294967296) = a + 256 * b + 65536 * c + 16777216 * d := by
  rw [show a % 4294967296 = a by omega, show ((b % 4294967296) * 256) % 4294967296 = b * 256 by omega, show ((c % 4294967296) * 65536) % 4294967296 = c * 65536 by omega, show ((d % 4294967296) * 16777216) % 4294967296 = d * 16777216 by omega]
  rw [or_sum 8 16 (by decide) (by decide) a (b * 256) a0 (by omega) (by omega) (by omega) (by omega)]
  rw [or_sum 16 24 (by decide) (by decide) (a + b * 256) (c * 65536) (by omega) (by omega) (by omega) (by omega) (by omega)]
  rw [or_sum 24 32 (by decide) (by decide) (a + b * 256 + c * 65536) (d * 16777216) (by omega) (by omega) (by omega) (by omega) (by omega)]
  omega
theorem bt_extract (s : ByteArray) (n : Nat) (hn : n ≤ s.size) (i : Nat) (hi : i < n) : bt (s.extract 0 n) i = bt s i := by
  unfold bt
  have h1 : ((i : Int)).toNat < (s.extract 0 n).size := by simp; omega
  have h2 : ((i : Int)).toNat < s.size := by simp; omega
  rw [dif_pos h1, dif_pos h2]
  simp only [Int.toNat_natCast, ByteArray.getElem_extract, Nat.zero_add]
theorem spec_word (s : ByteArray) (h : 4 ≤ s.size) : spec_GetWord.f (bytesOf (s.extract 0 4)) = some (WD s, true) := by
  have hl : ((bytesOf (s.extract 0 4)).length : Int) = 4 := by rw [bytesOf_length]; simp; omega
  have a0 := bt_nn s 0; have b0 := bt_nn s 1; have c0 := bt_nn s 2; have d0 := bt_nn s 3
  have a1 := bt_le s 0; have b1 := bt_le s 1; have c1 := bt_le s 2; have d1 := bt_le s 3
  unfold spec_GetWord.f
  rw [if_pos hl, if_pos (by omega), if_pos (by omega), if_pos (by omega), if_pos (by omega)]
  rw [rd_bytesOf, rd_bytesOf, rd_bytesOf, rd_bytesOf]
  rw [show (0 : Int) = ((0 : Nat) : Int) from rfl, show (1 : Int) = ((1 : Nat) : Int) from rfl, show (2 : Int) = ((2 : Nat) : Int) from rfl, show (3 : Int) = ((3 : Nat) : Int) from rfl, bt_extract s 4 h 0 (by decide), bt_extract s 4 h 1 (by decide), bt_extract s 4 h 2 (by decide), bt_extract s 4 h 3 (by decide)]
  simp only [Int.cast_ofNat_Int] at *
  rw [w64 (x := bt s 0) (by omega) (by omega), w64 (x := bt s 1) (by omega) (by omega), w64 (x := bt s 2) (by omega) (by omega), w64 (x := bt s 3) (by omega) (by omega)]
  rw [w64 (x := 256 * bt s 1) (by omega) (by omega), w64 (x := 65536 * bt s 2) (by omega) (by omega), w64 (x := 16777216 * bt s 3) (by omega) (by omega)]
  rw [w64 (x := bt s 0 + 256 * bt s 1) (by omega) (by omega), w64 (x := bt s 0 + 256 * bt s 1 + 65536 * bt s 2) (by omega) (by omega), w64 (x := bt s 0 + 256 * bt s 1 + 65536 * bt s 2 + 16777216 * bt s 3) (by omega) (by omega)]
  have : (bt s 0 + 256 * bt s 1 + 65536 * bt s 2 + 16777216 * bt s 3) % 4294967296 = WD s := by unfold WD; omega
  rw [this]
theorem impl_word (s : ByteArray) (h : 4 ≤ s.size) : impl_readWord.f s = some (WD s) := by
  unfold impl_readWord.f
  rw [if_pos (by omega), if_pos (by omega), if_pos (by omega), if_pos (by omega)]
  rw [word_or _ _ _ _ (bt_nn s 0) (bt_le s 0) (bt_nn s 1) (bt_le s 1) (bt_nn s 2) (bt_le s 2) (bt_nn s 3) (bt_le s 3)]
  rfl
/-- The frames of a text, and what is left of it. -/
def rp : Nat → ByteArray → List S26 → ByteArray × List S26 × Bool
  | 0, s, acc => (s, acc, false)
  | n + 1, s, acc => if s.size < 4 then (s, acc, false) else if WD s > 8007 then (⟨#[]⟩, acc, true) else if (s.size : Int) < 4 + WD s / 8 then (s, acc, false) else rp n (s.extract (4 + WD s / 8).toNat s.size) (acc ++ [⟨WD s % 8, s.extract 4 (4 + WD s / 8).toNat⟩])
theorem spec_rp (n : Nat) : ∀ (s : ByteArray) (acc : List S26), s.size ≤ n → acc.length + n ≤ 4611686018427 → Ev (fun k => spec_ReaderPush.l0 k s ⟨#[]⟩ acc true) (rp n s acc) := by
  induction n with
  | zero =>
    intro s acc hs hb
    exact ev_at (fun k => by simp only [spec_ReaderPush.l0]; rw [if_neg (by omega)]; rfl)
  | succ n ih =>
    intro s acc hs hb
    by_cases h4 : s.size < 4
    · rw [show rp (n + 1) s acc = (s, acc, false) by simp only [rp]; rw [if_pos h4]]
      exact ev_at (fun k => by simp only [spec_ReaderPush.l0]; rw [if_neg (by omega)])
    have hw0 := WD_nn s
    have hw1 := WD_lt s
    have e1 : wrap64 (WD s) = WD s := w64 (by omega) (by omega)
    have e2 : wrap64 (Int.tdiv (WD s) 8) = WD s / 8 := by rw [Int.tdiv_eq_ediv_of_nonneg hw0]; exact w64 (by omega) (by omega)
    have e3 : wrap64 (4 + WD s / 8) = 4 + WD s / 8 := w64 (by omega) (by omega)
    have e4 : Int.tmod (WD s) 8 = WD s % 8 := Int.tmod_eq_emod_of_nonneg hw0
    have hx : (s.extract 0 4).size ≤ 9223372036854775807 := by simp; omega
    by_cases hbad : WD s > 8007
    · rw [show rp (n + 1) s acc = (⟨#[]⟩, acc, true) by simp only [rp]; rw [if_neg h4, if_pos hbad]]
      refine ev_at (fun k => ?_)
      simp only [spec_ReaderPush.l0]
      rw [if_pos (by omega), if_pos (by decide), if_pos (by omega), if_pos hx, spec_word s (by omega)]
      simp only [Option.bind_some]
      rw [e1, e2, if_pos (by omega)]
    by_cases hsh : (s.size : Int) < 4 + WD s / 8
    · rw [show rp (n + 1) s acc = (s, acc, false) by simp only [rp]; rw [if_neg h4, if_neg hbad, if_pos hsh]]
      refine ev_at (fun k => ?_)
      simp only [spec_ReaderPush.l0]
      rw [if_pos (by omega), if_pos (by decide), if_pos (by omega), if_pos hx, spec_word s (by omega)]
      simp only [Option.bind_some]
      rw [e1, e2, e3, if_neg (by omega), if_pos hsh]
    · rw [show rp (n + 1) s acc = rp n (s.extract (4 + WD s / 8).toNat s.size) (acc ++ [⟨WD s % 8, s.extract 4 (4 + WD s / 8).toNat⟩]) by simp only [rp]; rw [if_neg h4, if_neg hbad, if_neg hsh]]
      refine Ev.step (fun k => ?_) (ih _ _ (by simp; omega) (by simp; omega))
      simp only [spec_ReaderPush.l0]
      rw [if_pos (by omega), if_pos (by decide), if_pos (by omega), if_pos hx, spec_word s (by omega)]
      simp only [Option.bind_some]
      rw [e1, e2, e3, e4, if_neg (by omega), if_neg hsh, if_pos (by omega), if_pos (by omega), if_pos (by omega), if_pos (by omega)]
theorem impl_rp (n : Nat) : ∀ (s : ByteArray) (acc : List S26), s.size ≤ n → acc.length + n ≤ 4611686018427 → Ev (fun k => impl_ReaderPush.l0 k s ⟨#[]⟩ acc false) (rp n s acc) := by
  induction n with
  | zero =>
    intro s acc hs hb
    exact ev_at (fun k => by simp only [impl_ReaderPush.l0]; rw [if_neg (by omega)]; rfl)
  | succ n ih =>
    intro s acc hs hb
    by_cases h4 : s.size < 4
    · rw [show rp (n + 1) s acc = (s, acc, false) by simp only [rp]; rw [if_pos h4]]
      exact ev_at (fun k => by simp only [impl_ReaderPush.l0]; rw [if_neg (by omega)])
    have hw0 := WD_nn s
    have hw1 := WD_lt s
    have e2 : (Int.tdiv (WD s) 8) % 4294967296 = WD s / 8 := by rw [Int.tdiv_eq_ediv_of_nonneg hw0]; omega
    have e4 : wrap64 (Int.tmod (WD s) 8) = WD s % 8 := by rw [Int.tmod_eq_emod_of_nonneg hw0]; exact w64 (by omega) (by omega)
    by_cases hbad : WD s > 8007
    · rw [show rp (n + 1) s acc = (⟨#[]⟩, acc, true) by simp only [rp]; rw [if_neg h4, if_pos hbad]]
      refine ev_at (fun k => ?_)
      simp only [impl_ReaderPush.l0]
      rw [if_pos (by omega), impl_word s (by omega)]
      simp only [Option.bind_some]
      rw [if_pos hbad]
    by_cases hsh : (s.size : Int) < 4 + WD s / 8
    · rw [show rp (n + 1) s acc = (s, acc, false) by simp only [rp]; rw [if_neg h4, if_neg hbad, if_pos hsh]]
      refine ev_at (fun k => ?_)
      simp only [impl_ReaderPush.l0]
      rw [if_pos (by omega), impl_word s (by omega)]
      simp only [Option.bind_some]
      rw [e2, if_neg hbad, if_pos hsh]
    · rw [show rp (n + 1) s acc = rp n (s.extract (4 + WD s / 8).toNat s.size) (acc ++ [⟨WD s % 8, s.extract 4 (4 + WD s / 8).toNat⟩]) by simp only [rp]; rw [if_neg h4, if_neg hbad, if_neg hsh]]
      refine Ev.step (fun k => ?_) (ih _ _ (by simp; omega) (by simp; omega))
      simp only [impl_ReaderPush.l0]
      rw [if_pos (by omega), impl_word s (by omega)]
      simp only [Option.bind_some]
      rw [e2, e4, if_neg hbad, if_neg hsh, if_pos (by omega), if_pos (by omega), if_pos (by omega), if_pos (by omega)]
/-- What a push makes of a reader. -/
def rpv (rest : ByteArray) (fs : List S26) (bad : Bool) (b : List Int) : ByteArray × List S26 × Bool :=
  if bad = true ∨ rest.size > 1004 ∨ b.length > 100000 then (⟨#[]⟩, fs, true) else rp (rest.size + b.length) (rest ++ strOfNums b) fs
theorem spec_push (rest : ByteArray) (fs : List S26) (bad : Bool) (b : List Int) (hf : fs.length ≤ 1000000000000) : Ev (fun k => spec_ReaderPush.f k rest fs bad b) (rpv rest fs bad b) := by
  unfold spec_ReaderPush.f rpv
  have e : ([] : List S26).length + fs.length < 5864062014805 := by simp only [List.length_nil]; omega
  simp only [Option.bind_some, if_pos e, List.nil_append]
  by_cases h1 : bad = true
  · rw [if_pos (.inl h1)]
    refine Ev.congr (fun k => by rw [if_pos h1]) (ev_at (fun k => by simp [spec_ReaderPush.j0]))
  by_cases h2 : rest.size > 1004
  · rw [if_pos (.inr (.inl h2))]
    refine Ev.congr (fun k => by rw [if_neg h1, if_pos (by omega)]) (ev_at (fun k => by simp [spec_ReaderPush.j0]))
  by_cases h3 : b.length > 100000
  · rw [if_pos (.inr (.inr h3))]
    refine Ev.congr (fun k => by rw [if_neg h1, if_neg (by omega), decide_eq_true (by omega)]) (ev_at (fun k => by simp [spec_ReaderPush.j0]))
  · rw [if_neg (by rintro (h | h | h) <;> contradiction)]
    refine Ev.congr (fun k => by rw [if_neg h1, if_neg (by omega), decide_eq_false (by omega)]) (Ev.step (fun k => ?_) (spec_rp _ _ _ (by rw [ByteArray.size_append, strOfNums_size]; omega) (by omega)))
    simp only [spec_ReaderPush.j0]
    rw [if_neg (by decide), if_pos (by rw [strOfNums_size]; omega)]
theorem impl_push (rest : ByteArray) (fs : List S26) (bad : Bool) (b : List Int) (hf : fs.length ≤ 1000000000000) : Ev (fun k => impl_ReaderPush.f k rest fs bad b) (rpv rest fs bad b) := by
  unfold impl_ReaderPush.f rpv
  have e : impl_Frame.f fs = some fs := by unfold impl_Frame.f; rw [if_pos (by omega)]
  simp only [e, Option.bind_some]
  by_cases h1 : bad = true
  · rw [if_pos (.inl h1)]
    refine Ev.congr (fun k => by rw [if_pos h1]) (ev_at (fun k => by simp [impl_ReaderPush.j0]))
  by_cases h2 : rest.size > 1004
  · rw [if_pos (.inr (.inl h2))]
    refine Ev.congr (fun k => by rw [if_neg h1, if_pos (by omega)]) (ev_at (fun k => by simp [impl_ReaderPush.j0]))
  by_cases h3 : b.length > 100000
  · rw [if_pos (.inr (.inr h3))]
    refine Ev.congr (fun k => by rw [if_neg h1, if_neg (by omega), decide_eq_true (by omega)]) (ev_at (fun k => by simp [impl_ReaderPush.j0]))
  · rw [if_neg (by rintro (h | h | h) <;> contradiction)]
    refine Ev.congr (fun k => by rw [if_neg h1, if_neg (by omega), decide_eq_false (by omega)]) (Ev.step (fun k => ?_) (impl_rp _ _ _ (by rw [ByteArray.size_append, strOfNums_size]; omega) (by omega)))
    simp only [impl_ReaderPush.j0]
    rw [if_neg (by decide), if_pos (by rw [strOfNums_size]; omega)]
theorem rp_len (n : Nat) : ∀ (s : ByteArray) (acc : List S26), (rp n s acc).2.1.length ≤ acc.length + n := by
  induction n with
  | zero => intro s acc; simp [rp]
  | succ n ih =>
    intro s acc
    simp only [rp]
    split
    · show acc.length ≤ _; omega
    split
    · show acc.length ≤ _; omega
    split
    · show acc.length ≤ _; omega
    · have := ih (s.extract (4 + WD s / 8).toNat s.size) (acc ++ [⟨WD s % 8, s.extract 4 (4 + WD s / 8).toNat⟩])
      simp at this
      omega
theorem rpv_len (rest : ByteArray) (fs : List S26) (bad : Bool) (b : List Int) : (rpv rest fs bad b).2.1.length ≤ fs.length + 101004 := by
  unfold rpv
  split
  · show fs.length ≤ _; omega
  · rename_i h
    have := rp_len (rest.size + b.length) (rest ++ strOfNums b) fs
    have h2 : ¬ rest.size > 1004 := fun h' => h (.inr (.inl h'))
    have h3 : ¬ b.length > 100000 := fun h' => h (.inr (.inr h'))
    omega
theorem eqR (rest : ByteArray) (fs : List S26) (bad : Bool) (hl : fs.length ≤ 4611686018427387904) : Ev (fun k => laws_eqReader.f k rest fs bad rest fs bad) true := by
  refine Ev.congr (fun k => by simp only [laws_eqReader.f]; rw [if_pos trivial]) (Ev.bind (eqS26 fs hl) ?_)
  exact ev_ret (fun k => by rw [if_pos rfl, if_neg (by simp)])
theorem toR (rest : ByteArray) (xs : List S23) (bad : Bool) (hl : xs.length ≤ 11728124029610) : Ev (fun k => laws_toReader.f k rest xs bad) (rest, xs.map (fun x => (⟨x.f0, x.f1⟩ : S26)), bad) := by
  unfold laws_toReader.f
  refine (Ev.bind (toFS xs hl) ?_)
  exact ev_ret (fun k => rfl)
theorem markR (rest : ByteArray) (fs : List S26) (bad : Bool) (m : Int) (h0 : 0 ≤ m) (hm : m + 2 * fs.length ≤ 4611686018427387904) : Ev (fun k => laws_markReader.f k rest fs bad m) (m + 2 * fs.length, mkF m fs) := by
  unfold laws_markReader.f
  refine (Ev.bind (markFS fs m h0 hm) ?_)
  exact ev_ret (fun k => rfl)
theorem heldR (rest : ByteArray) (fs : List S26) (bad : Bool) (m : Int) (h0 : 0 ≤ m) (hm : m + 2 * fs.length ≤ 4611686018427387904) : Ev (fun k => laws_heldReader.f k rest (mkF m fs) bad m) (m + 2 * fs.length) := by
  unfold laws_heldReader.f
  refine (Ev.bind (heldFS fs m h0 hm) ?_)
  exact ev_ret (fun k => by rw [if_neg (by omega)])
theorem FnExactReaderPush : laws_FnExactReaderPush.Pure := by
  intro rest l bad b hr1 _ hl2 hx hb1 _ _
  have hl : l.length ≤ 5864062014634 := by omega
  by_cases hbig : (b.length : Int) > 1048576
  · exact ⟨0, by simp only [laws_FnExactReaderPush.f]; rw [if_pos hbig]⟩
  have e1 : wrap64 (1048576 - (rest.size : Int)) = 1048576 - rest.size := w64 (by omega) (by omega)
  have hz : ∃ z, Ev (fun k => laws_szReader.f k rest l bad 1048576) z ∧ (¬ z < 0 → l.length ≤ 1048576) := by
    by_cases h1 : 1048576 - (rest.size : Int) < 0
    · exact ⟨-1, ev_ret (fun k => by simp only [laws_szReader.f]; rw [e1, if_pos h1]), fun h => absurd (by decide) h⟩
    · have h := szFSl l (1048576 - rest.size) (by omega) (by omega) (by omega) (fun x hm => (hx x hm).2)
      have hv2 : ¬ (if 1048576 - (rest.size : Int) - (l.length : Int) < 0 then (-1 : Int) else szv (1048576 - (rest.size : Int) - l.length) l) < 0 → l.length ≤ 1048576 := by
        intro h
        by_cases h2 : 1048576 - (rest.size : Int) - (l.length : Int) < 0
        · rw [if_pos h2] at h; exact absurd (by decide) h
        · omega
      generalize (if 1048576 - (rest.size : Int) - (l.length : Int) < 0 then (-1 : Int) else szv (1048576 - (rest.size : Int) - l.length) l) = v at h hv2
      refine ⟨if v < 0 then -1 else v, Ev.congr (fun k => by simp only [laws_szReader.f]; rw [e1, if_neg h1]) (Ev.bind h ?_), fun h' => hv2 (fun h3 => h' (by rw [if_pos h3]; decide))⟩
      by_cases hv : v < 0
      · exact ev_ret (fun k => by rw [if_pos hv, if_pos hv])
      · exact ev_ret (fun k => by rw [if_neg hv, if_neg hv])
  obtain ⟨z, hz, hzl⟩ := hz
  by_cases hc : z < 0
  · refine Ev.rounds ?_
    simp only [laws_FnExactReaderPush.f]
    refine Ev.congr (fun k => by rw [if_neg hbig]) (Ev.bind hz ?_)
    exact ev_ret (fun k => by rw [if_pos hc])
  have hll := hzl hc
  have hto := toR rest l bad (by omega)
  have hml : (l.map (fun x => (⟨x.f0, x.f1⟩ : S26))).length = l.length := by simp
  generalize l.map (fun x => (⟨x.f0, x.f1⟩ : S26)) = m at hto hml
  have htb := toBS b (by omega)
  have hs := spec_push rest m bad b (by omega)
  have hi := impl_push rest m bad b (by omega)
  have hlen := rpv_len rest m bad b
  generalize rpv rest m bad b = v at hs hi hlen
  obtain ⟨vr, vf, vb⟩ := v
  simp only at hlen
  have he := eqR vr vf vb (by omega)
  have hea := eqR rest m bad (by omega)
  have heb := eqBS b (by omega)
  have hma := markR rest m bad 1 (by omega) (by omega)
  have hmb := markBS b (1 + 2 * (m.length : Int)) (by omega) (by omega)
  have hm := markR vr vf vb 1 (by omega) (by omega)
  have hh := heldR vr vf vb 1 (by omega) (by omega)
  have hj0 : Ev (fun k => laws_FnExactReaderPush.j0 k b (!true) rest l bad vr vf vb vr vf vb) true := by
    refine Ev.step (fun k => by simp only [laws_FnExactReaderPush.j0]; rw [if_neg (by simp)]) (Ev.bind hm (Ev.bind hh ?_))
    refine Ev.congr (fun k => by rw [if_neg (by omega), if_pos rfl]) (Ev.bind hto (Ev.bind htb (Ev.bind hi (Ev.bind he ?_))))
    refine Ev.congr (fun k => by rw [if_pos rfl]) (Ev.bind hh ?_)
    exact ev_ret (fun k => by rw [if_neg (by omega), if_pos rfl])
  refine Ev.rounds ?_
  simp only [laws_FnExactReaderPush.f]
  refine Ev.congr (fun k => by rw [if_neg hbig]) (Ev.bind hz ?_)
  refine Ev.congr (fun k => by rw [if_neg hc]) (Ev.bind hto (Ev.bind htb (Ev.bind hs (Ev.bind hto (Ev.bind htb (Ev.bind hi (Ev.bind he ?_)))))))
  refine Ev.congr (fun k => by rw [if_pos rfl]) (Ev.bind hto (Ev.bind hea ?_))
  refine Ev.congr (fun k => by rw [if_pos rfl]) (Ev.bind htb (Ev.bind heb ?_))
  refine Ev.congr (fun k => by rw [if_pos rfl]) (Ev.bind hma (Ev.bind hmb ?_))
  refine Ev.congr (fun k => by rw [if_neg (by omega)]) (Ev.bind he ?_)
  exact hj0
end Go.Proofs.Ytbiaakkmmkddfaa.Pure
