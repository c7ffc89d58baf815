/- The program's TagData answers as the reference's, at all lists of frames and every tag; it writes into no argument. No condition beside the form's own reach. -/
import Derived.Test.YtbiaakkmmkddfaaPFnExactTagDatax2
namespace Go.Proofs.Ytbiaakkmmkddfaa.Pure
open Go.RowKit Go.Proofs.Ytbiaakkmmkddfaa.PFnExactTagData Go.Proofs.YtbiaakkmmkddfaaW.PrintWords Go.Proofs.YtbiaakkmmkddfaaW.PrintLast Go.Proofs.YtbiaakkmmkddfaaW.PrintMore
theorem w64 {x : Int} (h0 : -9223372036854775808 ≤ x) (h1 : x ≤ 9223372036854775807) : wrap64 x = x := by unfold wrap64; omega
theorem emp_iff (s : ByteArray) : s.toList = ([] : List UInt8) ↔ s.size = 0 := by
  rw [ByteArray.toList_eq]
  obtain ⟨⟨d⟩⟩ := s
  cases d <;> simp [ByteArray.size]
theorem ev_at {α : Type} {g : Nat → Option α} {r : α} (h : ∀ k, g (k + 1) = some r) : Ev g r := ⟨1, fun k hk => by
  obtain ⟨j, rfl⟩ : ∃ j, k = j + 1 := ⟨k - 1, by omega⟩
  exact h j⟩
theorem ev_ret {α : Type} {g : Nat → Option α} {r : α} (h : ∀ k, g k = some r) : Ev g r := ⟨0, fun k _ => h k⟩
theorem ev_det {α : Type} {g : Nat → Option α} {r s : α} (h : Ev g r) (k : Ev g s) : r = s := by
  obtain ⟨K, h⟩ := h
  obtain ⟨L, k⟩ := k
  have h1 := h (K + L) (by omega)
  have h2 := k (K + L) (by omega)
  rw [h1] at h2
  exact Option.some.inj h2
theorem ba_ext {a b : ByteArray} (h : a.toList = b.toList) : a = b := by
  rw [ByteArray.toList_eq, ByteArray.toList_eq] at h
  exact ByteArray.ext (Array.toList_inj.1 h)
theorem bytesOf_append (a b : ByteArray) : bytesOf (a ++ b) = bytesOf a ++ bytesOf b := by simp [bytesOf, ByteArray.data_append]
theorem strOf_bytesOf (s : ByteArray) : strOfNums (bytesOf s) = s := by
  apply ByteArray.ext
  apply Array.toList_inj.1
  rw [strOfNums_data, bytesOf, List.map_map]
  exact (List.map_congr_left (fun b _ => by simp)).trans (List.map_id _)
theorem bytesOf_inj {a b : ByteArray} (h : bytesOf a = bytesOf b) : a = b := by rw [← strOf_bytesOf a, h, strOf_bytesOf]
theorem rd_mid23 (pre : List S23) (x : S23) (t : List S23) {i : Int} (hi : i = pre.length) : rd_T23 (pre ++ x :: t) i = x := by
  subst hi
  simp [rd_T23]
theorem set_mid23 (pre : List S23) (x y : S23) (t : List S23) {i : Int} (hi : i = pre.length) : (pre ++ x :: t).set i.toNat y = pre ++ y :: t := by
  subst hi
  simp
theorem rd_mid26 (pre : List S26) (x : S26) (t : List S26) {i : Int} (hi : i = pre.length) : rd_T26 (pre ++ x :: t) i = x := by
  subst hi
  simp [rd_T26]
theorem set_mid26 (pre : List S26) (x y : S26) (t : List S26) {i : Int} (hi : i = pre.length) : (pre ++ x :: t).set i.toNat y = pre ++ y :: t := by
  subst hi
  simp
def szF : List S23 → Nat
  | [] => 0
  | x :: t => x.f1.size + szF t
def szv : Int → List S23 → Int
  | l, [] => l
  | l, x :: t => if l - x.f1.size < 0 then -1 else szv (l - x.f1.size) t
theorem szv_some : ∀ (xs : List S23) (l : Int), 0 ≤ l → ¬ szv l xs < 0 → (szF xs : Int) ≤ l := by
  intro xs
  induction xs with
  | nil => intro l h0 _; simpa [szF] using h0
  | cons x t ih =>
    intro l h0 h
    simp only [szv] at h
    by_cases hc : l - x.f1.size < 0
    · rw [if_pos hc] at h; omega
    · rw [if_neg hc] at h
      have := ih (l - x.f1.size) (by omega) h
      simp only [szF]
      omega
theorem szS (suf : List S23) : ∀ (pre : List S23) (l i : Int), i = pre.length → 0 ≤ l → l ≤ 1048576 → pre.length + suf.length ≤ 4611686018427387904 → (∀ x ∈ suf, x.f1.size ≤ 140737488351232) →
    Ev (fun k => laws_szFrameS.l0 k (pre ++ suf) l i) (szv l suf) := by
  induction suf with
  | nil =>
    intro pre l i hi h0 h1 hl _
    refine ev_at (fun k => ?_)
    simp only [laws_szFrameS.l0]
    rw [if_neg (by simp; omega)]
    rfl
  | cons x t ih =>
    intro pre l i hi h0 h1 hl hx
    have hxs := hx x (List.mem_cons_self ..)
    simp only [List.length_cons] at hl
    have e1 : wrap64 (l - (x.f1.size : Int)) = l - x.f1.size := w64 (by omega) (by omega)
    have e3 : wrap64 (i + 1) = i + 1 := w64 (by omega) (by omega)
    have c1 : i < ((pre ++ x :: t).length : Int) := by simp; omega
    have c2 : 0 ≤ i := by omega
    by_cases hc : l - (x.f1.size : Int) < 0
    · rw [show szv l (x :: t) = -1 by simp only [szv]; rw [if_pos hc]]
      refine ev_at (fun k => ?_)
      simp only [laws_szFrameS.l0, laws_szFrame.f]
      rw [if_pos c1, if_pos c2, rd_mid23 pre x t hi, e1, if_pos hc]
      rfl
    · rw [show szv l (x :: t) = szv (l - x.f1.size) t by simp only [szv]; rw [if_neg hc]]
      have h := ih (pre ++ [x]) (l - x.f1.size) (i + 1) (by simp; omega) (by omega) (by omega) (by simp; omega) (fun y hy => hx y (List.mem_cons_of_mem _ hy))
      refine Ev.step (f := fun k => laws_szFrameS.l0 k (pre ++ x :: t) (l - x.f1.size) (i + 1)) (fun k => ?_) (by simpa using h)
      simp only [laws_szFrameS.l0, laws_szFrame.f]
      rw [if_pos c1, if_pos c2, rd_mid23 pre x t hi, e1, if_neg hc]
      simp only [Option.bind_some]
      rw [if_neg hc, e3]
theorem szFS (xs : List S23) (hl : xs.length ≤ 140737488355327) (hx : ∀ x ∈ xs, x.f1.size ≤ 140737488351232) :
    Ev (fun k => laws_szFrameS.f k xs 1048576) (if 1048576 - (xs.length : Int) < 0 then -1 else szv (1048576 - xs.length) xs) := by
  have e1 : wrap64 (1048576 - (xs.length : Int)) = 1048576 - xs.length := w64 (by omega) (by omega)
  by_cases hc : 1048576 - (xs.length : Int) < 0
  · rw [if_pos hc]
    exact ev_ret (fun k => by simp only [laws_szFrameS.f]; rw [e1, if_pos hc])
  · rw [if_neg hc]
    have h := szS xs [] (1048576 - xs.length) 0 rfl (by omega) (by omega) (by simp; omega) hx
    exact Ev.congr (fun k => by simp only [laws_szFrameS.f]; rw [e1, if_neg hc]; rfl) h
theorem toS (suf : List S23) : ∀ (pre : List S23) (i : Int), i = pre.length → pre.length + suf.length ≤ 11728124029610 →
    Ev (fun k => laws_toFrameS.l0 k (pre ++ suf) (pre.map (fun x => (⟨x.f0, x.f1⟩ : S26)) ++ List.replicate suf.length z26) i) ((pre ++ suf).map (fun x => (⟨x.f0, x.f1⟩ : S26))) := by
  induction suf with
  | nil =>
    intro pre i hi hl
    refine ev_at (fun k => ?_)
    simp only [laws_toFrameS.l0]
    rw [if_neg (by simp; omega)]
    simp
  | cons x t ih =>
    intro pre i hi hl
    simp only [List.length_cons] at hl
    have h := ih (pre ++ [x]) (i + 1) (by simp; omega) (by simp; omega)
    have e3 : wrap64 (i + 1) = i + 1 := w64 (by omega) (by omega)
    have c1 : i < ((pre ++ x :: t).length : Int) := by simp; omega
    have c2 : 0 ≤ i := by omega
    have c3 : i < ((pre.map (fun x => (⟨x.f0, x.f1⟩ : S26)) ++ List.replicate (x :: t).length z26).length : Int) := by simp; omega
    refine Ev.step (f := fun k => laws_toFrameS.l0 k (pre ++ x :: t) (pre.map (fun x => (⟨x.f0, x.f1⟩ : S26)) ++ (⟨x.f0, x.f1⟩ : S26) :: List.replicate t.length z26) (i + 1)) (fun k => ?_) (by simpa using h)
    simp only [laws_toFrameS.l0, laws_toFrame.f]
    rw [if_pos c1, if_pos c2, rd_mid23 pre x t hi]
    simp only [Option.bind_some]
    rw [if_pos c3, e3, List.length_cons, List.replicate_succ, set_mid26 _ _ _ _ (by simpa using hi)]
theorem toFS (xs : List S23) (hl : xs.length ≤ 11728124029610) : Ev (fun k => laws_toFrameS.f k xs) (xs.map (fun x => (⟨x.f0, x.f1⟩ : S26))) := by
  have h := toS xs [] 0 rfl (by simpa using hl)
  simp only [List.nil_append, List.map_nil] at h
  exact Ev.congr (fun k => by simp only [laws_toFrameS.f]; rw [if_pos (by omega), if_pos (by simpa using hl)]; rfl) h
theorem eq26 (xs : List S26) (hx : xs.length ≤ 4611686018427387904) (d : Nat) : ∀ i : Int, 0 ≤ i → (xs.length : Int) - i = d → Ev (fun k => laws_eqFrameS.l0 k xs xs i) true := by
  induction d with
  | zero =>
    intro i h0 hd
    exact ev_at (fun k => by simp only [laws_eqFrameS.l0]; rw [if_neg (by omega)])
  | succ d ih =>
    intro i h0 hd
    refine Ev.step (fun k => ?_) (ih (i + 1) (by omega) (by omega))
    simp only [laws_eqFrameS.l0, laws_eqFrame.f]
    rw [if_pos (by omega), if_pos h0, if_pos (by omega)]
    simp only [if_true, Option.bind_some]
    rw [w64 (by omega) (by omega)]
theorem eqS26 (xs : List S26) (hx : xs.length ≤ 4611686018427387904) : Ev (fun k => laws_eqFrameS.f k xs xs) true :=
  Ev.congr (fun k => by simp only [laws_eqFrameS.f]; rw [if_pos trivial]) (eq26 xs hx xs.length 0 (by omega) (by omega))
theorem tagSize_map (xs : List S23) : tagSize (xs.map (fun x => (⟨x.f0, x.f1⟩ : S26))) = szF xs := by
  induction xs with
  | nil => rfl
  | cons x t ih => simp [tagSize, szF, ih]
theorem specTag (tag : Int) (suf : List S26) : ∀ (pre : List S26) (acc : ByteArray) (i : Int), i = pre.length → pre.length + suf.length ≤ 1000 → acc.size + tagSize suf ≤ 1048576 →
    Ev (fun k => spec_TagData.l0 k (pre ++ suf) tag (bytesOf acc) i) (tagAll tag suf acc) := by
  induction suf with
  | nil =>
    intro pre acc i hi hl hs
    refine ev_at (fun k => ?_)
    simp only [spec_TagData.l0]
    rw [if_neg (by simp; omega), strOf_bytesOf]
    rfl
  | cons x t ih =>
    intro pre acc i hi hl hs
    simp only [List.length_cons, tagSize] at hl hs
    have e3 : wrap64 (i + 1) = i + 1 := w64 (by omega) (by omega)
    have c1 : i < ((pre ++ x :: t).length : Int) := by simp; omega
    have c2 : 0 ≤ i := by omega
    by_cases ht : x.f0 = tag
    · have h := ih (pre ++ [x]) (acc ++ x.f1) (i + 1) (by simp; omega) (by simp; omega) (by rw [ByteArray.size_append]; omega)
      rw [show tagAll tag (x :: t) acc = tagAll tag t (acc ++ x.f1) by simp only [tagAll]; rw [if_pos ht]]
      refine Ev.step (f := fun k => spec_TagData.l0 k (pre ++ x :: t) tag (bytesOf (acc ++ x.f1)) (i + 1)) (fun k => ?_) (by simpa using h)
      simp only [spec_TagData.l0]
      rw [if_pos c1, if_pos c2, rd_mid26 pre x t hi, if_pos ht, if_pos (by omega)]
      simp only [Option.bind_some]
      rw [if_pos (by rw [bytesOf_length, bytesOf_length]; omega), e3, bytesOf_append]
    · have h := ih (pre ++ [x]) acc (i + 1) (by simp; omega) (by simp; omega) (by omega)
      rw [show tagAll tag (x :: t) acc = tagAll tag t acc by simp only [tagAll]; rw [if_neg ht]]
      refine Ev.step (f := fun k => spec_TagData.l0 k (pre ++ x :: t) tag (bytesOf acc) (i + 1)) (fun k => ?_) (by simpa using h)
      simp only [spec_TagData.l0]
      rw [if_pos c1, if_pos c2, rd_mid26 pre x t hi, if_neg ht, e3]
theorem FnExactTagData : laws_FnExactTagData.Pure := by
  intro l tag hl1 hl2 hx _
  have hl : l.length ≤ 5864062014634 := by omega
  have hz := szFS l (by omega) (fun x hm => (hx x hm).2)
  by_cases hc : (if 1048576 - (l.length : Int) < 0 then -1 else szv (1048576 - l.length) l) < 0
  · refine Ev.rounds ?_
    simp only [laws_FnExactTagData.f]
    refine Ev.bind hz ?_
    exact ev_ret (fun k => by rw [if_pos hc])
  · have hlen : ¬ 1048576 - (l.length : Int) < 0 := fun h => by rw [if_pos h] at hc; omega
    rw [if_neg hlen] at hc
    have hsz := szv_some l _ (by omega) hc
    have hto := toFS l (by omega)
    have hts := tagSize_map l
    generalize hm : l.map (fun x => (⟨x.f0, x.f1⟩ : S26)) = m at hto hts
    have hml : m.length = l.length := by rw [← hm]; simp
    have heq := eqS26 m (by omega)
    have hboth : ∃ r, Ev (fun k => spec_TagData.f k m tag) r ∧ impl_TagData.f m tag = some r := by
      by_cases hb : 1000 < m.length
      · exact ⟨⟨#[]⟩, ev_ret (fun k => by simp only [spec_TagData.f]; rw [if_pos (by omega)]), by simp only [impl_TagData.f]; rw [if_pos hb]⟩
      · have h := specTag tag m [] ⟨#[]⟩ 0 rfl (by simp; omega) (by rw [hts]; have : (⟨#[]⟩ : ByteArray).size = 0 := rfl; omega)
        exact ⟨tagAll tag m ⟨#[]⟩, Ev.congr (fun k => by simp only [spec_TagData.f]; rw [if_neg (by omega)]; rfl) h, by simp only [impl_TagData.f]; rw [if_neg hb, if_pos (by omega)]⟩
    obtain ⟨r, h1, h2⟩ := hboth
    refine Ev.rounds ?_
    simp only [laws_FnExactTagData.f]
    refine Ev.bind hz ?_
    rw [if_neg hlen]
    refine Ev.congr (fun k => by rw [if_neg hc]) (Ev.bind hto (Ev.bind h1 (Ev.bind hto ?_)))
    refine Ev.congr (fun k => by rw [h2]; simp only [Option.bind_some]; rw [if_pos trivial]) (Ev.bind hto (Ev.bind heq ?_))
    exact ev_ret (fun k => by rw [if_pos rfl])
end Go.Proofs.Ytbiaakkmmkddfaa.Pure
