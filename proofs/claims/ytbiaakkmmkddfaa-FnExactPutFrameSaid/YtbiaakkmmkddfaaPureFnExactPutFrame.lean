/- The program's PutFrame answers as the reference's, at all frames, and its answer is its own, behind a second call too. No condition beside the form's own reach. -/
import Derived.Test.YtbiaakkmmkddfaaPFnExactPutFramex2
namespace Go.Proofs.Ytbiaakkmmkddfaa.Pure
open Go.RowKit Go.Proofs.Ytbiaakkmmkddfaa.PFnExactPutFrame Go.Proofs.YtbiaakkmmkddfaaW.PrintWords Go.Proofs.YtbiaakkmmkddfaaW.PrintLast Go.Proofs.YtbiaakkmmkddfaaW.PrintMore
theorem w64 {x : Int} (h0 : -9223372036854775808 ≤ x) (h1 : x ≤ 9223372036854775807) : wrap64 x = x := by unfold wrap64; omega
theorem emp_iff (s : ByteArray) : s.toList = ([] : List UInt8) ↔ s.size = 0 := by
  rw [ByteArray.toList_eq]
  obtain ⟨⟨d⟩⟩ := s
  cases d <;> simp [ByteArray.size]
theorem ev_at {α : Type} {g : Nat → Option α} {r : α} (h : ∀ k, g (k + 1) = some r) : Ev g r := ⟨1, fun k hk => by
  obtain ⟨j, rfl⟩ : ∃ j, k = j + 1 := ⟨k - 1, by omega⟩
  exact h j⟩
theorem ev_ret {α : Type} {g : Nat → Option α} {r : α} (h : ∀ k, g k = some r) : Ev g r := ⟨0, fun k _ => h k⟩
theorem ev_det {α : Type} {g : Nat → Option α} {r s : α} (h : Ev g r) (k : Ev g s) : r = s := by
  obtain ⟨K, h⟩ := h
  obtain ⟨L, k⟩ := k
  have h1 := h (K + L) (by omega)
  have h2 := k (K + L) (by omega)
  rw [h1] at h2
  exact Option.some.inj h2
theorem ba_ext {a b : ByteArray} (h : a.toList = b.toList) : a = b := by
  rw [ByteArray.toList_eq, ByteArray.toList_eq] at h
  exact ByteArray.ext (Array.toList_inj.1 h)
theorem bytesOf_append (a b : ByteArray) : bytesOf (a ++ b) = bytesOf a ++ bytesOf b := by simp [bytesOf, ByteArray.data_append]
theorem strOf_bytesOf (s : ByteArray) : strOfNums (bytesOf s) = s := by
  apply ByteArray.ext
  apply Array.toList_inj.1
  rw [strOfNums_data, bytesOf, List.map_map]
  exact (List.map_congr_left (fun b _ => by simp)).trans (List.map_id _)
theorem bytesOf_inj {a b : ByteArray} (h : bytesOf a = bytesOf b) : a = b := by rw [← strOf_bytesOf a, h, strOf_bytesOf]
theorem rd_midB (pre : List Int) (x : Int) (t : List Int) {i : Int} (hi : i = pre.length) : rd (pre ++ x :: t) i = x := by
  subst hi
  simp [rd]
theorem set_midB (pre : List Int) (x y : Int) (t : List Int) {i : Int} (hi : i = pre.length) : (pre ++ x :: t).set i.toNat y = pre ++ y :: t := by
  subst hi
  simp
theorem eqB (xs : List Int) (hx : xs.length ≤ 4611686018427387904) (d : Nat) : ∀ i : Int, 0 ≤ i → (xs.length : Int) - i = d → Ev (fun k => laws_eqByteS.l0 k xs xs i) true := by
  induction d with
  | zero =>
    intro i h0 hd
    exact ev_at (fun k => by simp only [laws_eqByteS.l0]; rw [if_neg (by omega)])
  | succ d ih =>
    intro i h0 hd
    refine Ev.step (fun k => ?_) (ih (i + 1) (by omega) (by omega))
    simp only [laws_eqByteS.l0]
    rw [if_pos (by omega), if_pos h0, if_pos (by omega)]
    simp only [if_true]
    rw [w64 (by omega) (by omega)]
theorem eqBS (xs : List Int) (hx : xs.length ≤ 4611686018427387904) : Ev (fun k => laws_eqByteS.f k xs xs) true :=
  Ev.congr (fun k => by simp only [laws_eqByteS.f]; rw [if_pos trivial]) (eqB xs hx xs.length 0 (by omega) (by omega))
def mkB : Int → List Int → List Int
  | _, [] => []
  | m, _ :: t => (m % 256) :: mkB (m + 1) t
theorem mkB_length (m : Int) (xs : List Int) : (mkB m xs).length = xs.length := by
  induction xs generalizing m with
  | nil => rfl
  | cons x t ih => simp [mkB, ih]
theorem markB (suf : List Int) : ∀ (pre : List Int) (m i : Int), i = pre.length → 0 ≤ m → m + suf.length ≤ 4611686018427387904 → pre.length + suf.length ≤ 4611686018427387904 →
    Ev (fun k => laws_markByteS.l0 k (pre ++ suf) m i) (m + suf.length, pre ++ mkB m suf) := by
  induction suf with
  | nil =>
    intro pre m i hi h0 hm hl
    refine ev_at (fun k => ?_)
    simp only [laws_markByteS.l0]
    rw [if_neg (by simp; omega)]
    simp [mkB]
  | cons x t ih =>
    intro pre m i hi h0 hm hl
    simp only [List.length_cons, Int.natCast_succ] at hm hl
    have h := ih (pre ++ [m % 256]) (m + 1) (i + 1) (by simp; omega) (by omega) (by omega) (by simp; omega)
    have e1 : wrap64 (m + 1) = m + 1 := w64 (by omega) (by omega)
    have e3 : wrap64 (i + 1) = i + 1 := w64 (by omega) (by omega)
    have hres : ((m + ((x :: t).length : Int), pre ++ mkB m (x :: t)) : Int × List Int) = (m + 1 + (t.length : Int), pre ++ [m % 256] ++ mkB (m + 1) t) := by
      simp [mkB]
      omega
    rw [hres]
    refine Ev.step (f := fun k => laws_markByteS.l0 k (pre ++ (m % 256) :: t) (m + 1) (i + 1)) (fun k => ?_) (by simpa using h)
    simp only [laws_markByteS.l0]
    rw [if_pos (by simp; omega), if_pos (by omega), set_midB pre x _ t hi, e1, e3]
theorem markBS (xs : List Int) (m : Int) (h0 : 0 ≤ m) (hm : m + xs.length ≤ 4611686018427387904) : Ev (fun k => laws_markByteS.f k xs m) (m + xs.length, mkB m xs) := by
  have h := markB xs [] m 0 rfl h0 hm (by simp; omega)
  simp only [List.nil_append] at h
  exact h
theorem heldB (suf : List Int) : ∀ (pre : List Int) (m i : Int), i = pre.length → 0 ≤ m → m + suf.length ≤ 4611686018427387904 → pre.length + suf.length ≤ 4611686018427387904 →
    Ev (fun k => laws_heldByteS.l0 k (pre ++ mkB m suf) m i) (m + suf.length) := by
  induction suf with
  | nil =>
    intro pre m i hi h0 hm hl
    refine ev_at (fun k => ?_)
    simp only [laws_heldByteS.l0]
    rw [if_neg (by simp [mkB]; omega)]
    simp
  | cons x t ih =>
    intro pre m i hi h0 hm hl
    simp only [List.length_cons, Int.natCast_succ] at hm hl
    have h := ih (pre ++ [m % 256]) (m + 1) (i + 1) (by simp; omega) (by omega) (by omega) (by simp; omega)
    have e1 : wrap64 (m + 1) = m + 1 := w64 (by omega) (by omega)
    have e3 : wrap64 (i + 1) = i + 1 := w64 (by omega) (by omega)
    have hres : m + ((x :: t).length : Int) = m + 1 + (t.length : Int) := by simp; omega
    rw [hres]
    refine Ev.step (f := fun k => laws_heldByteS.l0 k (pre ++ (m % 256) :: mkB (m + 1) t) (m + 1) (i + 1)) (fun k => ?_) (by simpa using h)
    rw [show mkB m (x :: t) = (m % 256) :: mkB (m + 1) t from rfl]
    simp only [laws_heldByteS.l0]
    rw [if_pos (by simp; omega), if_pos (by omega), rd_midB pre _ _ hi, if_pos rfl, e1, e3]
theorem heldBS (xs : List Int) (m : Int) (h0 : 0 ≤ m) (hm : m + xs.length ≤ 4611686018427387904) : Ev (fun k => laws_heldByteS.f k (mkB m xs) m) (m + xs.length) := by
  have h := heldB xs [] m 0 rfl h0 hm (by simp; omega)
  simp only [List.nil_append] at h
  exact h
theorem bytesOf_strOf : ∀ (l : List Int), (∀ x ∈ l, 0 ≤ x ∧ x < 256) → bytesOf (strOfNums l) = l := by
  intro l h
  unfold bytesOf
  rw [strOfNums_data, List.map_map]
  conv => rhs; rw [← List.map_id l]
  refine List.map_congr_left (fun x hx => ?_)
  obtain ⟨h0, h1⟩ := h x hx
  simp
  omega
/-- A frame's bytes. -/
def wd (n : Int) : List Int := [n % 256, n / 256 % 256, n / 65536 % 256, n / 16777216 % 256]
def pfv (tag : Int) (s : ByteArray) : List Int := if 0 ≤ tag ∧ tag ≤ 7 ∧ s.size ≤ 1000 then wd (8 * s.size + tag) ++ bytesOf s else []
theorem pfv_len (tag : Int) (s : ByteArray) : (pfv tag s).length ≤ 1004 := by
  unfold pfv
  split
  · rename_i h
    rw [List.length_append, bytesOf_length]
    simp [wd]
    omega
  · simp
theorem wd_range (n : Int) : ∀ x ∈ wd n, 0 ≤ x ∧ x < 256 := by
  intro x hx
  simp only [wd, List.mem_cons, List.not_mem_nil, or_false] at hx
  omega
theorem spec_ok (tag : Int) (s : ByteArray) : spec_FrameOk.f tag s = some (decide (0 ≤ tag ∧ tag ≤ 7 ∧ s.size ≤ 1000)) := by
  unfold spec_FrameOk.f spec_l01In.f
  by_cases h0 : tag ≥ 0
  · rw [if_pos h0]
    by_cases h1 : tag ≤ 7
    · simp [h0, h1]; omega
    · simp [h1]
  · rw [if_neg h0]
    have : ¬ 0 ≤ tag := by omega
    simp [this]
theorem impl_ok (tag : Int) (s : ByteArray) : impl_FrameOk.f tag s = some (decide (0 ≤ tag ∧ tag ≤ 7 ∧ s.size ≤ 1000)) := by
  unfold impl_FrameOk.f impl_within.f
  by_cases h0 : tag ≥ 0
  · rw [if_pos h0]
    by_cases h1 : tag ≤ 7
    · simp [h0, h1]; omega
    · simp [h1]
  · rw [if_neg h0]
    have : ¬ 0 ≤ tag := by omega
    simp [this]
theorem impl_ft (tag : Int) (s : ByteArray) (h : 0 ≤ tag ∧ tag ≤ 7 ∧ s.size ≤ 1000) : impl_frameText.f tag s = some (strOfNums (wd (8 * s.size + tag)) ++ s) := by
  obtain ⟨h0, h1, h2⟩ := h
  have e1 : wrap64 (8 * (s.size : Int)) = 8 * s.size := w64 (by omega) (by omega)
  have e2 : wrap64 (8 * (s.size : Int) + tag) = 8 * s.size + tag := w64 (by omega) (by omega)
  have e3 : (8 * (s.size : Int) + tag) % 4294967296 = 8 * s.size + tag := by omega
  unfold impl_frameText.f impl_wordText.f
  rw [e1, e2, e3]
  simp only [Option.bind_some]
  rw [if_pos (by rw [strOfNums_size]; simp; omega)]
  rfl
theorem spec_pf (tag : Int) (s : ByteArray) : spec_PutFrame.f tag s = some (pfv tag s) := by
  unfold spec_PutFrame.f
  rw [spec_ok, Option.bind_some]
  unfold pfv
  by_cases h : 0 ≤ tag ∧ tag ≤ 7 ∧ s.size ≤ 1000
  · rw [if_pos h, if_pos (decide_eq_true h)]
    obtain ⟨h0, h1, h2⟩ := h
    have e1 : wrap64 (8 * (s.size : Int)) = 8 * s.size := w64 (by omega) (by omega)
    have e2 : wrap64 (8 * (s.size : Int) + tag) = 8 * s.size + tag := w64 (by omega) (by omega)
    have e3 : (8 * (s.size : Int) + tag) % 4294967296 = 8 * s.size + tag := by omega
    rw [e1, e2, e3]
    have hn : spec_PutWord.f (8 * (s.size : Int) + tag) = some (wd (8 * s.size + tag)) := by
      generalize hk : 8 * (s.size : Int) + tag = n
      have e4 : wrap64 n = n := w64 (by omega) (by omega)
      unfold spec_PutWord.f wd
      rw [e4, Int.tdiv_eq_ediv_of_nonneg (by omega), Int.tdiv_eq_ediv_of_nonneg (by omega), Int.tdiv_eq_ediv_of_nonneg (by omega), w64 (x := n / 256) (by omega) (by omega), w64 (x := n / 65536) (by omega) (by omega), w64 (x := n / 16777216) (by omega) (by omega), Int.tmod_eq_emod_of_nonneg (by omega), Int.tmod_eq_emod_of_nonneg (by omega), Int.tmod_eq_emod_of_nonneg (by omega)]
      simp
    rw [hn, Option.bind_some, if_pos (by omega), Option.bind_some, if_pos (by rw [bytesOf_length]; simp [wd]; omega)]
  · rw [if_neg h, if_neg (by simpa using h)]
theorem impl_pf (tag : Int) (s : ByteArray) : impl_PutFrame.f tag s = some (pfv tag s) := by
  unfold impl_PutFrame.f
  rw [impl_ok, Option.bind_some]
  unfold pfv
  by_cases h : 0 ≤ tag ∧ tag ≤ 7 ∧ s.size ≤ 1000
  · rw [if_pos h, if_pos (decide_eq_true h), impl_ft tag s h, Option.bind_some, if_pos (by rw [ByteArray.size_append, strOfNums_size]; simp [wd]; omega), bytesOf_append, bytesOf_strOf _ (wd_range _)]
  · rw [if_neg h, if_neg (by simpa using h)]
theorem FnExactPutFrame : laws_FnExactPutFrame.Pure := by
  intro tag s _ hs
  by_cases hz : wrap64 (1048576 - (s.size : Int)) < 0
  · exact ⟨0, by simp only [laws_FnExactPutFrame.f, laws_szFrame.f]; rw [if_pos hz]; rfl⟩
  have hlen := pfv_len tag s
  have h1 := spec_pf tag s
  have h2 := impl_pf tag s
  generalize pfv tag s = v at hlen h1 h2
  have he := eqBS v (by omega)
  have hm := markBS v 1 (by omega) (by omega)
  have hh := heldBS v 1 (by omega) (by omega)
  refine Ev.rounds ?_
  simp only [laws_FnExactPutFrame.f, laws_szFrame.f, laws_toFrame.f, h1, h2, Option.bind_some, if_neg hz]
  refine Ev.bind he ?_
  refine Ev.congr (fun k => by rw [if_pos rfl]) (Ev.bind hm (Ev.bind hh ?_))
  refine Ev.congr (fun k => by rw [if_neg (by omega), if_pos rfl]) (Ev.bind he ?_)
  refine Ev.congr (fun k => by rw [if_pos rfl]) (Ev.bind hh ?_)
  exact ev_ret (fun k => by rw [if_neg (by omega), if_pos rfl])
end Go.Proofs.Ytbiaakkmmkddfaa.Pure
