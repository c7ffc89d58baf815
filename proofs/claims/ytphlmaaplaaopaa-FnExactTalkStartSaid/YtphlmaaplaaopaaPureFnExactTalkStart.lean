/- The program's TalkStart answers as the reference's, at all arguments; it writes into none, and its answer is its own, behind a second call too. No condition beside the form's own reach. -/
import Derived.Test.YtphlmaaplaaopaaPFnExactTalkStartx11
namespace Go.Proofs.Ytphlmaaplaaopaa.Pure
open Go.RowKit Go.Proofs.Ytphlmaaplaaopaa.PFnExactTalkStart Go.Proofs.YtphlmaaplaaopaaW.PrintWords Go.Proofs.YtphlmaaplaaopaaW.PrintLast Go.Proofs.YtphlmaaplaaopaaW.PrintMore
theorem w64 {x : Int} (h0 : -9223372036854775808 ≤ x) (h1 : x ≤ 9223372036854775807) : wrap64 x = x := by unfold wrap64; omega
theorem emp_iff (s : ByteArray) : s.toList = ([] : List UInt8) ↔ s.size = 0 := by
  rw [ByteArray.toList_eq]
  obtain ⟨⟨d⟩⟩ := s
  cases d <;> simp [ByteArray.size]
theorem ev_at {α : Type} {g : Nat → Option α} {r : α} (h : ∀ k, g (k + 1) = some r) : Ev g r := ⟨1, fun k hk => by
  obtain ⟨j, rfl⟩ : ∃ j, k = j + 1 := ⟨k - 1, by omega⟩
  exact h j⟩
theorem ev_ret {α : Type} {g : Nat → Option α} {r : α} (h : ∀ k, g k = some r) : Ev g r := ⟨0, fun k _ => h k⟩
theorem ev_det {α : Type} {g : Nat → Option α} {r s : α} (h : Ev g r) (k : Ev g s) : r = s := by
  obtain ⟨K, h⟩ := h
  obtain ⟨L, k⟩ := k
  have h1 := h (K + L) (by omega)
  have h2 := k (K + L) (by omega)
  rw [h1] at h2
  exact Option.some.inj h2
theorem ba_ext {a b : ByteArray} (h : a.toList = b.toList) : a = b := by
  rw [ByteArray.toList_eq, ByteArray.toList_eq] at h
  exact ByteArray.ext (Array.toList_inj.1 h)
theorem bytesOf_append (a b : ByteArray) : bytesOf (a ++ b) = bytesOf a ++ bytesOf b := by simp [bytesOf, ByteArray.data_append]
theorem strOf_bytesOf (s : ByteArray) : strOfNums (bytesOf s) = s := by
  apply ByteArray.ext
  apply Array.toList_inj.1
  rw [strOfNums_data, bytesOf, List.map_map]
  exact (List.map_congr_left (fun b _ => by simp)).trans (List.map_id _)
theorem bytesOf_inj {a b : ByteArray} (h : bytesOf a = bytesOf b) : a = b := by rw [← strOf_bytesOf a, h, strOf_bytesOf]
theorem tdiv10 {n : Int} (h0 : 0 < n) (h1 : n ≤ 9223372036854775807) : wrap64 (Int.tdiv n 10) = n / 10 := by
  rw [Int.tdiv_eq_ediv_of_nonneg (by omega)]
  exact w64 (by omega) (by omega)
theorem one_size (x : Int) : (strOfNums [x]).size = 1 := by rw [strOfNums_size]; rfl
theorem mark_l0 (d : Nat) : ∀ (n : Int) (s : ByteArray), n < 10 ^ d → n ≤ 9223372036854775807 → s.size + d ≤ 1000 → ∃ r, Ev (fun k => laws_markText.l0 k n s) r := by
  induction d with
  | zero =>
    intro n s hn _ hs
    exact ⟨(⟨#[109]⟩ : ByteArray) ++ s, ev_at (fun k => by simp only [laws_markText.l0]; rw [if_neg (by simp at hn; omega), if_pos (by omega)])⟩
  | succ d ih =>
    intro n s hn hb hs
    by_cases h0 : n > 0
    · have hsz : (strOfNums [(wrap64 (48 + (Int.tmod n 10))) % 256] ++ s).size = 1 + s.size := by rw [ByteArray.size_append, one_size]
      obtain ⟨r, h⟩ := ih (n / 10) (strOfNums [(wrap64 (48 + (Int.tmod n 10))) % 256] ++ s) (by rw [Int.pow_succ] at hn; omega) (by omega) (by omega)
      refine ⟨r, Ev.step (fun k => ?_) h⟩
      simp only [laws_markText.l0]
      rw [if_pos h0]
      simp only [Option.bind_some]
      rw [if_pos (by rw [one_size]; omega), tdiv10 h0 hb]
    · exact ⟨(⟨#[109]⟩ : ByteArray) ++ s, ev_at (fun k => by simp only [laws_markText.l0]; rw [if_neg h0, if_pos (by omega)])⟩
theorem mark_total {n : Int} (hn : n ≤ 9223372036854775807) : ∃ r, Ev (fun k => laws_markText.f k n) r := by
  by_cases h : n ≤ 0
  · exact ⟨_, 0, fun k _ => by simp only [laws_markText.f]; rw [if_pos h]⟩
  · obtain ⟨r, hr⟩ := mark_l0 19 n ⟨#[]⟩ (by have : (10 : Int) ^ 19 = 10000000000000000000 := by decide
                                             omega) hn (by decide)
    exact ⟨r, Ev.congr (fun k => by simp only [laws_markText.f]; rw [if_neg h]) hr⟩
noncomputable def mt (n : Int) : ByteArray := open Classical in if h : ∃ r, Ev (fun k => laws_markText.f k n) r then h.choose else ⟨#[]⟩
theorem mt_ev {n : Int} (hn : n ≤ 9223372036854775807) : Ev (fun k => laws_markText.f k n) (mt n) := by
  have h := mark_total hn
  unfold mt
  rw [dif_pos h]
  exact h.choose_spec
theorem rd_midS (pre : List ByteArray) (x : ByteArray) (t : List ByteArray) {i : Int} (hi : i = pre.length) : rdOf ByteArray.empty (pre ++ x :: t) i = x := by
  subst hi
  simp [rdOf]
theorem set_midS (pre : List ByteArray) (x y : ByteArray) (t : List ByteArray) {i : Int} (hi : i = pre.length) : (pre ++ x :: t).set i.toNat y = pre ++ y :: t := by
  subst hi
  simp
theorem toStr (suf : List ByteArray) : ∀ (pre : List ByteArray) (i : Int), i = pre.length → pre.length + suf.length ≤ 17592186044416 →
    Ev (fun k => laws_toStringS.l0 k (pre ++ suf) (pre ++ List.replicate suf.length (⟨#[]⟩ : ByteArray)) i) (pre ++ suf) := by
  induction suf with
  | nil =>
    intro pre i hi hl
    refine ev_at (fun k => ?_)
    simp only [laws_toStringS.l0]
    rw [if_neg (by simp; omega)]
    simp
  | cons x t ih =>
    intro pre i hi hl
    simp only [List.length_cons] at hl
    have h := ih (pre ++ [x]) (i + 1) (by simp; omega) (by simp; omega)
    have e3 : wrap64 (i + 1) = i + 1 := w64 (by omega) (by omega)
    have c1 : i < ((pre ++ x :: t).length : Int) := by simp; omega
    have c2 : 0 ≤ i := by omega
    have c3 : i < ((pre ++ List.replicate (x :: t).length (⟨#[]⟩ : ByteArray)).length : Int) := by simp; omega
    refine Ev.step (f := fun k => laws_toStringS.l0 k (pre ++ x :: t) (pre ++ x :: List.replicate t.length (⟨#[]⟩ : ByteArray)) (i + 1)) (fun k => ?_) (by simpa using h)
    simp only [laws_toStringS.l0]
    rw [if_pos c1, if_pos c2, if_pos c3, rd_midS pre x t hi, e3, List.length_cons, List.replicate_succ, set_midS _ _ _ _ hi]
theorem toStrS (xs : List ByteArray) (hl : xs.length ≤ 17592186044416) : Ev (fun k => laws_toStringS.f k xs) xs := by
  have h := toStr xs [] 0 rfl (by simpa using hl)
  exact Ev.congr (fun k => by simp only [laws_toStringS.f]; rw [if_pos (by omega), if_pos (by simpa using hl)]; rfl) h
theorem eqStr (xs : List ByteArray) (hx : xs.length ≤ 4611686018427387904) (d : Nat) : ∀ i : Int, 0 ≤ i → (xs.length : Int) - i = d → Ev (fun k => laws_eqStringS.l0 k xs xs i) true := by
  induction d with
  | zero =>
    intro i h0 hd
    exact ev_at (fun k => by simp only [laws_eqStringS.l0]; rw [if_neg (by omega)])
  | succ d ih =>
    intro i h0 hd
    refine Ev.step (fun k => ?_) (ih (i + 1) (by omega) (by omega))
    simp only [laws_eqStringS.l0]
    rw [if_pos (by omega), if_pos h0, if_pos (by omega)]
    simp only [if_true]
    rw [w64 (by omega) (by omega)]
theorem eqStrS (xs : List ByteArray) (hx : xs.length ≤ 4611686018427387904) : Ev (fun k => laws_eqStringS.f k xs xs) true :=
  Ev.congr (fun k => by simp only [laws_eqStringS.f]; rw [if_pos trivial]) (eqStr xs hx xs.length 0 (by omega) (by omega))
noncomputable def mkT : Int → List ByteArray → List ByteArray
  | _, [] => []
  | m, _ :: t => mt m :: mkT (m + 1) t
theorem mkT_length (m : Int) (xs : List ByteArray) : (mkT m xs).length = xs.length := by
  induction xs generalizing m with
  | nil => rfl
  | cons x t ih => simp [mkT, ih]
theorem markT (suf : List ByteArray) : ∀ (pre : List ByteArray) (m i : Int), i = pre.length → 0 ≤ m → m + suf.length ≤ 4611686018427387904 → pre.length + suf.length ≤ 4611686018427387904 →
    Ev (fun k => laws_markStringS.l0 k (pre ++ suf) m i) (m + suf.length, pre ++ mkT m suf) := by
  induction suf with
  | nil =>
    intro pre m i hi h0 hm hl
    refine ev_at (fun k => ?_)
    simp only [laws_markStringS.l0]
    rw [if_neg (by simp; omega)]
    simp [mkT]
  | cons x t ih =>
    intro pre m i hi h0 hm hl
    simp only [List.length_cons, Int.natCast_succ] at hm hl
    have h := ih (pre ++ [mt m]) (m + 1) (i + 1) (by simp; omega) (by omega) (by omega) (by simp; omega)
    have e1 : wrap64 (m + 1) = m + 1 := w64 (by omega) (by omega)
    have e3 : wrap64 (i + 1) = i + 1 := w64 (by omega) (by omega)
    have hres : ((m + ((x :: t).length : Int), pre ++ mkT m (x :: t)) : Int × List ByteArray) = (m + 1 + (t.length : Int), pre ++ [mt m] ++ mkT (m + 1) t) := by
      simp [mkT]
      omega
    rw [hres]
    refine Ev.step (f := fun k => (laws_markText.f k m).bind fun q => laws_markStringS.l0 k (pre ++ q :: t) (m + 1) (i + 1)) (fun k => ?_) (Ev.bind (mt_ev (by omega)) (by simpa using h))
    simp only [laws_markStringS.l0]
    rw [if_pos (by simp; omega)]
    congr 1
    funext q
    rw [if_pos (by omega), set_midS pre x _ t hi, e1, e3]
theorem heldT (suf : List ByteArray) : ∀ (pre : List ByteArray) (m i : Int), i = pre.length → 0 ≤ m → m + suf.length ≤ 4611686018427387904 → pre.length + suf.length ≤ 4611686018427387904 →
    Ev (fun k => laws_heldStringS.l0 k (pre ++ mkT m suf) m i) (m + suf.length) := by
  induction suf with
  | nil =>
    intro pre m i hi h0 hm hl
    refine ev_at (fun k => ?_)
    simp only [laws_heldStringS.l0]
    rw [if_neg (by simp [mkT]; omega)]
    simp
  | cons x t ih =>
    intro pre m i hi h0 hm hl
    simp only [List.length_cons, Int.natCast_succ] at hm hl
    have h := ih (pre ++ [mt m]) (m + 1) (i + 1) (by simp; omega) (by omega) (by omega) (by simp; omega)
    have e1 : wrap64 (m + 1) = m + 1 := w64 (by omega) (by omega)
    have e3 : wrap64 (i + 1) = i + 1 := w64 (by omega) (by omega)
    have hres : m + ((x :: t).length : Int) = m + 1 + (t.length : Int) := by simp; omega
    rw [hres]
    refine Ev.step (f := fun k => (laws_markText.f k m).bind fun q => if (mt m).toList = q.toList then laws_heldStringS.l0 k (pre ++ mkT m (x :: t)) (m + 1) (i + 1) else some (-1)) (fun k => ?_) (Ev.bind (mt_ev (by omega)) ?_)
    · rw [show mkT m (x :: t) = mt m :: mkT (m + 1) t from rfl]
      simp only [laws_heldStringS.l0]
      have c1 : i < ((pre ++ mt m :: mkT (m + 1) t).length : Int) := by simp; omega
      have c2 : 0 ≤ i := by omega
      rw [if_pos c1, if_pos c2, rd_midS pre _ _ hi, e1, e3]
    · simp only [if_pos]
      simpa [mkT] using h
theorem markTS (xs : List ByteArray) (m : Int) (h0 : 0 ≤ m) (hm : m + xs.length ≤ 4611686018427387904) : Ev (fun k => laws_markStringS.f k xs m) (m + xs.length, mkT m xs) := by
  have h := markT xs [] m 0 rfl h0 hm (by simp; omega)
  simp only [List.nil_append] at h
  exact h
theorem heldTS (xs : List ByteArray) (m : Int) (h0 : 0 ≤ m) (hm : m + xs.length ≤ 4611686018427387904) : Ev (fun k => laws_heldStringS.f k (mkT m xs) m) (m + xs.length) := by
  have h := heldT xs [] m 0 rfl h0 hm (by simp; omega)
  simp only [List.nil_append] at h
  exact h
theorem sz_str (suf : List ByteArray) : ∀ (pre : List ByteArray) (l i : Int), i = pre.length → 0 ≤ l → l ≤ 1048576 → pre.length + suf.length ≤ 4611686018427387904 → (∀ x ∈ suf, x.size ≤ 140737488351232) →
    ∃ v, v ≤ 1048576 ∧ Ev (fun k => laws_szStringS.l0 k (pre ++ suf) l i) v := by
  induction suf with
  | nil =>
    intro pre l i hi h0 h1 hl _
    refine ⟨l, h1, ev_at (fun k => ?_)⟩
    simp only [laws_szStringS.l0]
    rw [if_neg (by simp; omega)]
  | cons x t ih =>
    intro pre l i hi h0 h1 hl hx
    have hxs := hx x (List.mem_cons_self ..)
    simp only [List.length_cons] at hl
    have e1 : wrap64 (l - (x.size : Int)) = l - x.size := w64 (by omega) (by omega)
    have e3 : wrap64 (i + 1) = i + 1 := w64 (by omega) (by omega)
    have c1 : i < ((pre ++ x :: t).length : Int) := by simp; omega
    have c2 : 0 ≤ i := by omega
    by_cases hc : l - (x.size : Int) < 0
    · refine ⟨-1, by decide, ev_at (fun k => ?_)⟩
      simp only [laws_szStringS.l0]
      rw [if_pos c1, if_pos c2, rd_midS pre x t hi, e1, if_pos hc]
    · obtain ⟨v, hv, h⟩ := ih (pre ++ [x]) (l - x.size) (i + 1) (by simp; omega) (by omega) (by omega) (by simp; omega) (fun y hy => hx y (List.mem_cons_of_mem _ hy))
      refine ⟨v, hv, Ev.step (f := fun k => laws_szStringS.l0 k (pre ++ x :: t) (l - x.size) (i + 1)) (fun k => ?_) (by simpa using h)⟩
      simp only [laws_szStringS.l0]
      rw [if_pos c1, if_pos c2, rd_midS pre x t hi, e1, if_neg hc, e3]
theorem sz_strS (xs : List ByteArray) (b : Int) (hb0 : 0 ≤ b) (hb1 : b ≤ 1048576) (hl : xs.length ≤ 140737488355327) (hx : ∀ x ∈ xs, x.size ≤ 140737488351232) :
    ∃ v, v ≤ 1048576 ∧ (0 ≤ v → xs.length ≤ 1048576) ∧ Ev (fun k => laws_szStringS.f k xs b) v := by
  have e1 : wrap64 (b - (xs.length : Int)) = b - xs.length := w64 (by omega) (by omega)
  by_cases hc : b - (xs.length : Int) < 0
  · exact ⟨-1, by decide, fun h => absurd h (by decide), ev_ret (fun k => by simp only [laws_szStringS.f]; rw [e1, if_pos hc])⟩
  · obtain ⟨v, hv, h⟩ := sz_str xs [] (b - xs.length) 0 rfl (by omega) (by omega) (by simp; omega) hx
    exact ⟨v, hv, fun _ => by omega, Ev.congr (fun k => by simp only [laws_szStringS.f]; rw [e1, if_neg hc]; rfl) h⟩
abbrev TT := Int × Int × List ByteArray × List ByteArray × Int × List Int × (List (S34)) × (List (S34)) × List ByteArray × List Bool × Int × Int × Int × Bool
def tv (s mo : Int) (old new got : List ByteArray) (dn : List Bool) (ok : Bool) : TT := (s, mo, old, new, 0, [], [], [], got, dn, 0, 0, 0, ok)
def tz : TT := tv 0 0 [] [] [] [] false
def tk (a0 a1 : Int) (l2 l3 : List ByteArray) : TT := tv a0 a1 l2 l3 (List.replicate l2.length ⟨#[]⟩) (List.replicate l2.length false) true
def okt (l : List ByteArray) : Prop := ∀ x ∈ l, x.size ≤ 20000
def tcond (a1 : Int) (l2 l3 : List ByteArray) : Prop := 1 ≤ a1 ∧ a1 ≤ 50 ∧ l2.length = l3.length ∧ l2.length ≤ 1000 ∧ okt l2 ∧ okt l3
theorem rdS_midT (pre : List ByteArray) (x : ByteArray) (t : List ByteArray) {i : Int} (hi : i = pre.length) : rdOf ByteArray.empty (pre ++ x :: t) i = x := by
  subst hi
  simp [rdOf]
theorem spec_tl (a0 a1 : Int) (s2 : List ByteArray) : ∀ (p2 p3 s3 : List ByteArray) (i : Int), i = p2.length → p2.length = p3.length → s2.length = s3.length → p2.length + s2.length ≤ 1000 → ∀ r : TT,
    ((okt s2 ∧ okt s3) ∧ r = tk a0 a1 (p2 ++ s2) (p3 ++ s3) ∨ (¬ (okt s2 ∧ okt s3)) ∧ r = tz) →
    Ev (fun k => spec_TalkStart.l0 k (p2 ++ s2) (p3 ++ s3) i a0 a1 p2 p3 0 (List.replicate p2.length (⟨#[]⟩ : ByteArray)) (List.replicate p2.length false) 0 0 0) r := by
  induction s2 with
  | nil =>
    intro p2 p3 s3 i hi hp hs hl r hr
    obtain rfl : s3 = [] := List.eq_nil_of_length_eq_zero (by simpa using hs.symm)
    have er : r = tk a0 a1 p2 p3 := by
      rcases hr with ⟨_, h⟩ | ⟨h, _⟩
      · simpa using h
      · exact absurd ⟨fun x hx => absurd hx (by simp), fun x hx => absurd hx (by simp)⟩ h
    rw [er]
    refine ev_at (fun k => ?_)
    simp only [spec_TalkStart.l0]
    rw [if_neg (by simp; omega)]
    rfl
  | cons x s2 ih =>
    intro p2 p3 s3 i hi hp hs hl r hr
    cases s3 with
    | nil => simp at hs
    | cons y s3 =>
      simp only [List.length_cons] at hs hl
      have c1 : i < ((p2 ++ x :: s2).length : Int) := by simp; omega
      have c3 : i < ((p3 ++ y :: s3).length : Int) := by simp; omega
      have hx := rdS_midT p2 x s2 hi
      have hy := rdS_midT p3 y s3 (i := i) (by omega)
      by_cases h1 : (x.size : Int) > 20000
      · have er : r = tz := by
          rcases hr with ⟨h, _⟩ | ⟨_, h⟩
          · have := h.1 x (by simp); omega
          · exact h
        rw [er]
        refine ev_at (fun k => ?_)
        simp only [spec_TalkStart.l0]
        rw [if_pos c1, if_pos (by omega), hx, if_pos h1]
        rfl
      by_cases h2 : (y.size : Int) > 20000
      · have er : r = tz := by
          rcases hr with ⟨h, _⟩ | ⟨_, h⟩
          · have := h.2 y (by simp); omega
          · exact h
        rw [er]
        refine ev_at (fun k => ?_)
        simp only [spec_TalkStart.l0]
        rw [if_pos c1, if_pos (by omega), hx, if_neg h1, if_pos c3, hy, if_pos h2]
        rfl
      · have h := ih (p2 ++ [x]) (p3 ++ [y]) s3 (i + 1) (by simp; omega) (by simp; omega) (by omega) (by simp; omega) r ?_
        · refine Ev.step (f := fun k => spec_TalkStart.l0 k (p2 ++ x :: s2) (p3 ++ y :: s3) (i + 1) a0 a1 (p2 ++ [x]) (p3 ++ [y]) 0 (List.replicate p2.length (⟨#[]⟩ : ByteArray) ++ [⟨#[]⟩]) (List.replicate p2.length false ++ [false]) 0 0 0) (fun k => ?_) (by simpa [List.replicate_succ'] using h)
          simp only [spec_TalkStart.l0]
          rw [if_pos c1, if_pos (by omega), hx, if_neg h1, if_pos c3, hy, if_neg h2, if_pos (by omega), if_pos (by omega), if_pos (by simp; omega), if_pos (by simp; omega), w64 (by omega) (by omega)]
        · rcases hr with ⟨⟨h3, h4⟩, h⟩ | ⟨h3, h⟩
          · exact .inl ⟨⟨fun z hz => h3 z (by simp [hz]), fun z hz => h4 z (by simp [hz])⟩, by simpa using h⟩
          · refine .inr ⟨fun h5 => h3 ⟨fun z hz => ?_, fun z hz => ?_⟩, h⟩
            · rcases List.mem_cons.1 hz with rfl | hz
              · omega
              · exact h5.1 z hz
            · rcases List.mem_cons.1 hz with rfl | hz
              · omega
              · exact h5.2 z hz
theorem spec_talk (a0 a1 : Int) (l2 l3 : List ByteArray) (r : TT) (h : tcond a1 l2 l3 ∧ r = tk a0 a1 l2 l3 ∨ ¬ tcond a1 l2 l3 ∧ r = tz) : Ev (fun k => spec_TalkStart.f k a0 a1 l2 l3) r := by
  have hbad : Ev (fun k => spec_TalkStart.j0 k a0 a1 l2 l3 true) tz := ev_at (fun k => by simp only [spec_TalkStart.j0]; rw [if_pos trivial]; rfl)
  have hno : ¬ tcond a1 l2 l3 → r = tz := fun hn => h.elim (fun h => absurd h.1 hn) (fun h => h.2)
  unfold spec_TalkStart.f spec_l01In.f
  by_cases h1 : 1 ≤ a1
  · by_cases h2 : a1 ≤ 50
    · by_cases h3 : l2.length = l3.length
      · by_cases h4 : l2.length ≤ 1000
        · refine Ev.congr (fun k => by rw [if_pos (by omega), decide_eq_true h2, Option.bind_some, if_pos rfl, if_pos (by omega), decide_eq_false (by omega)]) ?_
          refine Ev.step (fun k => by simp only [spec_TalkStart.j0]; rw [if_neg (by decide)]; rfl) (spec_tl a0 a1 l2 [] [] l3 0 rfl rfl h3 (by simp; omega) r ?_)
          rcases h with ⟨h5, h6⟩ | ⟨h5, h6⟩
          · exact .inl ⟨⟨h5.2.2.2.2.1, h5.2.2.2.2.2⟩, by simpa using h6⟩
          · exact .inr ⟨fun h7 => h5 ⟨h1, h2, h3, h4, h7.1, h7.2⟩, h6⟩
        · rw [hno (fun hc => h4 hc.2.2.2.1)]
          exact Ev.congr (fun k => by rw [if_pos (by omega), decide_eq_true h2, Option.bind_some, if_pos rfl, if_pos (by omega), decide_eq_true (by omega)]) hbad
      · rw [hno (fun hc => h3 hc.2.2.1)]
        exact Ev.congr (fun k => by rw [if_pos (by omega), decide_eq_true h2, Option.bind_some, if_pos rfl, if_neg (by omega)]) hbad
    · rw [hno (fun hc => h2 hc.2.1)]
      exact Ev.congr (fun k => by rw [if_pos (by omega), decide_eq_false h2, Option.bind_some, if_neg Bool.false_ne_true]) hbad
  · rw [hno (fun hc => h1 hc.1)]
    exact Ev.congr (fun k => by rw [if_neg (by omega), Option.bind_some, if_neg Bool.false_ne_true]) hbad
theorem txt_any (ss : List ByteArray) : ∀ i : Int, 0 ≤ i → ∃ r : Int, slices_IndexFunc_string_string.go ss i = some r ∧ (0 ≤ r ↔ ¬ okt ss) := by
  induction ss with
  | nil => intro i hi; exact ⟨-1, rfl, by simp [okt]⟩
  | cons x t ih =>
    intro i hi
    by_cases hx : x.size ≤ 20000
    · obtain ⟨r, hr, hr2⟩ := ih (i + 1) (by omega)
      refine ⟨r, ?_, ?_⟩
      · simp only [slices_IndexFunc_string_string.go, impl_areTexts_1.f, Option.bind_some]
        rw [if_neg (by simp; omega), hr]
      · rw [hr2]; simp [okt, hx]
    · refine ⟨i, ?_, ?_⟩
      · simp only [slices_IndexFunc_string_string.go, impl_areTexts_1.f, Option.bind_some]
        rw [if_pos (by simp; omega)]
      · simp [okt, hx, hi]
theorem txt_ev (ss : List ByteArray) : ∃ b, impl_areTexts.f ss = some b ∧ (b = true ↔ okt ss) := by
  obtain ⟨r, hr, hr2⟩ := txt_any ss 0 (by decide)
  refine ⟨!decide (r ≥ 0), ?_, ?_⟩
  · unfold impl_areTexts.f slices_ContainsFunc_string_string.f slices_IndexFunc_string_string.f
    rw [hr]
    rfl
  · by_cases h : 0 ≤ r
    · simp [h]; exact hr2.1 h
    · simp [h]; exact Classical.byContradiction (fun hn => h (hr2.2 hn))
theorem impl_talk (a0 a1 : Int) (l2 l3 : List ByteArray) (r : TT) (h : tcond a1 l2 l3 ∧ r = tk a0 a1 l2 l3 ∨ ¬ tcond a1 l2 l3 ∧ r = tz) : Ev (fun k => impl_TalkStart.f k a0 a1 l2 l3) r := by
  have hbad : Ev (fun k => impl_TalkStart.j0 k a0 a1 l2 l3 (l2.length : Int) true) tz := ev_at (fun k => by simp only [impl_TalkStart.j0]; rw [if_pos trivial]; rfl)
  have hno : ¬ tcond a1 l2 l3 → r = tz := fun hn => h.elim (fun h => absurd h.1 hn) (fun h => h.2)
  obtain ⟨b2, e2, i2⟩ := txt_ev l2
  obtain ⟨b3, e3, i3⟩ := txt_ev l3
  unfold impl_TalkStart.f impl_within.f
  by_cases h1 : 1 ≤ a1
  · by_cases h2 : a1 ≤ 50
    · by_cases h3 : l2.length = l3.length
      · by_cases h4 : l2.length ≤ 1000
        · refine Ev.congr (fun k => by rw [if_pos (by omega), decide_eq_true h2, Option.bind_some, if_pos rfl, if_pos (by omega), if_neg (by omega), e2, Option.bind_some]) ?_
          by_cases k2 : b2 = true
          · refine Ev.congr (fun k => by rw [if_pos k2, e3, Option.bind_some]) ?_
            by_cases k3 : b3 = true
            · have hc : tcond a1 l2 l3 := ⟨h1, h2, h3, h4, i2.1 k2, i3.1 k3⟩
              have er : r = tk a0 a1 l2 l3 := h.elim (fun h => h.2) (fun h => absurd hc h.1)
              rw [er, k3]
              refine ev_at (fun k => ?_)
              have c2 : slices_Clone_string_string.f l2 = some l2 := by unfold slices_Clone_string_string.f; rw [if_pos (by omega)]
              have c3 : slices_Clone_string_string.f l3 = some l3 := by unfold slices_Clone_string_string.f; rw [if_pos (by omega)]
              simp only [impl_TalkStart.j0]
              rw [if_neg (by decide), c2, Option.bind_some, c3, Option.bind_some, if_pos (by omega), if_pos (by omega), if_pos (by omega), Int.toNat_natCast]
              rfl
            · rw [hno (fun hc => k3 (i3.2 hc.2.2.2.2.2))]
              rw [Bool.not_eq_true] at k3
              rw [k3]
              exact hbad
          · rw [hno (fun hc => k2 (i2.2 hc.2.2.2.2.1))]
            exact Ev.congr (fun k => by rw [if_neg k2]) hbad
        · rw [hno (fun hc => h4 hc.2.2.2.1)]
          exact Ev.congr (fun k => by rw [if_pos (by omega), decide_eq_true h2, Option.bind_some, if_pos rfl, if_pos (by omega), if_pos (by omega)]) hbad
      · rw [hno (fun hc => h3 hc.2.2.1)]
        exact Ev.congr (fun k => by rw [if_pos (by omega), decide_eq_true h2, Option.bind_some, if_pos rfl, if_neg (by omega)]) hbad
    · rw [hno (fun hc => h2 hc.2.1)]
      exact Ev.congr (fun k => by rw [if_pos (by omega), decide_eq_false h2, Option.bind_some, if_neg Bool.false_ne_true]) hbad
  · rw [hno (fun hc => h1 hc.1)]
    exact Ev.congr (fun k => by rw [if_neg (by omega), Option.bind_some, if_neg Bool.false_ne_true]) hbad
theorem eqI0 : Ev (fun k => laws_eqIntS.f k [] []) true := Ev.congr (fun k => by simp only [laws_eqIntS.f]; rw [if_pos trivial]) (ev_at (fun k => by simp only [laws_eqIntS.l0]; rw [if_neg (by simp)]))
theorem eqBo (xs : List Bool) (hx : xs.length ≤ 4611686018427387904) (d : Nat) : ∀ i : Int, 0 ≤ i → (xs.length : Int) - i = d → Ev (fun k => laws_eqBoolS.l0 k xs xs i) true := by
  induction d with
  | zero =>
    intro i h0 hd
    exact ev_at (fun k => by simp only [laws_eqBoolS.l0]; rw [if_neg (by omega)])
  | succ d ih =>
    intro i h0 hd
    refine Ev.step (fun k => ?_) (ih (i + 1) (by omega) (by omega))
    simp only [laws_eqBoolS.l0]
    rw [if_pos (by omega), if_pos h0, if_pos (by omega), if_neg (by simp), w64 (by omega) (by omega)]
theorem eqBoS (xs : List Bool) (hx : xs.length ≤ 4611686018427387904) : Ev (fun k => laws_eqBoolS.f k xs xs) true :=
  Ev.congr (fun k => by simp only [laws_eqBoolS.f]; rw [if_pos trivial]) (eqBo xs hx xs.length 0 (by omega) (by omega))
def mkD : Int → List Bool → List Bool
  | _, [] => []
  | m, _ :: t => ((Int.tmod m 3) == 0) :: mkD (m + 1) t
theorem rd_midD (pre : List Bool) (x : Bool) (t : List Bool) {i : Int} (hi : i = pre.length) : rdOf false (pre ++ x :: t) i = x := by
  subst hi
  simp [rdOf]
theorem set_midD (pre : List Bool) (x y : Bool) (t : List Bool) {i : Int} (hi : i = pre.length) : (pre ++ x :: t).set i.toNat y = pre ++ y :: t := by
  subst hi
  simp
theorem markD (suf : List Bool) : ∀ (pre : List Bool) (m i : Int), i = pre.length → 0 ≤ m → m + suf.length ≤ 4611686018427387904 → pre.length + suf.length ≤ 4611686018427387904 →
    Ev (fun k => laws_markBoolS.l0 k (pre ++ suf) m i) (m + suf.length, pre ++ mkD m suf) := by
  induction suf with
  | nil =>
    intro pre m i hi h0 hm hl
    refine ev_at (fun k => ?_)
    simp only [laws_markBoolS.l0]
    rw [if_neg (by simp; omega)]
    simp [mkD]
  | cons x t ih =>
    intro pre m i hi h0 hm hl
    simp only [List.length_cons, Int.natCast_succ] at hm hl
    have h := ih (pre ++ [(Int.tmod m 3) == 0]) (m + 1) (i + 1) (by simp; omega) (by omega) (by omega) (by simp; omega)
    have e1 : wrap64 (m + 1) = m + 1 := w64 (by omega) (by omega)
    have e3 : wrap64 (i + 1) = i + 1 := w64 (by omega) (by omega)
    have hres : ((m + ((x :: t).length : Int), pre ++ mkD m (x :: t)) : Int × List Bool) = (m + 1 + (t.length : Int), pre ++ [(Int.tmod m 3) == 0] ++ mkD (m + 1) t) := by
      simp [mkD]
      omega
    rw [hres]
    refine Ev.step (f := fun k => laws_markBoolS.l0 k (pre ++ ((Int.tmod m 3) == 0) :: t) (m + 1) (i + 1)) (fun k => ?_) (by simpa using h)
    simp only [laws_markBoolS.l0]
    rw [if_pos (by simp; omega), if_pos (by omega), set_midD pre x _ t hi, e1, e3]
theorem heldD (suf : List Bool) : ∀ (pre : List Bool) (m i : Int), i = pre.length → 0 ≤ m → m + suf.length ≤ 4611686018427387904 → pre.length + suf.length ≤ 4611686018427387904 →
    Ev (fun k => laws_heldBoolS.l0 k (pre ++ mkD m suf) m i) (m + suf.length) := by
  induction suf with
  | nil =>
    intro pre m i hi h0 hm hl
    refine ev_at (fun k => ?_)
    simp only [laws_heldBoolS.l0]
    rw [if_neg (by simp [mkD]; omega)]
    simp
  | cons x t ih =>
    intro pre m i hi h0 hm hl
    simp only [List.length_cons, Int.natCast_succ] at hm hl
    have h := ih (pre ++ [(Int.tmod m 3) == 0]) (m + 1) (i + 1) (by simp; omega) (by omega) (by omega) (by simp; omega)
    have e1 : wrap64 (m + 1) = m + 1 := w64 (by omega) (by omega)
    have e3 : wrap64 (i + 1) = i + 1 := w64 (by omega) (by omega)
    have hres : m + ((x :: t).length : Int) = m + 1 + (t.length : Int) := by simp; omega
    rw [hres]
    refine Ev.step (f := fun k => laws_heldBoolS.l0 k (pre ++ ((Int.tmod m 3) == 0) :: mkD (m + 1) t) (m + 1) (i + 1)) (fun k => ?_) (by simpa using h)
    rw [show mkD m (x :: t) = ((Int.tmod m 3) == 0) :: mkD (m + 1) t from rfl]
    simp only [laws_heldBoolS.l0]
    rw [if_pos (by simp; omega), if_pos (by omega), rd_midD pre _ _ hi, if_neg (by simp), e1, e3]
theorem markDS (xs : List Bool) (m : Int) (h0 : 0 ≤ m) (hm : m + xs.length ≤ 4611686018427387904) : Ev (fun k => laws_markBoolS.f k xs m) (m + xs.length, mkD m xs) := by
  have h := markD xs [] m 0 rfl h0 hm (by simp; omega)
  simp only [List.nil_append] at h
  exact h
theorem heldDS (xs : List Bool) (m : Int) (h0 : 0 ≤ m) (hm : m + xs.length ≤ 4611686018427387904) : Ev (fun k => laws_heldBoolS.f k (mkD m xs) m) (m + xs.length) := by
  have h := heldD xs [] m 0 rfl h0 hm (by simp; omega)
  simp only [List.nil_append] at h
  exact h
theorem mk0 (m : Int) : Ev (fun k => laws_markIntS.f k [] m) (m, []) := ev_at (fun k => by simp only [laws_markIntS.f, laws_markIntS.l0]; rw [if_neg (by simp)])
theorem hd0 (m : Int) : Ev (fun k => laws_heldIntS.f k [] m) m := ev_at (fun k => by simp only [laws_heldIntS.f, laws_heldIntS.l0]; rw [if_neg (by simp)])
theorem eq_talk (s mo : Int) (old new got : List ByteArray) (dn : List Bool) (h1 : old.length ≤ 2000) (h2 : new.length ≤ 2000) (h3 : got.length ≤ 2000) (h4 : dn.length ≤ 2000) :
    Ev (fun k => laws_eqTalk.f k s mo old new 0 [] [] [] got dn 0 0 0 s mo old new 0 [] [] [] got dn 0 0 0) true := by
  have em : laws_eqMsgS.f ([] : List S34) [] = some true := rfl
  refine Ev.congr (fun k => by simp only [laws_eqTalk.f]; rw [if_pos trivial, if_pos trivial]) (Ev.bind (eqStrS old (by omega)) ?_)
  refine Ev.congr (fun k => by rw [if_pos rfl]) (Ev.bind (eqStrS new (by omega)) ?_)
  refine Ev.congr (fun k => by rw [if_pos rfl, if_pos trivial]) (Ev.bind eqI0 ?_)
  refine Ev.congr (fun k => by rw [if_pos rfl, em, Option.bind_some, if_pos rfl, Option.bind_some, if_pos rfl]) (Ev.bind (eqStrS got (by omega)) ?_)
  refine Ev.congr (fun k => by rw [if_pos rfl]) (Ev.bind (eqBoS dn (by omega)) ?_)
  exact ev_ret (fun k => by simp)
theorem mark_talk (s mo : Int) (old new got : List ByteArray) (dn : List Bool) (h1 : old.length ≤ 2000) (h2 : new.length ≤ 2000) (h3 : got.length ≤ 2000) (h4 : dn.length ≤ 2000) :
    ∃ m w2 w3 w4 w5, 0 ≤ m ∧ Ev (fun k => laws_markTalk.f k s mo old new 0 [] [] [] got dn 0 0 0 1) (m, w2, w3, [], w4, w5) ∧ Ev (fun k => laws_heldTalk.f k s mo w2 w3 0 [] [] [] w4 w5 0 0 0 1) m := by
  have a1 := markTS old 1 (by decide) (by omega)
  have a2 := markTS new (1 + (old.length : Int)) (by omega) (by omega)
  have a3 := mk0 (1 + (old.length : Int) + (new.length : Int))
  have a4 := markTS got (1 + (old.length : Int) + (new.length : Int)) (by omega) (by omega)
  have a5 := markDS dn (1 + (old.length : Int) + (new.length : Int) + (got.length : Int)) (by omega) (by omega)
  have b1 := heldTS old 1 (by decide) (by omega)
  have b2 := heldTS new (1 + (old.length : Int)) (by omega) (by omega)
  have b3 := hd0 (1 + (old.length : Int) + (new.length : Int))
  have b4 := heldTS got (1 + (old.length : Int) + (new.length : Int)) (by omega) (by omega)
  have b5 := heldDS dn (1 + (old.length : Int) + (new.length : Int) + (got.length : Int)) (by omega) (by omega)
  have hm : ∀ m : Int, laws_markMsgS.f ([] : List S34) m = some m := fun m => rfl
  have hh : ∀ m : Int, laws_heldMsgS.f ([] : List S34) m = some m := fun m => rfl
  refine ⟨1 + (old.length : Int) + (new.length : Int) + (got.length : Int) + (dn.length : Int), mkT 1 old, mkT (1 + (old.length : Int)) new, mkT (1 + (old.length : Int) + (new.length : Int)) got, mkD (1 + (old.length : Int) + (new.length : Int) + (got.length : Int)) dn, by omega, ?_, ?_⟩
  · refine Ev.bind a1 (Ev.bind a2 (Ev.bind a3 ?_))
    refine Ev.congr (fun k => by rw [hm, Option.bind_some, hm, Option.bind_some]) (Ev.bind a4 ?_)
    exact Ev.bind a5 (ev_ret (fun k => rfl))
  · refine Ev.bind b1 ?_
    refine Ev.congr (fun k => by rw [if_neg (by omega)]) (Ev.bind b2 ?_)
    refine Ev.congr (fun k => by rw [if_neg (by omega)]) (Ev.bind b3 ?_)
    refine Ev.congr (fun k => by rw [if_neg (by omega), hh, Option.bind_some, if_neg (by omega), hh, Option.bind_some, if_neg (by omega)]) (Ev.bind b4 ?_)
    refine Ev.congr (fun k => by rw [if_neg (by omega)]) (Ev.bind b5 (ev_ret (fun k => by rw [if_neg (by omega)])))
theorem FnExactTalkStart : laws_FnExactTalkStart.Pure := by
  intro a0 a1 l2 l3 _ _ _ hl2 hs2 _ hl3 hs3
  obtain ⟨v, hv, hn, hz⟩ := sz_strS l2 1048576 (by decide) (by decide) (by omega) hs2
  refine Ev.rounds ?_
  unfold laws_FnExactTalkStart.f
  refine Ev.bind hz ?_
  by_cases hc : v < 0
  · exact ev_ret (fun k => by rw [if_pos hc])
  obtain ⟨v', hv', hn', hz'⟩ := sz_strS l3 v (by omega) hv (by omega) hs3
  refine Ev.congr (fun k => by rw [if_neg hc]) (Ev.bind hz' ?_)
  by_cases hc' : v' < 0
  · exact ev_ret (fun k => by rw [if_pos hc'])
  have w2 := hn (by omega)
  have w3 := hn' (by omega)
  have t2 := toStrS l2 (by omega)
  have t3 := toStrS l3 (by omega)
  obtain ⟨s, mo, old, new, got, dn, ok, h1, h2, h3, h4, hsp, him⟩ : ∃ s mo old new got dn ok, old.length ≤ 2000 ∧ new.length ≤ 2000 ∧ got.length ≤ 2000 ∧ dn.length ≤ 2000 ∧ Ev (fun k => spec_TalkStart.f k a0 a1 l2 l3) (tv s mo old new got dn ok) ∧ Ev (fun k => impl_TalkStart.f k a0 a1 l2 l3) (tv s mo old new got dn ok) := by
    by_cases hk : tcond a1 l2 l3
    · have e4 := hk.2.2.2.1
      have e3 := hk.2.2.1
      exact ⟨_, _, _, _, _, _, _, by omega, by omega, by simp; omega, by simp; omega, spec_talk a0 a1 l2 l3 _ (.inl ⟨hk, rfl⟩), impl_talk a0 a1 l2 l3 _ (.inl ⟨hk, rfl⟩)⟩
    · exact ⟨_, _, _, _, _, _, _, by simp, by simp, by simp, by simp, spec_talk a0 a1 l2 l3 _ (.inr ⟨hk, rfl⟩), impl_talk a0 a1 l2 l3 _ (.inr ⟨hk, rfl⟩)⟩
  have he := eq_talk s mo old new got dn h1 h2 h3 h4
  obtain ⟨m, u2, u3, u4, u5, hm0, hmk, hhd⟩ := mark_talk s mo old new got dn h1 h2 h3 h4
  have q2 := eqStrS l2 (by omega)
  have q3 := eqStrS l3 (by omega)
  have m2 := markTS l2 1 (by decide) (by omega)
  have m3 := markTS l3 (1 + (l2.length : Int)) (by omega) (by omega)
  have e1 : (ok != ok) = false := by simp
  have hj2 : Ev (fun k => laws_FnExactTalkStart.j2 k m false s mo u2 u3 0 [] [] [] u4 u5 0 0 0) true := by
    refine Ev.step (fun k => by simp only [laws_FnExactTalkStart.j2]; rw [if_neg (by decide)]) (Ev.bind hhd ?_)
    exact ev_ret (fun k => by rw [if_neg (by omega), if_pos rfl])
  have hj1 : Ev (fun k => laws_FnExactTalkStart.j1 k a0 a1 l2 l3 ok false s mo old new 0 [] [] [] got dn 0 0 0 s mo old new 0 [] [] [] got dn 0 0 0) true := by
    refine Ev.step (fun k => by simp only [laws_FnExactTalkStart.j1]; rw [if_neg (by decide)]) (Ev.bind hmk (Ev.bind hhd ?_))
    refine Ev.congr (fun k => by rw [if_neg (by omega), if_pos rfl]) (Ev.bind t2 (Ev.bind t3 (Ev.bind him (Ev.bind he ?_))))
    exact Ev.congr (fun k => by rw [if_pos rfl, show ((tv s mo old new got dn ok).2.2.2.2.2.2.2.2.2.2.2.2.2 != ok) = false from e1]) hj2
  have hj0 : Ev (fun k => laws_FnExactTalkStart.j0 k a0 a1 l2 l3 ok l2 l3 ok false s mo old new 0 [] [] [] got dn 0 0 0 s mo old new 0 [] [] [] got dn 0 0 0) true := by
    refine Ev.step (fun k => by simp only [laws_FnExactTalkStart.j0]; rw [if_neg (by decide)]) (Ev.bind t2 (Ev.bind q2 ?_))
    refine Ev.congr (fun k => by rw [if_pos rfl]) (Ev.bind t3 (Ev.bind q3 ?_))
    refine Ev.congr (fun k => by rw [if_pos rfl]) (Ev.bind m2 (Ev.bind m3 ?_))
    refine Ev.congr (fun k => by rw [if_neg (by omega)]) (Ev.bind he ?_)
    exact Ev.congr (fun k => by rw [if_pos rfl, e1]) hj1
  refine Ev.congr (fun k => by rw [if_neg hc']) (Ev.bind t2 (Ev.bind t3 (Ev.bind hsp (Ev.bind t2 (Ev.bind t3 (Ev.bind him (Ev.bind he ?_)))))))
  exact Ev.congr (fun k => by rw [if_pos rfl, show ((tv s mo old new got dn ok).2.2.2.2.2.2.2.2.2.2.2.2.2 != (tv s mo old new got dn ok).2.2.2.2.2.2.2.2.2.2.2.2.2) = false from e1]; rfl) hj0
end Go.Proofs.Ytphlmaaplaaopaa.Pure
