/- The program's FrameText gives the frames that the reference's gives, at every tag and every text; its answer is new memory, behind a second call too. No condition beside the form's own reach. -/
import Derived.Test.YtbiaakkmmkddfaaPFnExactFrameTextx3
namespace Go.Proofs.Ytbiaakkmmkddfaa.Pure
open Go.RowKit Go.Proofs.Ytbiaakkmmkddfaa.PFnExactFrameText Go.Proofs.YtbiaakkmmkddfaaW.PrintWords Go.Proofs.YtbiaakkmmkddfaaW.PrintLast Go.Proofs.YtbiaakkmmkddfaaW.PrintMore

theorem w64 {x : Int} (h0 : -9223372036854775808 ≤ x) (h1 : x ≤ 9223372036854775807) : wrap64 x = x := by unfold wrap64; omega
theorem emp_iff (s : ByteArray) : s.toList = ([] : List UInt8) ↔ s.size = 0 := by
  rw [ByteArray.toList_eq]
  obtain ⟨⟨d⟩⟩ := s
  cases d <;> simp [ByteArray.size]
theorem tdiv10 {n : Int} (h0 : 0 < n) (h1 : n ≤ 9223372036854775807) : wrap64 (Int.tdiv n 10) = n / 10 := by
  rw [Int.tdiv_eq_ediv_of_nonneg (by omega)]
  exact w64 (by omega) (by omega)
theorem one_size (x : Int) : (strOfNums [x]).size = 1 := by rw [strOfNums_size]; rfl

/-! The mark's text: some text for each number. -/
theorem mark_l0 (d : Nat) : ∀ (n : Int) (s : ByteArray), n < 10 ^ d → n ≤ 9223372036854775807 → s.size + d ≤ 1000 → ∃ r, Ev (fun k => laws_markText.l0 k n s) r := by
  induction d with
  | zero =>
    intro n s hn _ hs
    refine ⟨(⟨#[109]⟩ : ByteArray) ++ s, 1, fun k hk => ?_⟩
    obtain ⟨m, rfl⟩ : ∃ m, k = m + 1 := ⟨k - 1, by omega⟩
    simp only [laws_markText.l0]
    rw [if_neg (by simp at hn; omega), if_pos (by omega)]
  | succ d ih =>
    intro n s hn hb hs
    by_cases h0 : n > 0
    · have hsz : (strOfNums [(wrap64 (48 + (Int.tmod n 10))) % 256] ++ s).size = 1 + s.size := by rw [ByteArray.size_append, one_size]
      obtain ⟨r, h⟩ := ih (n / 10) (strOfNums [(wrap64 (48 + (Int.tmod n 10))) % 256] ++ s) (by rw [Int.pow_succ] at hn; omega) (by omega) (by omega)
      refine ⟨r, Ev.step (fun k => ?_) h⟩
      simp only [laws_markText.l0]
      rw [if_pos h0]
      simp only [Option.bind_some]
      rw [if_pos (by rw [one_size]; omega), tdiv10 h0 hb]
    · refine ⟨(⟨#[109]⟩ : ByteArray) ++ s, 1, fun k hk => ?_⟩
      obtain ⟨m, rfl⟩ : ∃ m, k = m + 1 := ⟨k - 1, by omega⟩
      simp only [laws_markText.l0]
      rw [if_neg h0, if_pos (by omega)]
theorem mark_total {n : Int} (hn : n ≤ 9223372036854775807) : ∃ r, Ev (fun k => laws_markText.f k n) r := by
  by_cases h : n ≤ 0
  · exact ⟨_, 0, fun k _ => by simp only [laws_markText.f]; rw [if_pos h]⟩
  · obtain ⟨r, hr⟩ := mark_l0 19 n ⟨#[]⟩ (by have : (10 : Int) ^ 19 = 10000000000000000000 := by decide
                                             omega) hn (by decide)
    exact ⟨r, Ev.congr (fun k => by simp only [laws_markText.f]; rw [if_neg h]) hr⟩
noncomputable def mt (n : Int) : ByteArray := open Classical in if h : ∃ r, Ev (fun k => laws_markText.f k n) r then h.choose else ⟨#[]⟩
theorem mt_ev {n : Int} (hn : n ≤ 9223372036854775807) : Ev (fun k => laws_markText.f k n) (mt n) := by
  have h := mark_total hn
  unfold mt
  rw [dif_pos h]
  exact h.choose_spec

/-! Marked frames, and what is held against them. -/
theorem rd_mid (pre : List S26) (x : S26) (t : List S26) {i : Int} (hi : i = pre.length) : rd_T26 (pre ++ x :: t) i = x := by
  subst hi
  simp [rd_T26]
theorem set_mid (pre : List S26) (x y : S26) (t : List S26) {i : Int} (hi : i = pre.length) : (pre ++ x :: t).set i.toNat y = pre ++ y :: t := by
  subst hi
  simp
noncomputable def mkF : Int → List S26 → List S26
  | _, [] => []
  | m, _ :: t => ⟨m, mt (m + 1)⟩ :: mkF (m + 2) t
theorem mkF_length (m : Int) (xs : List S26) : (mkF m xs).length = xs.length := by
  induction xs generalizing m with
  | nil => rfl
  | cons x t ih => simp [mkF, ih]
theorem markF (suf : List S26) : ∀ (pre : List S26) (m i : Int), i = pre.length → 0 ≤ m → m + 2 * suf.length ≤ 4611686018427387904 → pre.length + suf.length ≤ 4611686018427387904 →
    Ev (fun k => laws_markFrameS.l0 k (pre ++ suf) m i) (m + 2 * suf.length, pre ++ mkF m suf) := by
  induction suf with
  | nil =>
    intro pre m i hi h0 hm hl
    refine ⟨1, fun k hk => ?_⟩
    obtain ⟨j, rfl⟩ : ∃ j, k = j + 1 := ⟨k - 1, by omega⟩
    simp only [laws_markFrameS.l0]
    rw [if_neg (by simp; omega)]
    simp [mkF]
  | cons x t ih =>
    intro pre m i hi h0 hm hl
    simp only [List.length_cons, Int.natCast_succ] at hm hl
    have h := ih (pre ++ [⟨m, mt (m + 1)⟩]) (m + 2) (i + 1) (by simp; omega) (by omega) (by omega) (by simp; omega)
    have e1 : wrap64 (m + 1) = m + 1 := w64 (by omega) (by omega)
    have e2 : wrap64 (m + 1 + 1) = m + 2 := by rw [w64 (by omega) (by omega)]; omega
    have e3 : wrap64 (i + 1) = i + 1 := w64 (by omega) (by omega)
    have hres : ((m + 2 * ((x :: t).length : Int), pre ++ mkF m (x :: t)) : Int × List S26) = (m + 2 + 2 * (t.length : Int), pre ++ [⟨m, mt (m + 1)⟩] ++ mkF (m + 2) t) := by
      simp [mkF]
      omega
    rw [hres]
    refine Ev.step (f := fun k => (laws_markText.f k (m + 1)).bind fun q => laws_markFrameS.l0 k (pre ++ ⟨m, q⟩ :: t) (m + 2) (i + 1)) (fun k => ?_) (Ev.bind (mt_ev (by omega)) ?_)
    · simp only [laws_markFrameS.l0]
      rw [if_pos (by simp; omega), if_pos (by omega)]
      simp only [Option.bind_some]
      rw [e1, e2, e3, set_mid pre x _ t hi]
      congr 1
      funext q
      rw [rd_mid pre _ t hi, set_mid pre _ _ t hi, rd_mid pre _ t hi]
    · simpa using h
theorem heldF (suf : List S26) : ∀ (pre : List S26) (m i : Int), i = pre.length → 0 ≤ m → m + 2 * suf.length ≤ 4611686018427387904 → pre.length + suf.length ≤ 4611686018427387904 →
    Ev (fun k => laws_heldFrameS.l0 k (pre ++ mkF m suf) m i) (m + 2 * suf.length) := by
  induction suf with
  | nil =>
    intro pre m i hi h0 hm hl
    refine ⟨1, fun k hk => ?_⟩
    obtain ⟨j, rfl⟩ : ∃ j, k = j + 1 := ⟨k - 1, by omega⟩
    simp only [laws_heldFrameS.l0]
    rw [if_neg (by simp [mkF]; omega)]
    simp
  | cons x t ih =>
    intro pre m i hi h0 hm hl
    simp only [List.length_cons, Int.natCast_succ] at hm hl
    have h := ih (pre ++ [⟨m, mt (m + 1)⟩]) (m + 2) (i + 1) (by simp; omega) (by omega) (by omega) (by simp; omega)
    have e1 : wrap64 (m + 1) = m + 1 := w64 (by omega) (by omega)
    have e2 : wrap64 (m + 1 + 1) = m + 2 := by rw [w64 (by omega) (by omega)]; omega
    have e3 : wrap64 (i + 1) = i + 1 := w64 (by omega) (by omega)
    have hres : m + 2 * ((x :: t).length : Int) = m + 2 + 2 * (t.length : Int) := by simp; omega
    rw [hres]
    refine Ev.step (f := fun k => (laws_markText.f k (m + 1)).bind fun q => if (mt (m + 1)).toList = q.toList then laws_heldFrameS.l0 k (pre ++ mkF m (x :: t)) (m + 2) (i + 1) else some (-1)) (fun k => ?_) (Ev.bind (mt_ev (by omega)) ?_)
    · rw [show mkF m (x :: t) = (⟨m, mt (m + 1)⟩ : S26) :: mkF (m + 2) t from rfl]
      simp only [laws_heldFrameS.l0]
      have c1 : i < ((pre ++ (⟨m, mt (m + 1)⟩ : S26) :: mkF (m + 2) t).length : Int) := by simp; omega
      have c2 : 0 ≤ i := by omega
      rw [if_pos c1, if_pos c2, rd_mid pre _ _ hi, e1, e2, e3]
      simp only [if_true]
    · simp only [if_pos]
      simpa [mkF] using h

/-! Frames against the same frames. -/
theorem eqF (xs : List S26) (hx : xs.length ≤ 4611686018427387904) (d : Nat) : ∀ i : Int, 0 ≤ i → (xs.length : Int) - i = d → Ev (fun k => laws_eqFrameS.l0 k xs xs i) true := by
  induction d with
  | zero =>
    intro i h0 hd
    refine ⟨1, fun k hk => ?_⟩
    obtain ⟨j, rfl⟩ : ∃ j, k = j + 1 := ⟨k - 1, by omega⟩
    simp only [laws_eqFrameS.l0]
    rw [if_neg (by omega)]
  | succ d ih =>
    intro i h0 hd
    refine Ev.step (fun k => ?_) (ih (i + 1) (by omega) (by omega))
    simp only [laws_eqFrameS.l0, laws_eqFrame.f]
    rw [if_pos (by omega), if_pos h0, if_pos (by omega)]
    simp only [if_true, Option.bind_some]
    rw [w64 (by omega) (by omega)]
theorem eqFS (xs : List S26) (hx : xs.length ≤ 4611686018427387904) : Ev (fun k => laws_eqFrameS.f k xs xs) true :=
  Ev.congr (fun k => by simp only [laws_eqFrameS.f]; rw [if_pos trivial]) (eqF xs hx xs.length 0 (by omega) (by omega))

/-! The blocks: the same in both. -/
theorem blocks (d : Nat) : ∀ (s : ByteArray) (acc : List ByteArray), s.size ≤ d → acc.length + s.size ≤ 20000 →
    ∃ r : List ByteArray, Ev (fun k => spec_l05Blocks.l0 k s 1000 acc) r ∧ Ev (fun k => impl_blocksOf.l0 k s 1000 acc) r ∧ r.length ≤ 20000 := by
  induction d with
  | zero =>
    intro s acc hs hb
    refine ⟨acc, ⟨1, fun k hk => ?_⟩, ⟨1, fun k hk => ?_⟩, by omega⟩
    · obtain ⟨j, rfl⟩ : ∃ j, k = j + 1 := ⟨k - 1, by omega⟩
      simp only [spec_l05Blocks.l0]
      rw [if_neg (by omega), if_neg (by omega)]
    · obtain ⟨j, rfl⟩ : ∃ j, k = j + 1 := ⟨k - 1, by omega⟩
      simp only [impl_blocksOf.l0]
      rw [if_pos ((emp_iff s).2 (by omega))]
  | succ d ih =>
    intro s acc hs hb
    by_cases h0 : s.size = 0
    · refine ⟨acc, ⟨1, fun k hk => ?_⟩, ⟨1, fun k hk => ?_⟩, by omega⟩
      · obtain ⟨j, rfl⟩ : ∃ j, k = j + 1 := ⟨k - 1, by omega⟩
        simp only [spec_l05Blocks.l0]
        rw [if_neg (by omega), if_neg (by omega)]
      · obtain ⟨j, rfl⟩ : ∃ j, k = j + 1 := ⟨k - 1, by omega⟩
        simp only [impl_blocksOf.l0]
        rw [if_pos ((emp_iff s).2 h0)]
    · have hne : ¬ s.toList = ([] : List UInt8) := fun h => h0 ((emp_iff s).1 h)
      by_cases hb2 : s.size > 1000
      · have em : mn 1000 (s.size : Int) = 1000 := by unfold mn; rw [if_neg (by omega)]
        obtain ⟨r, h1, h2, h3⟩ := ih (s.extract 1000 s.size) (acc ++ [s.extract 0 1000]) (by simp; omega) (by simp; omega)
        refine ⟨r, Ev.step (fun k => ?_) h1, Ev.step (fun k => ?_) h2, h3⟩
        · simp only [spec_l05Blocks.l0]
          rw [if_pos (by omega), if_pos (by omega), if_pos (by omega), if_pos (by omega)]
          rfl
        · simp only [impl_blocksOf.l0]
          rw [if_neg hne, em, if_pos (by omega), if_pos (by omega), if_pos (by omega)]
          rfl
      · have em : mn 1000 (s.size : Int) = (s.size : Int) := by unfold mn; split <;> omega
        have ee : s.extract 0 s.size = s := ByteArray.extract_zero_size
        have ez : (s.extract s.size s.size).size = 0 := by simp
        refine ⟨acc ++ [s], ⟨1, fun k hk => ?_⟩, ?_, by simp; omega⟩
        · obtain ⟨j, rfl⟩ : ∃ j, k = j + 1 := ⟨k - 1, by omega⟩
          simp only [spec_l05Blocks.l0]
          rw [if_neg (by omega), if_pos (by omega), if_pos (by omega)]
        · refine Ev.step (f := fun k => impl_blocksOf.l0 k (s.extract s.size s.size) 1000 (acc ++ [s])) (fun k => ?_) ⟨1, fun k hk => ?_⟩
          · simp only [impl_blocksOf.l0]
            rw [if_neg hne, em, if_pos (by omega), if_pos (by omega), if_pos (by omega)]
            simp only [Int.toNat_natCast, ee]
          · obtain ⟨j, rfl⟩ : ∃ j, k = j + 1 := ⟨k - 1, by omega⟩
            simp only [impl_blocksOf.l0]
            rw [if_pos ((emp_iff _).2 ez)]

/-! The frames out of the blocks. -/
theorem spec_frames (a0 : Int) (bs : List ByteArray) (hb : bs.length ≤ 20000) (d : Nat) : ∀ (acc : List S26) (i : Int), 0 ≤ i → (bs.length : Int) - i = d → acc.length = i.toNat →
    Ev (fun k => spec_FrameText.l0 k a0 acc bs i) (acc ++ (bs.drop i.toNat).map fun b => (⟨a0, b⟩ : S26)) := by
  induction d with
  | zero =>
    intro acc i h0 hd ha
    refine ⟨1, fun k hk => ?_⟩
    obtain ⟨j, rfl⟩ : ∃ j, k = j + 1 := ⟨k - 1, by omega⟩
    simp only [spec_FrameText.l0]
    rw [if_neg (by omega), List.drop_of_length_le (by omega)]
    simp
  | succ d ih =>
    intro acc i h0 hd ha
    have h := ih (acc ++ [⟨a0, rdOf ByteArray.empty bs i⟩]) (i + 1) (by omega) (by omega) (by simp; omega)
    have hlt : i.toNat < bs.length := by omega
    have ed : bs.drop i.toNat = rdOf ByteArray.empty bs i :: bs.drop (i + 1).toNat := by
      rw [show (i + 1).toNat = i.toNat + 1 by omega, List.drop_eq_getElem_cons hlt]
      simp [rdOf, hlt]
    rw [ed]
    refine Ev.step (fun k => ?_) (by simpa using h)
    simp only [spec_FrameText.l0]
    rw [if_pos (by omega), if_pos h0, if_pos (by omega), w64 (by omega) (by omega)]
theorem impl_frames (a0 : Int) (bs : List ByteArray) (hb : bs.length ≤ 20000) (d : Nat) : ∀ (acc : List S26) (i : Int), 0 ≤ i → (bs.length : Int) - i = d → acc.length = i.toNat →
    Ev (fun k => impl_FrameText.l0 k a0 acc bs (bs.length : Int) i) (acc ++ (bs.drop i.toNat).map fun b => (⟨a0, b⟩ : S26)) := by
  induction d with
  | zero =>
    intro acc i h0 hd ha
    refine ⟨1, fun k hk => ?_⟩
    obtain ⟨j, rfl⟩ : ∃ j, k = j + 1 := ⟨k - 1, by omega⟩
    simp only [impl_FrameText.l0]
    rw [if_neg (by omega), List.drop_of_length_le (by omega)]
    simp
  | succ d ih =>
    intro acc i h0 hd ha
    have h := ih (acc ++ [⟨a0, rdOf ByteArray.empty bs i⟩]) (i + 1) (by omega) (by omega) (by simp; omega)
    have hlt : i.toNat < bs.length := by omega
    have ed : bs.drop i.toNat = rdOf ByteArray.empty bs i :: bs.drop (i + 1).toNat := by
      rw [show (i + 1).toNat = i.toNat + 1 by omega, List.drop_eq_getElem_cons hlt]
      simp [rdOf, hlt]
    rw [ed]
    refine Ev.step (fun k => ?_) (by simpa using h)
    simp only [impl_FrameText.l0]
    rw [if_pos (by omega), if_pos h0, if_pos (by omega), if_pos (by omega), w64 (by omega) (by omega)]

/-- Both give the same frames. -/
theorem frame_text (a0 : Int) (a1 : ByteArray) : ∃ r : List S26, Ev (fun k => spec_FrameText.f k a0 a1) r ∧ Ev (fun k => impl_FrameText.f k a0 a1) r ∧ r.length ≤ 20000 := by
  by_cases hc : 0 ≤ a0 ∧ a0 ≤ 7 ∧ a1.size ≤ 20000
  · obtain ⟨h0, h7, hs⟩ := hc
    have hd : decide ((a1.size : Int) > 20000) = false := decide_eq_false (by omega)
    obtain ⟨bs, h1, h2, h3⟩ := blocks a1.size a1 [] (Nat.le_refl _) (by simpa using hs)
    have s := spec_frames a0 bs h3 bs.length [] 0 (by omega) (by omega) rfl
    have t := impl_frames a0 bs h3 bs.length [] 0 (by omega) (by omega) rfl
    simp only [List.nil_append, Int.toNat_zero, List.drop_zero] at s t
    refine ⟨bs.map fun b => (⟨a0, b⟩ : S26), ?_, ?_, by simpa using h3⟩
    · refine Ev.congr (f := fun k => spec_FrameText.j0 k a0 a1 [] false) (fun k => ?_) (Ev.step (f := fun k => (spec_l05Blocks.f k a1 1000).bind fun t => spec_FrameText.l0 k a0 [] t 0) (fun k => ?_) (Ev.bind (a := bs) h1 s))
      · simp only [spec_FrameText.f, spec_l01In.f, Option.bind_some]
        rw [if_pos (by omega)]
        simp only [Option.bind_some, hd]
        rw [if_pos (by simpa using h7)]
      · simp only [spec_FrameText.j0]
        rw [if_neg (by decide)]
    · refine Ev.congr (f := fun k => impl_FrameText.j0 k a0 a1 false) (fun k => ?_) (Ev.step (f := fun k => (impl_blocksOf.f k a1 1000).bind fun t => impl_FrameText.l0 k a0 [] t (t.length : Int) 0) (fun k => ?_) (Ev.bind (a := bs) h2 t))
      · simp only [impl_FrameText.f, impl_within.f]
        rw [if_pos (by omega)]
        simp only [Option.bind_some, hd]
        rw [if_pos (by simpa using h7)]
      · simp only [impl_FrameText.j0]
        rw [if_neg (by decide)]
  · refine ⟨[], ⟨1, fun k hk => ?_⟩, ⟨1, fun k hk => ?_⟩, by simp⟩
    · obtain ⟨j, rfl⟩ : ∃ j, k = j + 1 := ⟨k - 1, by omega⟩
      simp only [spec_FrameText.f, spec_l01In.f, Option.bind_some]
      by_cases h0 : a0 ≥ 0
      · rw [if_pos h0]
        simp only [Option.bind_some]
        by_cases h7 : a0 ≤ 7
        · rw [if_pos (by simpa using h7), decide_eq_true (by omega)]
          simp [spec_FrameText.j0]
        · rw [if_neg (by simpa using h7)]
          simp [spec_FrameText.j0]
      · rw [if_neg h0]
        simp [spec_FrameText.j0]
    · obtain ⟨j, rfl⟩ : ∃ j, k = j + 1 := ⟨k - 1, by omega⟩
      simp only [impl_FrameText.f, impl_within.f]
      by_cases h0 : a0 ≥ 0
      · rw [if_pos h0]
        simp only [Option.bind_some]
        by_cases h7 : a0 ≤ 7
        · rw [if_pos (by simpa using h7), decide_eq_true (by omega)]
          simp [impl_FrameText.j0]
        · rw [if_neg (by simpa using h7)]
          simp [impl_FrameText.j0]
      · rw [if_neg h0]
        simp [impl_FrameText.j0]

theorem FnExactFrameText : laws_FnExactFrameText.Pure := by
  intro a0 a1 _ _
  by_cases hbig : (a1.size : Int) > 1048576
  · exact ⟨0, by simp only [laws_FnExactFrameText.f]; rw [if_pos hbig]⟩
  · obtain ⟨r, h1, h2, hr⟩ := frame_text a0 a1
    have hm := markF r [] 1 0 rfl (by omega) (by omega) (by simp; omega)
    have hh := heldF r [] 1 0 rfl (by omega) (by omega) (by simp; omega)
    simp only [List.nil_append] at hm hh
    have he := eqFS r (by omega)
    refine Ev.rounds (Ev.congr (fun k => by simp only [laws_FnExactFrameText.f]; rw [if_neg hbig]) ?_)
    refine Ev.bind h1 (Ev.bind h2 (Ev.bind he ?_))
    simp only [if_true]
    refine Ev.bind hm ?_
    refine Ev.bind hh ?_
    refine Ev.congr (fun k => by rw [if_neg (by omega), if_pos rfl]) ?_
    refine Ev.bind h2 (Ev.bind he ?_)
    simp only [if_true]
    refine Ev.bind hh ?_
    refine Ev.congr (fun k => by rw [if_neg (by omega), if_pos rfl]) ?_
    exact Ev.now true
end Go.Proofs.Ytbiaakkmmkddfaa.Pure
