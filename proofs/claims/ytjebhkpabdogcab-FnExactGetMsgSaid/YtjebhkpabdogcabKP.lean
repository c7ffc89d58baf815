/- The law in plain Lean: what the reference reads out of any bytes is what the program reads out of them. No condition. -/
import Derived.Test.YtjebhkpabdogcabIRb
import Derived.Laws.BitsLemmas
/-! IP1 -/
set_option linter.unusedVariables false
set_option linter.unusedSimpArgs false
set_option maxRecDepth 100000
set_option maxHeartbeats 4000000
namespace Go.I
open Go
/-- From some fuel on, f answers v. -/
def Ev {α : Type} (f : Nat → Option α) (v : α) : Prop := ∃ K, ∀ k, K ≤ k → f k = some v
section
variable {α β : Type}
theorem Ev.ret {f : Nat → Option α} {v : α} (h : ∀ k, f k = some v) : Ev f v := ⟨0, fun k _ => h k⟩
theorem Ev.at {f : Nat → Option α} {v : α} (h : ∀ k, f (k + 1) = some v) : Ev f v := ⟨1, fun k hk => by
  obtain ⟨j, rfl⟩ : ∃ j, k = j + 1 := ⟨k - 1, by omega⟩
  exact h j⟩
theorem Ev.step {f g : Nat → Option α} {v : α} (h : ∀ k, f (k + 1) = g k) (hg : Ev g v) : Ev f v := by
  obtain ⟨K, hg⟩ := hg
  refine ⟨K + 1, fun k hk => ?_⟩
  obtain ⟨j, rfl⟩ : ∃ j, k = j + 1 := ⟨k - 1, by omega⟩
  rw [h, hg j (by omega)]
theorem Ev.congr {f g : Nat → Option α} {v : α} (h : ∀ k, f k = g k) (hg : Ev g v) : Ev f v := by
  obtain ⟨K, hg⟩ := hg
  exact ⟨K, fun k hk => by rw [h, hg k hk]⟩
theorem Ev.bind {f : Nat → Option α} {g : Nat → α → Option β} {a : α} {v : β} (h1 : Ev f a) (h2 : Ev (fun k => g k a) v) : Ev (fun k => (f k).bind (g k)) v := by
  obtain ⟨K, h1⟩ := h1
  obtain ⟨L, h2⟩ := h2
  refine ⟨K + L, fun k hk => ?_⟩
  show (f k).bind (g k) = some v
  rw [h1 k (by omega), Option.bind_some]
  exact h2 k (by omega)
theorem Ev.det {f : Nat → Option α} {u v : α} (h1 : Ev f u) (h2 : Ev f v) : u = v := by
  obtain ⟨K, h1⟩ := h1
  obtain ⟨L, h2⟩ := h2
  have e1 := h1 (K + L) (by omega)
  rw [h2 (K + L) (by omega)] at e1
  exact (Option.some.inj e1).symm
end
theorem w64 {x : Int} (h0 : -9223372036854775808 ≤ x) (h1 : x ≤ 9223372036854775807) : IntKind.wrap .i64 x = x := by rw [IntKind.wrap_i64]; omega
theorem w8 {x : Int} (h0 : 0 ≤ x) (h1 : x ≤ 255) : IntKind.wrap .u8 x = x := by rw [IntKind.wrap_u8]; omega
theorem w32 {x : Int} (h0 : 0 ≤ x) (h1 : x ≤ 4294967295) : IntKind.wrap .u32 x = x := by rw [IntKind.wrap_u32]; omega
/-- (No unfolding: the kernel goes astray among big conditions.) -/
theorem bnd {α β : Type} (a : α) (f : α → Option β) : (some a).bind f = f a := by
  have h : ∀ o : Option α, o = some a → o.bind f = f a := fun o ho => by subst ho; exact Option.bind_some ..
  exact h _ rfl
/-! ### lists -/
theorem get_mid {α : Type} (pre : List α) (x d : α) (t : List α) {i : Int} (hi : i = pre.length) : (pre ++ x :: t).getD i.toNat d = x := by subst hi; simp
theorem set_mid {α : Type} (pre : List α) (x y : α) (t : List α) {i : Int} (hi : i = pre.length) : (pre ++ x :: t).set i.toNat y = pre ++ y :: t := by subst hi; simp
theorem len_mid {α : Type} (pre : List α) (x : α) (t : List α) : ((pre ++ x :: t).length : Int) = pre.length + t.length + 1 := by simp; omega
theorem len_app {α : Type} (pre t : List α) : ((pre ++ t).length : Int) = pre.length + t.length := by simp
theorem cpB (suf : List Int) : ∀ (pre : List Int) (i : Int), i = pre.length → pre.length + suf.length ≤ 281474976710656 → Ev (fun k => laws_toByteS.l0 k (pre ++ suf) (pre ++ List.replicate suf.length 0) i) (pre ++ suf) := by
  induction suf with
  | nil =>
    intro pre i hi hl
    refine Ev.at fun k => ?_
    have h1 := len_app pre ([] : List Int)
    simp only [List.length_nil] at h1
    simp (disch := omega) only [laws_toByteS.l0, if_neg]
    simp
  | cons x t ih =>
    intro pre i hi hl
    simp only [List.length_cons] at hl
    have h := ih (pre ++ [x]) (i + 1) (by simp; omega) (by simp; omega)
    have h1 := len_mid pre x t
    have h2 := len_mid pre 0 (List.replicate t.length (0 : Int))
    rw [List.length_replicate] at h2
    refine Ev.step (fun k => ?_) (by simpa using h)
    simp only [List.length_cons, List.replicate_succ]
    simp (disch := omega) only [laws_toByteS.l0, if_pos, w64, get_mid pre x 0 t hi, set_mid pre 0 x _ hi]
theorem toBytes (l : List Int) (hl : l.length ≤ 281474976710656) : Ev (fun k => laws_toByteS.f k l) l := by
  refine Ev.congr (fun k => ?_) (cpB l [] 0 rfl (by simpa using hl))
  simp (disch := omega) only [laws_toByteS.f, if_pos]
  simp
/-! ### what is equal -/
theorem eqB (xs : List Int) (hx : xs.length ≤ 4611686018427387904) (d : Nat) : ∀ i : Int, 0 ≤ i → (xs.length : Int) - i = d → Ev (fun k => laws_eqByteS.l0 k xs xs i) true := by
  induction d with
  | zero => intro i h0 hd; exact Ev.at fun k => by simp (disch := omega) only [laws_eqByteS.l0, if_neg]
  | succ d ih => intro i h0 hd; exact Ev.step (fun k => by simp (disch := omega) only [laws_eqByteS.l0, if_pos, w64, if_true]) (ih (i + 1) (by omega) (by omega))
theorem eqBytes (xs : List Int) (hx : xs.length ≤ 4611686018427387904) : Ev (fun k => laws_eqByteS.f k xs xs) true := (eqB xs hx xs.length 0 (by omega) (by omega)).congr fun k => by simp only [laws_eqByteS.f, if_true]
theorem eqU (xs : List Int) (hx : xs.length ≤ 4611686018427387904) (d : Nat) : ∀ i : Int, 0 ≤ i → (xs.length : Int) - i = d → Ev (fun k => laws_eqUint32S.l0 k xs xs i) true := by
  induction d with
  | zero => intro i h0 hd; exact Ev.at fun k => by simp (disch := omega) only [laws_eqUint32S.l0, if_neg]
  | succ d ih => intro i h0 hd; exact Ev.step (fun k => by simp (disch := omega) only [laws_eqUint32S.l0, if_pos, w64, if_true]) (ih (i + 1) (by omega) (by omega))
theorem eqSt (xs : List ByteArray) (hx : xs.length ≤ 4611686018427387904) (d : Nat) : ∀ i : Int, 0 ≤ i → (xs.length : Int) - i = d → Ev (fun k => laws_eqStringS.l0 k xs xs i) true := by
  induction d with
  | zero => intro i h0 hd; exact Ev.at fun k => by simp (disch := omega) only [laws_eqStringS.l0, if_neg]
  | succ d ih => intro i h0 hd; exact Ev.step (fun k => by simp (disch := omega) only [laws_eqStringS.l0, if_pos, w64, if_true]) (ih (i + 1) (by omega) (by omega))
theorem eqSig (x : GSig) (h1 : x.Weak.length ≤ 4611686018427387904) (h2 : x.Strong.length ≤ 4611686018427387904) : Ev (fun k => laws_eqSig.f k x x) true := by
  refine Ev.congr (fun k => by simp only [laws_eqSig.f, if_true]; rfl) (Ev.bind (a := true) ((eqU x.Weak h1 x.Weak.length 0 (by omega) (by omega)).congr fun k => by simp only [laws_eqUint32S.f, if_true]) ?_)
  simp only [if_true]
  exact Ev.bind (a := true) ((eqSt x.Strong h2 x.Strong.length 0 (by omega) (by omega)).congr fun k => by simp only [laws_eqStringS.f, if_true]) (Ev.ret fun k => by simp only [if_true])
theorem eqTok (xs : List GToken) (hx : xs.length ≤ 4611686018427387904) (d : Nat) : ∀ i : Int, 0 ≤ i → (xs.length : Int) - i = d → Ev (fun k => laws_eqTokenS.l0 k xs xs i) true := by
  induction d with
  | zero => intro i h0 hd; exact Ev.at fun k => by simp (disch := omega) only [laws_eqTokenS.l0, if_neg]
  | succ d ih => intro i h0 hd; exact Ev.step (fun k => by simp (disch := omega) only [laws_eqTokenS.l0, laws_eqToken.f, if_pos, w64, if_true, Option.bind_some]) (ih (i + 1) (by omega) (by omega))
theorem eqMsg (x : GMsg) (h1 : x.Sig.Weak.length ≤ 4611686018427387904) (h2 : x.Sig.Strong.length ≤ 4611686018427387904) (h3 : x.Tokens.length ≤ 4611686018427387904) : Ev (fun k => laws_eqMsg.f k x x) true := by
  refine Ev.congr (fun k => by simp only [laws_eqMsg.f, if_true]; rfl) (Ev.bind (a := true) (eqSig x.Sig h1 h2) ?_)
  simp only [if_true]
  exact Ev.bind (a := true) ((eqTok x.Tokens h3 x.Tokens.length 0 (by omega) (by omega)).congr fun k => by simp only [laws_eqTokenS.f, if_true]) (Ev.ret fun k => by simp only [if_true])
/-! ### what is marked -/
def mkI (w : Int → Int) : Int → List Int → List Int
  | _, [] => []
  | n, _ :: t => w n :: mkI w (n + 1) t
theorem mkI_len (w : Int → Int) (xs : List Int) : ∀ n, (mkI w n xs).length = xs.length := by
  induction xs with
  | nil => intro n; rfl
  | cons x t ih => intro n; simp [mkI, ih]
theorem markB (suf : List Int) : ∀ (pre : List Int) (m i : Int), i = pre.length → 0 ≤ m → m + suf.length ≤ 4611686018427387904 → pre.length + suf.length ≤ 4611686018427387904 →
    Ev (fun k => laws_markByteS.l0 k m i (pre ++ suf)) (m + suf.length, pre ++ mkI (IntKind.wrap .u8) m suf) := by
  induction suf with
  | nil =>
    intro pre m i hi h0 hm hl
    have h1 := len_app pre ([] : List Int)
    simp only [List.length_nil] at h1
    refine Ev.at fun k => ?_
    simp (disch := omega) only [laws_markByteS.l0, if_neg]
    simp [mkI]
  | cons x t ih =>
    intro pre m i hi h0 hm hl
    simp only [List.length_cons, Int.natCast_succ] at hm hl
    have h := ih (pre ++ [IntKind.wrap .u8 m]) (m + 1) (i + 1) (by simp; omega) (by omega) (by omega) (by simp; omega)
    have h1 := len_mid pre x t
    have hres : ((m + ((x :: t).length : Int), pre ++ mkI (IntKind.wrap .u8) m (x :: t)) : Int × List Int) = (m + 1 + (t.length : Int), pre ++ [IntKind.wrap .u8 m] ++ mkI (IntKind.wrap .u8) (m + 1) t) := by simp [mkI]; omega
    rw [hres]
    refine Ev.step (fun k => ?_) h
    simp (disch := omega) only [laws_markByteS.l0, if_pos, w64, set_mid pre x _ t hi]
    simp
theorem markU (suf : List Int) : ∀ (pre : List Int) (m i : Int), i = pre.length → 0 ≤ m → m + suf.length ≤ 4611686018427387904 → pre.length + suf.length ≤ 4611686018427387904 →
    Ev (fun k => laws_markUint32S.l0 k m i (pre ++ suf)) (m + suf.length, pre ++ mkI (IntKind.wrap .u32) m suf) := by
  induction suf with
  | nil =>
    intro pre m i hi h0 hm hl
    have h1 := len_app pre ([] : List Int)
    simp only [List.length_nil] at h1
    refine Ev.at fun k => ?_
    simp (disch := omega) only [laws_markUint32S.l0, if_neg]
    simp [mkI]
  | cons x t ih =>
    intro pre m i hi h0 hm hl
    simp only [List.length_cons, Int.natCast_succ] at hm hl
    have h := ih (pre ++ [IntKind.wrap .u32 m]) (m + 1) (i + 1) (by simp; omega) (by omega) (by omega) (by simp; omega)
    have h1 := len_mid pre x t
    have hres : ((m + ((x :: t).length : Int), pre ++ mkI (IntKind.wrap .u32) m (x :: t)) : Int × List Int) = (m + 1 + (t.length : Int), pre ++ [IntKind.wrap .u32 m] ++ mkI (IntKind.wrap .u32) (m + 1) t) := by simp [mkI]; omega
    rw [hres]
    refine Ev.step (fun k => ?_) h
    simp (disch := omega) only [laws_markUint32S.l0, if_pos, w64, set_mid pre x _ t hi]
    simp
theorem heldU (suf : List Int) : ∀ (pre : List Int) (m i : Int), i = pre.length → 0 ≤ m → m + suf.length ≤ 4611686018427387904 → pre.length + suf.length ≤ 4611686018427387904 →
    Ev (fun k => laws_heldUint32S.l0 k (pre ++ mkI (IntKind.wrap .u32) m suf) m i) (m + suf.length) := by
  induction suf with
  | nil =>
    intro pre m i hi h0 hm hl
    have h1 := len_app pre ([] : List Int)
    simp only [List.length_nil] at h1
    refine Ev.at fun k => ?_
    have h2 : ¬ i < ((pre ++ ([] : List Int)).length : Int) := by omega
    simp only [laws_heldUint32S.l0, mkI]
    simp
    intro h3
    omega
  | cons x t ih =>
    intro pre m i hi h0 hm hl
    simp only [List.length_cons, Int.natCast_succ] at hm hl
    have h := ih (pre ++ [IntKind.wrap .u32 m]) (m + 1) (i + 1) (by simp; omega) (by omega) (by omega) (by simp; omega)
    have h1 := len_mid pre (IntKind.wrap .u32 m) (mkI (IntKind.wrap .u32) (m + 1) t)
    rw [mkI_len] at h1
    have hres : m + ((x :: t).length : Int) = m + 1 + (t.length : Int) := by simp; omega
    rw [hres]
    refine Ev.step (fun k => ?_) h
    simp (disch := omega) only [laws_heldUint32S.l0, mkI, if_pos, w64, get_mid pre _ 0 _ hi, if_true]
    simp
/-! ### marks that are texts -/
theorem mark_l0 (d : Nat) : ∀ (n : Int) (s : ByteArray), n < 10 ^ d → n ≤ 9223372036854775807 → s.size + d ≤ 1000 → ∃ r, Ev (fun k => laws_markText.l0 k n s) r := by
  induction d with
  | zero =>
    intro n s hn _ hs
    have hz : (⟨#[109]⟩ : ByteArray).size = 1 := rfl
    refine ⟨(⟨#[109]⟩ : ByteArray) ++ s, Ev.at fun k => ?_⟩
    simp at hn
    simp (disch := omega) only [laws_markText.l0, if_neg, if_pos]
  | succ d ih =>
    intro n s hn hb hs
    by_cases h0 : 0 < n
    · have hq : IntKind.wrap .i64 (Int.tdiv n 10) = n / 10 := by
        rw [Int.tdiv_eq_ediv_of_nonneg (by omega)]
        exact w64 (by omega) (by omega)
      have hz : ∀ y : Int, (std.strOf [y]).size = 1 := fun y => strOfNums_size [y]
      obtain ⟨r, h⟩ := ih (n / 10) (std.strOf [IntKind.wrap .u8 (IntKind.wrap .i64 (48 + (Int.tmod n 10)))] ++ s) (by rw [Int.pow_succ] at hn; omega) (by omega) (by rw [ByteArray.size_append, hz]; omega)
      have hz1 := hz (IntKind.wrap .u8 (IntKind.wrap .i64 (48 + (Int.tmod n 10))))
      refine ⟨r, Ev.step (fun k => ?_) h⟩
      simp (disch := omega) only [laws_markText.l0, if_pos, if_neg, hq]
    · have hz : (⟨#[109]⟩ : ByteArray).size = 1 := rfl
      refine ⟨(⟨#[109]⟩ : ByteArray) ++ s, Ev.at fun k => ?_⟩
      simp (disch := omega) only [laws_markText.l0, if_neg, if_pos]
theorem mark_total {n : Int} (hn : n ≤ 9223372036854775807) : ∃ r, Ev (fun k => laws_markText.f k n) r := by
  by_cases h : n ≤ 0
  · exact ⟨⟨#[109, 48]⟩, Ev.ret fun k => by simp only [laws_markText.f, if_pos h]⟩
  · obtain ⟨r, hr⟩ := mark_l0 19 n ⟨#[]⟩ (by have : (10 : Int) ^ 19 = 10000000000000000000 := by decide
                                             omega) hn (by decide)
    exact ⟨r, hr.congr fun k => by simp only [laws_markText.f, if_neg h]⟩
noncomputable def mt (n : Int) : ByteArray := open Classical in if h : ∃ r, Ev (fun k => laws_markText.f k n) r then h.choose else ⟨#[]⟩
theorem mt_ev {n : Int} (hn : n ≤ 9223372036854775807) : Ev (fun k => laws_markText.f k n) (mt n) := by
  have h := mark_total hn
  unfold mt
  rw [dif_pos h]
  exact h.choose_spec
noncomputable def mkS : Int → List ByteArray → List ByteArray
  | _, [] => []
  | n, _ :: t => mt n :: mkS (n + 1) t
theorem mkS_len (xs : List ByteArray) : ∀ n, (mkS n xs).length = xs.length := by
  induction xs with
  | nil => intro n; rfl
  | cons x t ih => intro n; simp [mkS, ih]
theorem markS (suf : List ByteArray) : ∀ (pre : List ByteArray) (m i : Int), i = pre.length → 0 ≤ m → m + suf.length ≤ 4611686018427387904 → pre.length + suf.length ≤ 4611686018427387904 →
    Ev (fun k => laws_markStringS.l0 k m i (pre ++ suf)) (m + suf.length, pre ++ mkS m suf) := by
  induction suf with
  | nil =>
    intro pre m i hi h0 hm hl
    have h1 := len_app pre ([] : List ByteArray)
    simp only [List.length_nil] at h1
    refine Ev.at fun k => ?_
    simp (disch := omega) only [laws_markStringS.l0, if_neg]
    simp [mkS]
  | cons x t ih =>
    intro pre m i hi h0 hm hl
    simp only [List.length_cons, Int.natCast_succ] at hm hl
    have h := ih (pre ++ [mt m]) (m + 1) (i + 1) (by simp; omega) (by omega) (by omega) (by simp; omega)
    have h1 := len_mid pre x t
    have hres : ((m + ((x :: t).length : Int), pre ++ mkS m (x :: t)) : Int × List ByteArray) = (m + 1 + (t.length : Int), pre ++ [mt m] ++ mkS (m + 1) t) := by simp [mkS]; omega
    rw [hres]
    refine Ev.step (g := fun k => (laws_markText.f k m).bind fun q => laws_markStringS.l0 k (m + 1) (i + 1) (pre ++ q :: t)) (fun k => ?_) (Ev.bind (mt_ev (by omega)) ?_)
    · simp (disch := omega) only [laws_markStringS.l0, if_pos, w64, set_mid pre x _ t hi]
    · simpa using h
theorem heldS (suf : List ByteArray) : ∀ (pre : List ByteArray) (m i : Int), i = pre.length → 0 ≤ m → m + suf.length ≤ 4611686018427387904 → pre.length + suf.length ≤ 4611686018427387904 →
    Ev (fun k => laws_heldStringS.l0 k (pre ++ mkS m suf) m i) (m + suf.length) := by
  induction suf with
  | nil =>
    intro pre m i hi h0 hm hl
    have h1 := len_app pre ([] : List ByteArray)
    simp only [List.length_nil] at h1
    refine Ev.at fun k => ?_
    have h2 : ¬ i < ((pre ++ ([] : List ByteArray)).length : Int) := by omega
    simp only [laws_heldStringS.l0, mkS]
    simp
    intro h3
    omega
  | cons x t ih =>
    intro pre m i hi h0 hm hl
    simp only [List.length_cons, Int.natCast_succ] at hm hl
    have h := ih (pre ++ [mt m]) (m + 1) (i + 1) (by simp; omega) (by omega) (by omega) (by simp; omega)
    have h1 := len_mid pre (mt m) (mkS (m + 1) t)
    rw [mkS_len] at h1
    have hres : m + ((x :: t).length : Int) = m + 1 + (t.length : Int) := by simp; omega
    rw [hres]
    refine Ev.step (g := fun k => (laws_markText.f k m).bind fun q => if mt m = q then laws_heldStringS.l0 k (pre ++ mkS m (x :: t)) (m + 1) (i + 1) else some (-1)) (fun k => ?_) (Ev.bind (mt_ev (by omega)) ?_)
    · simp (disch := omega) only [laws_heldStringS.l0, mkS, if_pos, w64, get_mid pre _ _ _ hi]
    · simp only [if_true]
      simpa [mkS] using h
/-! ### marks of tokens -/
noncomputable def mkT : Int → List GToken → List GToken
  | _, [] => []
  | n, _ :: t => ⟨n, mt (n + 1), n + 2, n + 3⟩ :: mkT (n + 4) t
theorem mkT_len (xs : List GToken) : ∀ n, (mkT n xs).length = xs.length := by
  induction xs with
  | nil => intro n; rfl
  | cons x t ih => intro n; simp [mkT, ih]
theorem markT (suf : List GToken) : ∀ (pre : List GToken) (m i : Int), i = pre.length → 0 ≤ m → m + 4 * suf.length ≤ 4611686018427387904 → pre.length + suf.length ≤ 4611686018427387904 →
    Ev (fun k => laws_markTokenS.l0 k m i (pre ++ suf)) (m + 4 * suf.length, pre ++ mkT m suf) := by
  induction suf with
  | nil =>
    intro pre m i hi h0 hm hl
    have h1 := len_app pre ([] : List GToken)
    simp only [List.length_nil] at h1
    refine Ev.at fun k => ?_
    simp (disch := omega) only [laws_markTokenS.l0, if_neg]
    simp [mkT]
  | cons x t ih =>
    intro pre m i hi h0 hm hl
    simp only [List.length_cons, Int.natCast_succ] at hm hl
    have h := ih (pre ++ [⟨m, mt (m + 1), m + 2, m + 3⟩]) (m + 4) (i + 1) (by simp; omega) (by omega) (by omega) (by simp; omega)
    have hres : ((m + 4 * ((x :: t).length : Int), pre ++ mkT m (x :: t)) : Int × List GToken) = (m + 4 + 4 * (t.length : Int), pre ++ [⟨m, mt (m + 1), m + 2, m + 3⟩] ++ mkT (m + 4) t) := by simp [mkT]; omega
    rw [hres]
    have e1 : IntKind.wrap .i64 (m + 1) = m + 1 := w64 (by omega) (by omega)
    have e2 : IntKind.wrap .i64 (m + 1 + 1) = m + 2 := by rw [w64 (by omega) (by omega)]; omega
    have e3 : IntKind.wrap .i64 (m + 2 + 1) = m + 3 := by rw [w64 (by omega) (by omega)]; omega
    have e4 : IntKind.wrap .i64 (m + 3 + 1) = m + 4 := by rw [w64 (by omega) (by omega)]; omega
    have e5 : IntKind.wrap .i64 (i + 1) = i + 1 := w64 (by omega) (by omega)
    have hln : ∀ z : GToken, ((pre ++ z :: t).length : Int) = pre.length + t.length + 1 := fun z => len_mid pre z t
    refine Ev.step (g := fun k => (laws_markText.f k (m + 1)).bind fun q => laws_markTokenS.l0 k (m + 4) (i + 1) (pre ++ ⟨m, q, m + 2, m + 3⟩ :: t)) (fun k => ?_) (Ev.bind (mt_ev (by omega)) ?_)
    · have c1 : i < (pre.length : Int) + t.length + 1 := by omega
      have c2 : 0 ≤ i := by omega
      simp only [laws_markTokenS.l0, e1, e2, e3, e4, e5, fun z y => set_mid pre z y t hi, fun z d => get_mid pre z d t hi, hln, if_pos c1, if_pos c2]
    · simpa using h
theorem heldT (suf : List GToken) : ∀ (pre : List GToken) (m i : Int), i = pre.length → 0 ≤ m → m + 4 * suf.length ≤ 4611686018427387904 → pre.length + suf.length ≤ 4611686018427387904 →
    Ev (fun k => laws_heldTokenS.l0 k (pre ++ mkT m suf) m i) (m + 4 * suf.length) := by
  induction suf with
  | nil =>
    intro pre m i hi h0 hm hl
    have h1 := len_app pre ([] : List GToken)
    simp only [List.length_nil] at h1
    refine Ev.at fun k => ?_
    have h2 : ¬ i < ((pre ++ ([] : List GToken)).length : Int) := by omega
    simp only [laws_heldTokenS.l0, mkT]
    simp
    intro h3
    omega
  | cons x t ih =>
    intro pre m i hi h0 hm hl
    simp only [List.length_cons, Int.natCast_succ] at hm hl
    have h := ih (pre ++ [⟨m, mt (m + 1), m + 2, m + 3⟩]) (m + 4) (i + 1) (by simp; omega) (by omega) (by omega) (by simp; omega)
    have h1 := len_mid pre (⟨m, mt (m + 1), m + 2, m + 3⟩ : GToken) (mkT (m + 4) t)
    rw [mkT_len] at h1
    have hres : m + 4 * ((x :: t).length : Int) = m + 4 + 4 * (t.length : Int) := by simp; omega
    rw [hres]
    have e1 : IntKind.wrap .i64 (m + 1) = m + 1 := w64 (by omega) (by omega)
    have e2 : IntKind.wrap .i64 (m + 1 + 1) = m + 2 := by rw [w64 (by omega) (by omega)]; omega
    have e3 : IntKind.wrap .i64 (m + 2 + 1) = m + 3 := by rw [w64 (by omega) (by omega)]; omega
    have e4 : IntKind.wrap .i64 (m + 3 + 1) = m + 4 := by rw [w64 (by omega) (by omega)]; omega
    have e5 : IntKind.wrap .i64 (i + 1) = i + 1 := w64 (by omega) (by omega)
    refine Ev.step (g := fun k => (laws_markText.f k (m + 1)).bind fun q => if mt (m + 1) = q then laws_heldTokenS.l0 k (pre ++ mkT m (x :: t)) (m + 4) (i + 1) else some (-1)) (fun k => ?_) (Ev.bind (mt_ev (by omega)) ?_)
    · simp only [laws_heldTokenS.l0, mkT, e1, e2, e3, e4, e5, get_mid pre _ _ _ hi, if_true]
      simp (disch := omega) only [if_pos]
    · simp only [if_true]
      simpa [mkT] using h
/-- A message is marked, and holds its marks. -/
theorem msg_marks (x : GMsg) (h1 : x.Sig.Weak.length ≤ 1000000000) (h2 : x.Sig.Strong.length ≤ 1000000000) (h3 : x.Tokens.length ≤ 1000000000) :
    ∃ (n : Int) (y : GMsg), 0 < n ∧ Ev (fun k => laws_markMsg.f k x 1) (n, y) ∧ Ev (fun k => laws_heldMsg.f k ⟨x.Kind, x.Place, ⟨x.Sig.Size, x.Sig.Rest, y.Sig.Weak, y.Sig.Strong⟩, y.Tokens, x.Sum⟩ 1) n := by
  have a1 := markU x.Sig.Weak [] 1 0 rfl (by omega) (by omega) (by simp; omega)
  have a2 := markS x.Sig.Strong [] (1 + x.Sig.Weak.length) 0 rfl (by omega) (by omega) (by simp; omega)
  have a3 := markT x.Tokens [] (1 + x.Sig.Weak.length + x.Sig.Strong.length) 0 rfl (by omega) (by omega) (by simp; omega)
  have b1 := heldU x.Sig.Weak [] 1 0 rfl (by omega) (by omega) (by simp; omega)
  have b2 := heldS x.Sig.Strong [] (1 + x.Sig.Weak.length) 0 rfl (by omega) (by omega) (by simp; omega)
  have b3 := heldT x.Tokens [] (1 + x.Sig.Weak.length + x.Sig.Strong.length) 0 rfl (by omega) (by omega) (by simp; omega)
  simp only [List.nil_append] at a1 a2 a3 b1 b2 b3
  refine ⟨1 + x.Sig.Weak.length + x.Sig.Strong.length + 4 * x.Tokens.length, ⟨x.Kind, x.Place, ⟨x.Sig.Size, x.Sig.Rest, mkI (IntKind.wrap .u32) 1 x.Sig.Weak, mkS (1 + x.Sig.Weak.length) x.Sig.Strong⟩, mkT (1 + x.Sig.Weak.length + x.Sig.Strong.length) x.Tokens, x.Sum⟩, by omega, ?_, ?_⟩
  · simp only [laws_markMsg.f, laws_markSig.f, laws_markUint32S.f, laws_markStringS.f, laws_markTokenS.f, Option.bind_assoc]
    refine Ev.bind a1 (Ev.bind a2 ?_)
    simp only [Option.bind_some]
    exact Ev.bind a3 (Ev.ret fun k => rfl)
  · have s1 : Ev (fun k => laws_heldSig.f k ⟨x.Sig.Size, x.Sig.Rest, mkI (IntKind.wrap .u32) 1 x.Sig.Weak, mkS (1 + x.Sig.Weak.length) x.Sig.Strong⟩ 1) (1 + x.Sig.Weak.length + x.Sig.Strong.length) := by
      simp only [laws_heldSig.f, laws_heldUint32S.f, laws_heldStringS.f]
      refine Ev.bind b1 ?_
      simp (disch := omega) only [if_neg]
      refine Ev.bind b2 ?_
      simp (disch := omega) only [if_neg]
      exact Ev.ret fun k => rfl
    simp only [laws_heldMsg.f]
    refine Ev.bind s1 ?_
    simp (disch := omega) only [if_neg]
    simp only [laws_heldTokenS.f]
    refine Ev.bind b3 ?_
    simp (disch := omega) only [if_neg]
    exact Ev.ret fun k => rfl
end Go.I

/-! IP2 -/
set_option linter.unusedVariables false
set_option linter.unusedSimpArgs false
set_option maxRecDepth 100000
set_option maxHeartbeats 4000000
namespace Go.I
open Go
/-! ### bits -/
theorem wrap64n : ∀ n : Int, 0 ≤ n → n < 2 ^ 63 → IntKind.wrap .i64 n = n := by
  intro n h0 h1
  have e : (2 : Int) ^ 63 = 9223372036854775808 := by decide
  exact w64 (by omega) (by omega)
theorem wrap8n : ∀ n : Int, 0 ≤ n → n < 2 ^ 8 → IntKind.wrap .u8 n = n := by
  intro n h0 h1
  have e : (2 : Int) ^ 8 = 256 := by decide
  exact w8 (by omega) (by omega)
theorem wrap32n : ∀ n : Int, 0 ≤ n → n < 2 ^ 32 → IntKind.wrap .u32 n = n := by
  intro n h0 h1
  have e : (2 : Int) ^ 32 = 4294967296 := by decide
  exact w32 (by omega) (by omega)
theorem or_sumK (k : IntKind) (i j : Nat) (hj : j ≤ k.bits) (hk : ∀ n : Int, 0 ≤ n → n < 2 ^ j → k.wrap n = n) (hij : i ≤ j) (x y : Int) (hx0 : 0 ≤ x) (hx : x < 2 ^ i) (hy0 : 0 ≤ y) (hy : y % 2 ^ i = 0) (hy1 : y < 2 ^ j) : std.bits .or k x y = x + y := by
  have hx1 : x < 2 ^ j := Int.lt_of_lt_of_le hx (by exact_mod_cast Nat.pow_le_pow_right (by decide) hij)
  have h := bits_join k j hj hk i y x hy0 hy hy1 hx0 hx hx1
  obtain ⟨a, rfl⟩ := Int.eq_ofNat_of_zero_le hx0
  obtain ⟨b, rfl⟩ := Int.eq_ofNat_of_zero_le hy0
  have ha : a < 2 ^ j := by exact_mod_cast hx1
  have hb : b < 2 ^ j := by exact_mod_cast hy1
  show Go.bits .or k _ _ = _
  rw [(bits_nat k j hj hk a b ha hb).2, Nat.or_comm, ← (bits_nat k j hj hk b a hb ha).2, h]
  omega
theorem and127 (k : IntKind) (j : Nat) (hj : j ≤ k.bits) (h7 : 7 ≤ j) (hk : ∀ n : Int, 0 ≤ n → n < 2 ^ j → k.wrap n = n) (x : Int) (h0 : 0 ≤ x) (h1 : x < 2 ^ j) : std.bits .and k x 127 = x % 128 := by
  obtain ⟨a, rfl⟩ := Int.eq_ofNat_of_zero_le h0
  have h27 : (2 : Nat) ^ 7 ≤ 2 ^ j := Nat.pow_le_pow_right (by decide) h7
  have e7 : (2 : Nat) ^ 7 = 128 := by decide
  have h := (bits_nat k j hj hk a 127 (by exact_mod_cast h1) (by omega)).1
  rw [show ((127 : Nat) : Int) = 127 from rfl] at h
  show Go.bits .and k _ _ = _
  rw [h, show (127 : Nat) = 2 ^ 7 - 1 from rfl, Nat.and_two_pow_sub_one_eq_mod]
  omega
theorem and_i64 (x : Int) (h0 : 0 ≤ x) (h1 : x ≤ 9223372036854775807) : std.bits .and .i64 x 127 = x % 128 := and127 .i64 63 (by decide) (by decide) wrap64n x h0 (by have := (by decide : (2 : Int) ^ 63 = 9223372036854775808); omega)
theorem and_u8 (x : Int) (h0 : 0 ≤ x) (h1 : x ≤ 255) : std.bits .and .u8 x 127 = x % 128 := and127 .u8 8 (by decide) (by decide) wrap8n x h0 (by have := (by decide : (2 : Int) ^ 8 = 256); omega)
theorem or128 (x : Int) (h0 : 0 ≤ x) (h1 : x < 128) : std.bits .or .u8 x 128 = x + 128 := or_sumK .u8 7 8 (by decide) wrap8n (by decide) x 128 h0 (by have := (by decide : (2 : Int) ^ 7 = 128); omega) (by decide) (by decide) (by decide)
theorem pow128 (i : Nat) : (128 : Int) ^ i = 2 ^ (7 * i) := by rw [Int.pow_mul]; rfl
theorem pow128_pos (i : Nat) : (0 : Int) < 128 ^ i := Int.pow_pos (by decide)
theorem pow128_le {i j : Nat} (h : i ≤ j) : (128 : Int) ^ i ≤ 128 ^ j := by exact_mod_cast Nat.pow_le_pow_right (by decide) h
theorem var_or (b x : Int) (i : Nat) (hb0 : 0 ≤ b) (hb1 : b ≤ 255) (hi : i ≤ 8) (hx0 : 0 ≤ x) (hx : x < 128 ^ i) :
    std.bits .or .i64 x (std.shl .i64 (IntKind.wrap .i64 (std.bits .and .u8 b 127)) (IntKind.wrap .i64 (7 * (i : Int)))) = x + b % 128 * 128 ^ i := by
  have hp := pow128_pos i
  have hpl : (128 : Int) ^ i ≤ 128 ^ 8 := pow128_le hi
  have h8 : (128 : Int) ^ 8 = 72057594037927936 := by decide
  have hm0 : 0 ≤ b % 128 := by omega
  have hm1 : b % 128 ≤ 127 := by omega
  have hv0 : 0 ≤ b % 128 * 128 ^ i := Int.mul_nonneg hm0 (by omega)
  have hv1 : b % 128 * 128 ^ i ≤ 127 * 128 ^ i := Int.mul_le_mul_of_nonneg_right hm1 (by omega)
  have hs : std.shl .i64 (b % 128) (7 * (i : Int)) = b % 128 * 128 ^ i := by
    show IntKind.wrap .i64 (b % 128 * 2 ^ min (7 * (i : Int)).toNat IntKind.i64.bits) = _
    rw [show (7 * (i : Int)).toNat = 7 * i by omega, show min (7 * i) IntKind.i64.bits = 7 * i by simp [IntKind.bits]; omega, ← pow128]
    exact w64 (by omega) (by omega)
  rw [and_u8 b hb0 hb1, w64 (x := b % 128) (by omega) (by omega), w64 (x := 7 * (i : Int)) (by omega) (by omega), hs]
  refine or_sumK .i64 (7 * i) 63 (by decide) wrap64n (by omega) x _ hx0 (by rw [← pow128]; exact hx) hv0 ?_ ?_
  · rw [← pow128]; exact Int.mul_emod_left _ _
  · have e : (2 : Int) ^ 63 = 9223372036854775808 := by decide
    omega
/-! ### texts and lists of bytes -/
def Byt (l : List Int) : Prop := ∀ x ∈ l, 0 ≤ x ∧ x ≤ 255
theorem Byt.drop {l : List Int} (h : Byt l) (n : Nat) : Byt (l.drop n) := fun x hx => h x (List.mem_of_mem_drop hx)
theorem Byt.take {l : List Int} (h : Byt l) (n : Nat) : Byt (l.take n) := fun x hx => h x (List.mem_of_mem_take hx)
theorem str_size (l : List Int) : (std.strOf l).size = l.length := strOfNums_size l
theorem str_app (a b : List Int) : std.strOf (a ++ b) = std.strOf a ++ std.strOf b := by
  apply ByteArray.ext
  apply Array.toList_inj.1
  simp [std, ByteArray.data_append]
theorem str_nil : std.strOf [] = ⟨#[]⟩ := rfl
theorem str_ext (l : List Int) (a b : Nat) : (std.strOf l).extract a b = std.strOf ((l.drop a).take (b - a)) := by
  apply ByteArray.ext
  apply Array.toList_inj.1
  simp [std, ByteArray.data_extract, List.map_take, List.map_drop, List.extract_eq_take_drop]
theorem str_get (l : List Int) (h : Byt l) (i : Nat) (hi : i < l.length) : std.sget (std.strOf l) (i : Int) = l.getD i 0 := by
  have hs : i < (std.strOf l).size := by rw [str_size]; exact hi
  show (if h : (i : Int).toNat < (std.strOf l).size then (((std.strOf l)[(i : Int).toNat]'h).toNat : Int) else 0) = _
  rw [dif_pos (by simpa using hs)]
  have hx := h _ (List.getElem_mem hi)
  have e : (std.strOf l)[i] = UInt8.ofNat (l[i]).toNat := by
    show (std.strOf l).data[i]'_ = _
    simp [std]
  have e2 : ((std.strOf l)[(i : Int).toNat]'(by simpa using hs)) = UInt8.ofNat (l[i]).toNat := e
  rw [e2, List.getD_eq_getElem?_getD, List.getElem?_eq_getElem hi, Option.getD_some]
  have h3 := hx.1
  have h4 := hx.2
  have h5 : (UInt8.ofNat (l[i]).toNat).toNat = (l[i]).toNat := by
    rw [UInt8.toNat_ofNat']
    omega
  rw [h5]
  omega
theorem str_inj {a b : List Int} (ha : Byt a) (hb : Byt b) (h : std.strOf a = std.strOf b) : a = b := by
  have hl : a.length = b.length := by rw [← str_size a, h, str_size]
  refine List.ext_getElem hl fun i h1 h2 => ?_
  have e1 := str_get a ha i h1
  have e2 := str_get b hb i h2
  rw [h] at e1
  rw [e1, List.getD_eq_getElem?_getD, List.getD_eq_getElem?_getD, List.getElem?_eq_getElem h1, List.getElem?_eq_getElem h2] at e2
  simpa using e2
/-! ### numbers -/
def dg (n : Nat) : List Int := if n < 128 then [(n : Int)] else (((n % 128 : Nat) : Int) + 128) :: dg (n / 128)
termination_by n
decreasing_by omega
theorem dg_lt {n : Nat} (h : n < 128) : dg n = [(n : Int)] := by rw [dg, if_pos h]
theorem dg_ge {n : Nat} (h : ¬ n < 128) : dg n = (((n % 128 : Nat) : Int) + 128) :: dg (n / 128) := by rw [dg, if_neg h]
theorem dg_pos (n : Nat) : 0 < (dg n).length := by
  by_cases h : n < 128
  · rw [dg_lt h]; simp
  · rw [dg_ge h]; simp
theorem dg_byt (n : Nat) : Byt (dg n) := by
  induction n using Nat.strongRecOn with
  | _ n ih =>
    intro x hx
    by_cases h : n < 128
    · rw [dg_lt h] at hx; simp at hx; omega
    · rw [dg_ge h] at hx
      rcases List.mem_cons.1 hx with rfl | hx
      · omega
      · exact ih (n / 128) (by omega) x hx
theorem dg_len (m : Nat) : ∀ n, n < 128 ^ (m + 1) → (dg n).length ≤ m + 1 := by
  induction m with
  | zero => intro n hn; rw [dg_lt (by simpa using hn)]; simp
  | succ m ih =>
    intro n hn
    by_cases h : n < 128
    · rw [dg_lt h]; simp
    · rw [dg_ge h]
      have := ih (n / 128) (by rw [Nat.pow_succ] at hn; exact Nat.div_lt_of_lt_mul (by rw [Nat.mul_comm]; exact hn))
      simp; omega
theorem dg_len10 (n : Nat) (h : n ≤ 9223372036854775807) : (dg n).length ≤ 10 := dg_len 9 n (by have := (by decide : (128 : Nat) ^ 10 = 1180591620717411303424); omega)
theorem putVarL (n : Nat) : ∀ acc : List Int, n ≤ 9223372036854775807 → acc.length + (dg n).length ≤ 140737488351232 → Ev (fun k => spec_PutVar.l0 k (n : Int) acc) (acc ++ dg n) := by
  induction n using Nat.strongRecOn with
  | _ n ih =>
    intro acc hn hl
    by_cases h : n < 128
    · rw [dg_lt h] at hl ⊢
      simp only [List.length_singleton] at hl
      refine Ev.at fun k => ?_
      simp (disch := omega) only [spec_PutVar.l0, if_neg, if_pos, List.length_singleton, w8]
    · rw [dg_ge h] at hl ⊢
      simp only [List.length_cons] at hl
      have hd := dg_pos (n / 128)
      have e1 : IntKind.wrap .i64 (Int.tdiv (n : Int) 128) = ((n / 128 : Nat) : Int) := by
        rw [Int.tdiv_eq_ediv_of_nonneg (by omega)]
        rw [w64 (by omega) (by omega)]
        omega
      have e2 : IntKind.wrap .u8 (IntKind.wrap .i64 (128 + Int.tmod (n : Int) 128)) = ((n % 128 : Nat) : Int) + 128 := by
        rw [Int.tmod_eq_emod_of_nonneg (by omega)]
        rw [w64 (by omega) (by omega), w8 (by omega) (by omega)]
        omega
      have hi := ih (n / 128) (by omega) (acc ++ [((n % 128 : Nat) : Int) + 128]) (by omega) (by simp; omega)
      rw [List.append_assoc] at hi
      refine Ev.step (fun k => ?_) hi
      simp (disch := omega) only [spec_PutVar.l0, if_neg, if_pos, List.length_singleton, e1, e2]
theorem putVar (n : Nat) (hn : n ≤ 9223372036854775807) : Ev (fun k => spec_PutVar.f k (n : Int)) (dg n) := by
  have := dg_len10 n hn
  refine Ev.congr (fun k => ?_) (by simpa using putVarL n [] hn (by simp; omega))
  simp (disch := omega) only [spec_PutVar.f, if_neg]
theorem varTextL (n : Nat) : ∀ acc : ByteArray, n ≤ 9223372036854775807 → acc.size + (dg n).length ≤ 140737488355328 → Ev (fun k => impl_varText.l0 k (n : Int) acc) (acc ++ std.strOf (dg n)) := by
  induction n using Nat.strongRecOn with
  | _ n ih =>
    intro acc hn hl
    by_cases h : n < 128
    · rw [dg_lt h] at hl ⊢
      simp only [List.length_singleton] at hl
      refine Ev.at fun k => ?_
      simp (disch := omega) only [impl_varText.l0, if_neg, if_pos, w8]
    · rw [dg_ge h] at hl ⊢
      simp only [List.length_cons] at hl
      have hd := dg_pos (n / 128)
      have e1 : std.shr .i64 (n : Int) 7 = ((n / 128 : Nat) : Int) := by
        show Int.fdiv (n : Int) (2 ^ min (7 : Int).toNat IntKind.i64.bits) = _
        rw [show min (7 : Int).toNat IntKind.i64.bits = 7 by decide, show (2 : Int) ^ 7 = 128 by decide, Int.fdiv_eq_ediv_of_nonneg _ (by decide)]
        omega
      have e2 : std.bits .or .u8 (IntKind.wrap .u8 (std.bits .and .i64 (n : Int) 127)) 128 = ((n % 128 : Nat) : Int) + 128 := by
        rw [and_i64 _ (by omega) (by omega), w8 (by omega) (by omega), or128 _ (by omega) (by omega)]
        omega
      have hz : (std.strOf [((n % 128 : Nat) : Int) + 128]).size = 1 := str_size _
      have hc : std.strOf ((((n % 128 : Nat) : Int) + 128) :: dg (n / 128)) = std.strOf [((n % 128 : Nat) : Int) + 128] ++ std.strOf (dg (n / 128)) := by rw [← str_app]; rfl
      rw [hc, ← ByteArray.append_assoc]
      refine Ev.step (fun k => ?_) (ih (n / 128) (by omega) (acc ++ std.strOf [((n % 128 : Nat) : Int) + 128]) (by omega) (by rw [ByteArray.size_append, hz]; omega))
      simp (disch := omega) only [impl_varText.l0, if_pos, e1, e2]
theorem varText (n : Nat) (hn : n ≤ 9223372036854775807) : Ev (fun k => impl_varText.f k (n : Int)) (std.strOf (dg n)) := by
  have := dg_len10 n hn
  have hz : (⟨#[]⟩ : ByteArray).size = 0 := rfl
  refine Ev.congr (fun k => rfl) ?_
  have h := varTextL n ⟨#[]⟩ hn (by omega)
  have e : (⟨#[]⟩ : ByteArray) ++ std.strOf (dg n) = std.strOf (dg n) := by rw [← str_nil, ← str_app, List.nil_append]
  rw [e] at h
  exact h
/-- The value of a number's bytes: those with a sequel, the last one. -/
def val : List Int → Int → Int
  | [], b => b
  | h :: t, b => (h - 128) + 128 * val t b
def Hd (l : List Int) : Prop := ∀ x ∈ l, 128 ≤ x ∧ x ≤ 255
theorem val_lt (hs : List Int) (b : Int) (hh : Hd hs) (h0 : 0 ≤ b) (h1 : b < 128) : 0 ≤ val hs b ∧ val hs b < 128 ^ (hs.length + 1) := by
  induction hs with
  | nil => simp [val]; omega
  | cons h t ih =>
    have h2 := hh h (List.mem_cons_self ..)
    have h3 := ih (fun x hx => hh x (List.mem_cons_of_mem _ hx))
    have e : (128 : Int) ^ ((h :: t).length + 1) = 128 ^ (t.length + 1) * 128 := by rw [List.length_cons, Int.pow_succ]
    rw [e]
    simp only [val]
    omega
theorem val_app (p : List Int) (b : Int) : ∀ s, val (p ++ s) b = val p 0 + 128 ^ p.length * val s b := by
  induction p with
  | nil => intro s; simp [val]
  | cons h t ih =>
    intro s
    simp only [List.cons_append, val, ih, List.length_cons, Int.pow_succ]
    rw [Int.mul_add, Int.mul_comm (128 ^ t.length) 128, Int.mul_assoc]
    omega
theorem dg_val (hs : List Int) (b : Int) (hh : Hd hs) (h0 : 0 ≤ b) (h1 : b < 128) (hb : b ≠ 0 ∨ hs = []) : dg (val hs b).toNat = hs ++ [b] := by
  induction hs with
  | nil => simp only [val]; rw [dg_lt (by omega)]; simp; omega
  | cons h t ih =>
    have h2 := hh h (List.mem_cons_self ..)
    have ht : Hd t := fun x hx => hh x (List.mem_cons_of_mem _ hx)
    have hb0 : b ≠ 0 := by rcases hb with hb | hb; exact hb; cases hb
    have h3 := ih ht (.inl hb0)
    have h4 := val_lt t b ht h0 h1
    have h5 : 1 ≤ val t b := by
      cases t with
      | nil => simp only [val]; omega
      | cons u t' =>
        have h6 := val_lt t' b (fun x hx => ht x (List.mem_cons_of_mem _ hx)) h0 h1
        rcases Int.lt_or_le 0 (val (u :: t') b) with h7 | h7
        · omega
        · exfalso
          have h8 : val (u :: t') b = 0 := by omega
          rw [h8] at h3
          have : dg (0 : Int).toNat = [(0 : Int)] := dg_lt (by decide)
          rw [this] at h3
          have := congrArg List.length h3
          simp at this
    simp only [val]
    have e1 : (h - 128 + 128 * val t b).toNat = (val t b).toNat * 128 + (h - 128).toNat := by omega
    rw [dg_ge (by omega), e1]
    have e2 : ((val t b).toNat * 128 + (h - 128).toNat) / 128 = (val t b).toNat := by omega
    have e3 : ((val t b).toNat * 128 + (h - 128).toNat) % 128 = (h - 128).toNat := by omega
    rw [e2, e3, h3]
    simp
    omega
theorem dg_val0 (hs : List Int) (hh : Hd hs) (hne : hs ≠ []) : (dg (val hs 0).toNat).length ≤ hs.length := by
  have key : ∀ (l : List Int), Hd l → val l 0 < 128 ^ l.length ∧ 0 ≤ val l 0 := by
    intro l
    induction l with
    | nil => intro _; simp [val]
    | cons h t ih =>
      intro hl
      have h2 := hl h (List.mem_cons_self ..)
      have h3 := ih (fun x hx => hl x (List.mem_cons_of_mem _ hx))
      simp only [val, List.length_cons, Int.pow_succ]
      omega
  obtain ⟨h1, h2⟩ := key hs hh
  obtain ⟨m, hm⟩ : ∃ m, hs.length = m + 1 := ⟨hs.length - 1, by have := List.length_pos_iff.2 hne; omega⟩
  rw [hm] at h1 ⊢
  refine dg_len m _ ?_
  have : ((val hs 0).toNat : Int) < ((128 ^ (m + 1) : Nat) : Int) := by
    rw [Int.toNat_of_nonneg h2]
    exact_mod_cast h1
  exact_mod_cast this
/-- The bytes of a number at a list's head: at most so many. -/
def sp : Nat → List Int → Option (List Int × Int)
  | 0, _ => none
  | _ + 1, [] => none
  | j + 1, b :: t => if 128 ≤ b then (sp j t).map (fun r => (b :: r.1, r.2)) else some ([], b)
def fin_ (hs : List Int) (b : Int) : Int × Int := if b = 0 ∧ hs ≠ [] then (0, 0) else (val hs b, hs.length + 1)
def gv (l : List Int) : Int × Int := match sp 9 l with
  | none => (0, 0)
  | some (hs, b) => fin_ hs b
theorem sp_some (j : Nat) : ∀ l hs b, Byt l → sp j l = some (hs, b) → ∃ t, l = hs ++ b :: t ∧ Hd hs ∧ 0 ≤ b ∧ b < 128 ∧ hs.length < j := by
  induction j with
  | zero => intro l hs b _ h; simp [sp] at h
  | succ j ih =>
    intro l hs b hl h
    cases l with
    | nil => simp [sp] at h
    | cons x t =>
      have hx := hl x (List.mem_cons_self ..)
      simp only [sp] at h
      split at h
      · rename_i h128
        simp only [Option.map_eq_some_iff] at h
        obtain ⟨⟨hs', b'⟩, h1, h2⟩ := h
        simp only [Prod.mk.injEq] at h2
        obtain ⟨rfl, rfl⟩ := h2
        obtain ⟨t', e1, e2, e3, e4, e5⟩ := ih t hs' b' (fun y hy => hl y (List.mem_cons_of_mem _ hy)) h1
        refine ⟨t', by rw [e1]; rfl, fun y hy => ?_, e3, e4, by simp; omega⟩
        rcases List.mem_cons.1 hy with rfl | hy
        · exact ⟨h128, hx.2⟩
        · exact e2 y hy
      · rename_i h128
        simp only [Option.some.injEq, Prod.mk.injEq] at h
        obtain ⟨rfl, rfl⟩ := h
        exact ⟨t, rfl, (fun y hy => by cases hy), hx.1, by omega, by simp⟩
/-- A number that is there: its bytes are its digits. -/
theorem gv_spec (l : List Int) (hl : Byt l) : gv l = (0, 0) ∨ ∃ n : Nat, ∃ t, gv l = ((n : Int), ((dg n).length : Int)) ∧ n ≤ 9223372036854775807 ∧ l = dg n ++ t := by
  unfold gv
  cases hs : sp 9 l with
  | none => exact .inl rfl
  | some r =>
    obtain ⟨hs', b⟩ := r
    obtain ⟨t, e1, e2, e3, e4, e5⟩ := sp_some 9 l hs' b hl hs
    simp only [fin_]
    by_cases hc : b = 0 ∧ hs' ≠ []
    · rw [if_pos hc]; exact .inl rfl
    · rw [if_neg hc]
      have hv := val_lt hs' b e2 e3 e4
      have hp : (128 : Int) ^ (hs'.length + 1) ≤ 128 ^ 9 := pow128_le (by omega)
      have h9 : (128 : Int) ^ 9 = 9223372036854775808 := by decide
      have hd := dg_val hs' b e2 e3 e4 (by
        by_cases h : b = 0
        · exact .inr (Classical.byContradiction fun h' => hc ⟨h, h'⟩)
        · exact .inl h)
      refine .inr ⟨(val hs' b).toNat, t, ?_, by omega, by rw [hd, e1]; simp⟩
      rw [hd]
      simp
      omega
theorem readVarL (s : List Int) : ∀ (p : List Int), Byt (p ++ s) → Hd p → p.length ≤ 9 → Ev (fun k => impl_readVar.l0 k (std.strOf (p ++ s)) (val p 0) (p.length : Int)) (match sp (9 - p.length) s with
    | none => (0, 0)
    | some (hs, b) => fin_ (p ++ hs) b) := by
  induction s with
  | nil =>
    intro p hb hp hl
    have e : sp (9 - p.length) ([] : List Int) = none := by cases 9 - p.length <;> rfl
    rw [e]
    have hz := str_size (p ++ [])
    have h1 : (p ++ ([] : List Int)).length = p.length := by simp
    refine Ev.at fun k => ?_
    simp (disch := omega) only [impl_readVar.l0, if_neg]
  | cons b t ih =>
    intro p hb hp hl
    have hz := str_size (p ++ b :: t)
    have h1 := len_mid p b t
    have hbb := hb b (by simp)
    by_cases h9 : p.length = 9
    · rw [h9]
      show Ev _ (0, 0)
      refine Ev.at fun k => ?_
      simp (disch := omega) only [impl_readVar.l0, if_neg, if_pos]
    · obtain ⟨j, hj⟩ : ∃ j, 9 - p.length = j + 1 := ⟨9 - p.length - 1, by omega⟩
      have hpv := val_lt p 0 hp (by decide) (by decide)
      have hpv2 : val p 0 < 128 ^ p.length := by
        clear ih hb hbb hz h1 h9 hj hpv
        induction p with
        | nil => simp [val]
        | cons h t ih =>
          have h2 := hp h (List.mem_cons_self ..)
          have h3 := ih (fun x hx => hp x (List.mem_cons_of_mem _ hx)) (by simp at hl; omega)
          simp only [val, List.length_cons, Int.pow_succ]
          omega
      have hg : std.sget (std.strOf (p ++ b :: t)) (p.length : Int) = b := by
        rw [str_get _ hb p.length (by simp)]
        simp
      have hor := var_or b (val p 0) p.length hbb.1 hbb.2 (by omega) hpv.1 hpv2
      have e7 : 0 ≤ IntKind.wrap .i64 (7 * (p.length : Int)) := by rw [w64 (by omega) (by omega)]; omega
      have ei : IntKind.wrap .i64 ((p.length : Int) + 1) = (p.length : Int) + 1 := w64 (by omega) (by omega)
      rw [hj]
      by_cases h128 : 128 ≤ b
      · have hv : val (p ++ [b]) 0 = val p 0 + b % 128 * 128 ^ p.length := by
          rw [val_app]
          simp only [val]
          rw [show b % 128 = b - 128 by omega, Int.mul_comm]
          simp
        have h := ih (p ++ [b]) (by simpa using hb) (fun x hx => by
          rcases List.mem_append.1 hx with hx | hx
          · exact hp x hx
          · simp at hx; subst hx; exact ⟨h128, hbb.2⟩) (by simp; omega)
        rw [hv] at h
        have e9 : 9 - (p ++ [b]).length = j := by simp; omega
        rw [e9] at h
        have hr : (match sp (j + 1) (b :: t) with
            | none => ((0, 0) : Int × Int)
            | some (hs, b) => fin_ (p ++ hs) b) = (match sp j t with
            | none => (0, 0)
            | some (hs, b_1) => fin_ (p ++ [b] ++ hs) b_1) := by
          simp only [sp, if_pos h128]
          cases sp j t with
          | none => rfl
          | some r => simp
        rw [hr]
        refine Ev.step (fun k => ?_) (by simpa using h)
        simp (disch := omega) only [impl_readVar.l0, if_neg, if_pos, hg, hor, ei]
      · have hr : (match sp (j + 1) (b :: t) with
            | none => ((0, 0) : Int × Int)
            | some (hs, b) => fin_ (p ++ hs) b) = fin_ p b := by simp only [sp, if_neg h128, List.append_nil]
        rw [hr]
        have hv : val p b = val p 0 + b % 128 * 128 ^ p.length := by
          have := val_app p b []
          rw [List.append_nil] at this
          rw [this]
          simp only [val]
          rw [show b % 128 = b by omega, Int.mul_comm]
        refine Ev.at fun k => ?_
        simp (disch := omega) only [impl_readVar.l0, if_pos, hg, hor, ei, ← hv]
        unfold fin_
        by_cases hb0 : b = 0
        · rw [if_pos hb0]
          by_cases hpn : p = []
          · subst hpn
            simp [hb0]
          · have : 0 < p.length := List.length_pos_iff.2 hpn
            rw [if_pos (by omega), if_pos ⟨hb0, hpn⟩]
        · rw [if_neg hb0, if_neg (fun e => hb0 e.1)]
theorem readVar (l : List Int) (hl : Byt l) : Ev (fun k => impl_readVar.f k (std.strOf l)) (gv l) := by
  have h := readVarL l [] (by simpa using hl) (fun x hx => by cases hx) (by simp)
  simp only [List.nil_append, List.length_nil, val] at h
  exact h
theorem hornerL (p : List Int) (b : Int) (t : List Int) (hp : Hd p) (h0 : 0 ≤ b) (h1 : b < 128) (hl : p.length ≤ 8) : ∀ (n : Nat) (q r : List Int), q.length = n → p = q ++ r →
    Ev (fun k => spec_GetVar.l2 k (p ++ b :: t) (p.length : Int) (val r b) ((q.length : Int) - 1)) (fin_ p b) := by
  intro n
  induction n with
  | zero =>
    intro q r hq hqr
    have : q = [] := List.eq_nil_of_length_eq_zero hq
    subst this
    rw [List.nil_append] at hqr
    subst hqr
    have hv := val_lt p b hp h0 h1
    have hpw : (128 : Int) ^ (p.length + 1) ≤ 128 ^ 9 := pow128_le (by omega)
    have h9 : (128 : Int) ^ 9 = 9223372036854775808 := by decide
    have e1 : IntKind.wrap .i64 ((p.length : Int) + 1) = (p.length : Int) + 1 := w64 (by omega) (by omega)
    have hpv := putVar (val p b).toNat (by omega)
    rw [Int.toNat_of_nonneg hv.1] at hpv
    refine Ev.step (g := fun k => (spec_PutVar.f k (val p b)).bind fun r6 => (if (r6.length : Int) = (p.length : Int) + 1 then (some (val p b, (p.length : Int) + 1)) else (some (0, 0)))) (fun k => ?_) (Ev.bind hpv ?_)
    · simp only [List.length_nil]
      simp (disch := omega) only [spec_GetVar.l2, if_neg, e1]
    · by_cases hc : b = 0 ∧ p ≠ []
      · have hlt := dg_val0 p hp hc.2
        have ef : fin_ p b = (0, 0) := by unfold fin_; rw [if_pos hc]
        rw [ef]
        rw [← hc.1] at hlt
        exact Ev.ret fun k => if_neg (by omega)
      · have ef : fin_ p b = (val p b, (p.length : Int) + 1) := by unfold fin_; rw [if_neg hc]
        rw [ef]
        have hd := dg_val p b hp h0 h1 (by
          by_cases h : b = 0
          · exact .inr (Classical.byContradiction fun h' => hc ⟨h, h'⟩)
          · exact .inl h)
        rw [hd]
        exact Ev.ret fun k => if_pos (by simp)
  | succ n ih =>
    intro q r hq hqr
    obtain ⟨q', h, rfl⟩ : ∃ q' h, q = q' ++ [h] := by
      cases hr : q.reverse with
      | nil => rw [List.reverse_eq_nil_iff] at hr; subst hr; cases hq
      | cons h u => exact ⟨u.reverse, h, by rw [← List.reverse_reverse q, hr]; simp⟩
    have hq' : q'.length = n := by simpa using hq
    have hpq : p = q' ++ (h :: r) := by rw [hqr]; simp
    have hh := hp h (by rw [hpq]; simp)
    have hrh : Hd r := fun x hx => hp x (by rw [hpq]; simp [hx])
    have hv := val_lt r b hrh h0 h1
    have hlen : p.length = q'.length + r.length + 1 := by rw [hpq]; simp; omega
    have hpw : (128 : Int) ^ (r.length + 1) ≤ 128 ^ 8 := pow128_le (by omega)
    have h8 : (128 : Int) ^ 8 = 72057594037927936 := by decide
    have hi := ih q' (h :: r) hq' hpq
    have hgd : (p ++ b :: t).getD (q'.length : Int).toNat 0 = h := by
      rw [hpq, List.append_assoc, List.cons_append]
      exact get_mid q' h 0 _ rfl
    have hln := len_mid p b t
    have e0 : (((q' ++ [h]).length : Nat) : Int) - 1 = (q'.length : Int) := by simp
    have e1 : IntKind.wrap .i64 (val r b * 128) = val r b * 128 := w64 (by omega) (by omega)
    have e2 : IntKind.wrap .i64 h = h := w64 (by omega) (by omega)
    have e3 : Int.tmod h 128 = h - 128 := by rw [Int.tmod_eq_emod_of_nonneg (by omega)]; omega
    have e4 : IntKind.wrap .i64 (val r b * 128 + (h - 128)) = val (h :: r) b := by rw [w64 (by omega) (by omega)]; simp only [val]; omega
    have e5 : IntKind.wrap .i64 ((q'.length : Int) - 1) = (q'.length : Int) - 1 := w64 (by omega) (by omega)
    rw [e0]
    refine Ev.step (fun k => ?_) hi
    simp (disch := omega) only [spec_GetVar.l2, if_neg, if_pos, hgd, e1, e2, e3, e4, e5]
theorem getVarL (s : List Int) : ∀ (p : List Int), Byt (p ++ s) → Hd p → p.length ≤ 9 → (p ++ s).length ≤ 4611686018427387904 → Ev (fun k => spec_GetVar.l0 k (p ++ s) (p.length : Int)) (match sp (9 - p.length) s with
    | none => (0, 0)
    | some (hs, b) => fin_ (p ++ hs) b) := by
  induction s with
  | nil =>
    intro p hb hp hl _
    have e : sp (9 - p.length) ([] : List Int) = none := by cases 9 - p.length <;> rfl
    rw [e]
    have h1 : (p ++ ([] : List Int)).length = p.length := by simp
    refine Ev.at fun k => ?_
    simp (disch := omega) only [spec_GetVar.l0, if_neg, if_pos]
  | cons b t ih =>
    intro p hb hp hl hll
    have h1 := len_mid p b t
    have hbb := hb b (by simp)
    by_cases h9 : p.length = 9
    · rw [h9]
      show Ev _ (0, 0)
      refine Ev.at fun k => ?_
      simp (disch := omega) only [spec_GetVar.l0, if_neg, if_pos]
    · obtain ⟨j, hj⟩ : ∃ j, 9 - p.length = j + 1 := ⟨9 - p.length - 1, by omega⟩
      have hg : (p ++ b :: t).getD (p.length : Int).toNat 0 = b := get_mid p b 0 t rfl
      have ei : IntKind.wrap .i64 ((p.length : Int) + 1) = (p.length : Int) + 1 := w64 (by omega) (by omega)
      rw [hj]
      by_cases h128 : 128 ≤ b
      · have h := ih (p ++ [b]) (by simpa using hb) (fun x hx => by
          rcases List.mem_append.1 hx with hx | hx
          · exact hp x hx
          · simp at hx; subst hx; exact ⟨h128, hbb.2⟩) (by simp; omega) (by simpa using hll)
        have e9 : 9 - (p ++ [b]).length = j := by simp; omega
        rw [e9] at h
        have hr : (match sp (j + 1) (b :: t) with
            | none => ((0, 0) : Int × Int)
            | some (hs, b) => fin_ (p ++ hs) b) = (match sp j t with
            | none => (0, 0)
            | some (hs, b_1) => fin_ (p ++ [b] ++ hs) b_1) := by
          simp only [sp, if_pos h128]
          cases sp j t with
          | none => rfl
          | some r => simp
        rw [hr]
        refine Ev.step (fun k => ?_) (by simpa using h)
        simp (disch := omega) only [spec_GetVar.l0, if_neg, if_pos, hg, ei]
      · have hr : (match sp (j + 1) (b :: t) with
            | none => ((0, 0) : Int × Int)
            | some (hs, b) => fin_ (p ++ hs) b) = fin_ p b := by simp only [sp, if_neg h128, List.append_nil]
        rw [hr]
        have hh := hornerL p b t hp hbb.1 (by omega) (by omega) p.length p [] rfl (by simp)
        simp only [val] at hh
        have e2 : IntKind.wrap .i64 b = b := w64 (by omega) (by omega)
        have e3 : Int.tmod b 128 = b := by rw [Int.tmod_eq_emod_of_nonneg (by omega)]; omega
        have e4 : IntKind.wrap .i64 (0 * 128) = 0 := by decide
        have e5 : IntKind.wrap .i64 ((p.length : Int) - 1) = (p.length : Int) - 1 := w64 (by omega) (by omega)
        have e6 : IntKind.wrap .i64 (0 + b) = b := by rw [Int.zero_add]; exact e2
        refine Ev.step (g := fun k => spec_GetVar.l2 k (p ++ b :: t) (p.length : Int) 0 (p.length : Int)) (fun k => ?_) (Ev.step (fun k => ?_) hh)
        · simp (disch := omega) only [spec_GetVar.l0, if_neg, if_pos, hg]
        · simp (disch := omega) only [spec_GetVar.l2, if_neg, if_pos, hg, e2, e3, e4, e5, e6]
theorem getVar (l : List Int) (hl : Byt l) (hll : l.length ≤ 4611686018427387904) : Ev (fun k => spec_GetVar.f k l) (gv l) := by
  have h := getVarL l [] (by simpa using hl) (fun x hx => by cases hx) (by simp) (by simpa using hll)
  simp only [List.nil_append, List.length_nil] at h
  exact h
/-! ### the reader -/
theorem take_bad (T : ByteArray) (n : Int) : impl_reader_take.f ⟨T, true⟩ n = some (⟨#[]⟩, ⟨T, true⟩) := by simp only [impl_reader_take.f, if_true]
theorem take_short (l : List Int) (n : Int) (h : (l.length : Int) < n) : impl_reader_take.f ⟨std.strOf l, false⟩ n = some (⟨#[]⟩, ⟨std.strOf l, true⟩) := by
  have hz := str_size l
  simp only [impl_reader_take.f, Bool.false_eq_true, if_false]
  rw [if_pos (by omega)]
theorem take_ok (l : List Int) (n : Nat) (h : n ≤ l.length) : impl_reader_take.f ⟨std.strOf l, false⟩ (n : Int) = some (std.strOf (l.take n), ⟨std.strOf (l.drop n), false⟩) := by
  have hz := str_size l
  simp only [impl_reader_take.f, Bool.false_eq_true, if_false]
  simp (disch := omega) only [if_neg, if_pos, hz]
  rw [str_ext, str_ext]
  have e1 : ((l.length : Nat) : Int).toNat - (n : Int).toNat = l.length - n := by omega
  have e2 : (n : Int).toNat - (0 : Int).toNat = n := by simp
  rw [e1, e2]
  have e3 : (n : Int).toNat = n := by omega
  rw [e3]
  have e4 : (l.drop n).take (l.length - n) = l.drop n := List.take_of_length_le (by simp)
  rw [e4]
  rfl
/-- What number leaves. -/
def num (l : List Int) : Int × GReader := if (gv l).2 = 0 then (0, ⟨std.strOf l, true⟩) else ((gv l).1, ⟨std.strOf (l.drop (gv l).2.toNat), false⟩)
theorem number (l : List Int) (hl : Byt l) : Ev (fun k => impl_reader_number.f k ⟨std.strOf l, false⟩) (num l) := by
  refine Ev.bind (readVar l hl) ?_
  unfold num
  rcases gv_spec l hl with h | ⟨n, t, h1, h2, h3⟩
  · rw [h]
    refine Ev.ret fun k => ?_
    simp [take_bad]
  · have hp := dg_pos n
    rw [h1]
    have hne : ¬ (((dg n).length : Nat) : Int) = 0 := by omega
    simp only [if_neg hne]
    refine Ev.ret fun k => ?_
    rw [take_ok l (dg n).length (by rw [h3]; simp)]
    simp
theorem number_bad (l : List Int) (hl : Byt l) : Ev (fun k => impl_reader_number.f k ⟨std.strOf l, true⟩) ((gv l).1, ⟨std.strOf l, true⟩) := by
  refine Ev.bind (readVar l hl) (Ev.ret fun k => ?_)
  simp [take_bad]
end Go.I

/-! IP3 -/
set_option linter.unusedVariables false
set_option linter.unusedSimpArgs false
set_option maxRecDepth 100000
set_option maxHeartbeats 4000000
namespace Go.I
open Go
/-! ### words -/
def WD (q : List Int) : Int := q.getD 0 0 + 256 * q.getD 1 0 + 65536 * q.getD 2 0 + 16777216 * q.getD 3 0
theorem four {q : List Int} (h : q.length = 4) : ∃ a b c d, q = [a, b, c, d] := by
  match q, h with
  | [a, b, c, d], _ => exact ⟨a, b, c, d, rfl⟩
theorem getWord (q : List Int) (h : q.length = 4) (hq : Byt q) : spec_GetWord.f q = some (WD q, true) := by
  obtain ⟨a, b, c, d, rfl⟩ := four h
  have h1 := hq a (by simp)
  have h2 := hq b (by simp)
  have h3 := hq c (by simp)
  have h4 := hq d (by simp)
  have e0 : (([a, b, c, d] : List Int).length : Int) = 4 := rfl
  have g0 : ([a, b, c, d] : List Int).getD (Int.toNat 0) 0 = a := rfl
  have g1 : ([a, b, c, d] : List Int).getD (Int.toNat 1) 0 = b := rfl
  have g2 : ([a, b, c, d] : List Int).getD (Int.toNat 2) 0 = c := rfl
  have g3 : ([a, b, c, d] : List Int).getD (Int.toNat 3) 0 = d := rfl
  simp only [spec_GetWord.f, e0, g0, g1, g2, g3]
  simp (disch := omega) only [if_pos, w64, w32]
  rfl
theorem shl_w (x : Int) (n : Nat) (h0 : 0 ≤ x) (h1 : x ≤ 255) (hn : n ≤ 24) : std.shl .u32 x (n : Int) = x * 2 ^ n := by
  show IntKind.wrap .u32 (x * 2 ^ min ((n : Nat) : Int).toNat IntKind.u32.bits) = _
  rw [show ((n : Nat) : Int).toNat = n by omega, show min n IntKind.u32.bits = n by simp [IntKind.bits]; omega]
  have hp : (2 : Int) ^ n ≤ 2 ^ 24 := by exact_mod_cast Nat.pow_le_pow_right (by decide) hn
  have h24 : (2 : Int) ^ 24 = 16777216 := by decide
  have hpos : (0 : Int) < 2 ^ n := Int.pow_pos (by decide)
  have h2 : x * 2 ^ n ≤ 255 * 2 ^ n := Int.mul_le_mul_of_nonneg_right h1 (by omega)
  have h3 : 0 ≤ x * 2 ^ n := Int.mul_nonneg h0 (by omega)
  exact w32 h3 (by omega)
theorem readWord (q : List Int) (h : q.length = 4) (hq : Byt q) : impl_readWord.f (std.strOf q) = some (WD q) := by
  have hz := str_size q
  have s0 := str_get q hq 0 (by omega)
  have s1 := str_get q hq 1 (by omega)
  have s2 := str_get q hq 2 (by omega)
  have s3 := str_get q hq 3 (by omega)
  obtain ⟨a, b, c, d, rfl⟩ := four h
  have h1 := hq a (by simp)
  have h2 := hq b (by simp)
  have h3 := hq c (by simp)
  have h4 := hq d (by simp)
  have s0 : std.sget (std.strOf [a, b, c, d]) 0 = a := s0
  have s1 : std.sget (std.strOf [a, b, c, d]) 1 = b := s1
  have s2 : std.sget (std.strOf [a, b, c, d]) 2 = c := s2
  have s3 : std.sget (std.strOf [a, b, c, d]) 3 = d := s3
  have e8 : std.shl .u32 b 8 = b * 256 := shl_w b 8 h2.1 h2.2 (by decide)
  have e16 : std.shl .u32 c 16 = c * 65536 := shl_w c 16 h3.1 h3.2 (by decide)
  have e24 : std.shl .u32 d 24 = d * 16777216 := shl_w d 24 h4.1 h4.2 (by decide)
  have p8 : (2 : Int) ^ 8 = 256 := by decide
  have p16 : (2 : Int) ^ 16 = 65536 := by decide
  have p24 : (2 : Int) ^ 24 = 16777216 := by decide
  have p32 : (2 : Int) ^ 32 = 4294967296 := by decide
  have o1 : std.bits .or .u32 a (b * 256) = a + b * 256 := or_sumK .u32 8 32 (by decide) wrap32n (by decide) _ _ (by omega) (by omega) (by omega) (by omega) (by omega)
  have o2 : std.bits .or .u32 (a + b * 256) (c * 65536) = a + b * 256 + c * 65536 := or_sumK .u32 16 32 (by decide) wrap32n (by decide) _ _ (by omega) (by omega) (by omega) (by omega) (by omega)
  have o3 : std.bits .or .u32 (a + b * 256 + c * 65536) (d * 16777216) = a + b * 256 + c * 65536 + d * 16777216 := or_sumK .u32 24 32 (by decide) wrap32n (by decide) _ _ (by omega) (by omega) (by omega) (by omega) (by omega)
  have hz : ((std.strOf [a, b, c, d]).size : Int) = 4 := by rw [hz]; rfl
  simp only [impl_readWord.f, hz, s0, s1, s2, s3]
  simp (disch := omega) only [if_pos, w32, e8, e16, e24, o1, o2, o3]
  congr 1
  show _ = a + 256 * b + 65536 * c + 16777216 * d
  omega
theorem wordText (q : List Int) (h : q.length = 4) (hq : Byt q) : impl_wordText.f (WD q) = some (std.strOf q) := by
  obtain ⟨a, b, c, d, rfl⟩ := four h
  have h1 := hq a (by simp)
  have h2 := hq b (by simp)
  have h3 := hq c (by simp)
  have h4 := hq d (by simp)
  have e : WD [a, b, c, d] = a + 256 * b + 65536 * c + 16777216 * d := rfl
  have sh : ∀ n : Nat, n ≤ 24 → std.shr .u32 (WD [a, b, c, d]) (n : Int) = WD [a, b, c, d] / 2 ^ n := by
    intro n hn
    show Int.fdiv (WD [a, b, c, d]) (2 ^ min ((n : Nat) : Int).toNat IntKind.u32.bits) = _
    rw [show ((n : Nat) : Int).toNat = n by omega, show min n IntKind.u32.bits = n by simp [IntKind.bits]; omega]
    exact Int.fdiv_eq_ediv_of_nonneg _ (Int.le_of_lt (Int.pow_pos (by decide)))
  have p8 : (2 : Int) ^ 8 = 256 := by decide
  have p16 : (2 : Int) ^ 16 = 65536 := by decide
  have p24 : (2 : Int) ^ 24 = 16777216 := by decide
  have s8 : std.shr .u32 (WD [a, b, c, d]) 8 = WD [a, b, c, d] / 256 := by rw [← p8]; exact sh 8 (by decide)
  have s16 : std.shr .u32 (WD [a, b, c, d]) 16 = WD [a, b, c, d] / 65536 := by rw [← p16]; exact sh 16 (by decide)
  have s24 : std.shr .u32 (WD [a, b, c, d]) 24 = WD [a, b, c, d] / 16777216 := by rw [← p24]; exact sh 24 (by decide)
  have k1 : IntKind.wrap .u8 (WD [a, b, c, d]) = a := by rw [IntKind.wrap_u8, e]; omega
  have k2 : IntKind.wrap .u8 (WD [a, b, c, d] / 256) = b := by rw [IntKind.wrap_u8, e]; omega
  have k3 : IntKind.wrap .u8 (WD [a, b, c, d] / 65536) = c := by rw [IntKind.wrap_u8, e]; omega
  have k4 : IntKind.wrap .u8 (WD [a, b, c, d] / 16777216) = d := by rw [IntKind.wrap_u8, e]; omega
  simp only [impl_wordText.f, s8, s16, s24, k1, k2, k3, k4]
  rfl
theorem rword_ok (l : List Int) (hl : Byt l) (h : 4 ≤ l.length) : impl_reader_word.f ⟨std.strOf l, false⟩ = some (WD (l.take 4), ⟨std.strOf (l.drop 4), false⟩) := by
  have h1 := take_ok l 4 h
  have h1 : impl_reader_take.f ⟨std.strOf l, false⟩ 4 = _ := h1
  simp only [impl_reader_word.f, h1, Option.bind_some, Bool.false_eq_true, if_false]
  rw [readWord _ (by simp; omega) (hl.take 4)]
  rfl
theorem rword_short (l : List Int) (h : l.length < 4) : impl_reader_word.f ⟨std.strOf l, false⟩ = some (0, ⟨std.strOf l, true⟩) := by
  have h1 := take_short l 4 (by omega)
  simp only [impl_reader_word.f, h1, Option.bind_some, if_true]
/-! ### right signatures -/
def slen (s : GSig) : Int := if 0 < s.Rest ∧ 0 < s.Weak.length then s.Size * s.Weak.length - s.Size + s.Rest else s.Size * s.Weak.length
def cut_ (s : GSig) : Prop := 1 ≤ s.Size ∧ s.Size ≤ 256 ∧ 0 ≤ s.Rest ∧ s.Rest ≤ s.Size - 1 ∧ s.Weak.length ≤ 2500
instance (s : GSig) : Decidable (cut_ s) := by unfold cut_; infer_instance
def str4 (l : List ByteArray) : Bool := l.all fun x => decide ((x.size : Int) = 4)
def sok (s : GSig) : Bool := decide (cut_ s ∧ s.Weak.length = s.Strong.length ∧ str4 s.Strong = true ∧ (s.Rest = 0 ∨ 0 < s.Weak.length) ∧ slen s ≤ 20000)
theorem specLen (s : GSig) (h : cut_ s) : spec_SigLen.f s = some (slen s) := by
  obtain ⟨h1, h2, h3, h4, h5⟩ := h
  have hm : s.Size * (s.Weak.length : Int) ≤ 256 * (s.Weak.length : Int) := Int.mul_le_mul_of_nonneg_right h2 (by omega)
  have hm0 : 0 ≤ s.Size * (s.Weak.length : Int) := Int.mul_nonneg (by omega) (by omega)
  have hm1 : 0 < s.Weak.length → 0 < s.Size * (s.Weak.length : Int) := fun h => Int.mul_pos (by omega) (by omega)
  have hm2 : s.Weak.length = 0 → s.Size * (s.Weak.length : Int) = 0 := fun h => by rw [h]; simp
  have e1 : IntKind.wrap .i64 (s.Size - 1) = s.Size - 1 := w64 (by omega) (by omega)
  have e2 : IntKind.wrap .i64 (s.Size * (s.Weak.length : Int)) = s.Size * (s.Weak.length : Int) := w64 (by omega) (by omega)
  have e3 : IntKind.wrap .i64 (s.Size * (s.Weak.length : Int) - s.Size) = s.Size * (s.Weak.length : Int) - s.Size := w64 (by omega) (by omega)
  have e4 : IntKind.wrap .i64 (s.Size * (s.Weak.length : Int) - s.Size + s.Rest) = s.Size * (s.Weak.length : Int) - s.Size + s.Rest := w64 (by omega) (by omega)
  have n5 : ¬ 2500 < (s.Weak.length : Int) := by omega
  simp only [spec_SigLen.f, spec_l01In.f, if_pos h1, if_pos h3, Option.bind_some, decide_eq_true_eq, if_pos h2, e1, if_pos h4, if_neg n5, e2, e3, e4]
  unfold slen
  by_cases c1 : 0 < s.Rest
  · by_cases c2 : 0 < s.Weak.length
    · rw [if_pos c1, if_pos (hm1 c2), if_pos ⟨c1, c2⟩]
    · have h0 := hm2 (by omega)
      rw [if_pos c1, if_neg (by rw [h0]; omega), if_neg (fun e => c2 e.2)]
  · rw [if_neg c1, if_neg (fun e => c1 e.1)]
theorem isCut (s : GSig) : impl_Sig_isCut.f s = some (decide (cut_ s)) := by
  simp only [impl_Sig_isCut.f, impl_within.f]
  by_cases c1 : 1 ≤ s.Size
  · rw [if_pos c1]
    by_cases c2 : s.Size ≤ 256
    · have e1 : IntKind.wrap .i64 (s.Size - 1) = s.Size - 1 := w64 (by omega) (by omega)
      simp only [Option.bind_some, decide_eq_true_eq, if_pos c2, e1]
      by_cases c3 : 0 ≤ s.Rest
      · rw [if_pos c3]
        by_cases c4 : s.Rest ≤ s.Size - 1
        · simp only [Option.bind_some, decide_eq_true_eq, if_pos c4]
          congr 1
          refine decide_eq_decide.2 ⟨fun h => ⟨c1, c2, c3, c4, by omega⟩, fun h => ?_⟩
          have := h.2.2.2.2
          omega
        · simp only [Option.bind_some, decide_eq_true_eq, if_neg c4]
          congr 1
          exact (decide_eq_false fun h => c4 h.2.2.2.1).symm
      · rw [if_neg c3]
        simp only [Option.bind_some, Bool.false_eq_true, if_false]
        congr 1
        exact (decide_eq_false fun h => c3 h.2.2.1).symm
    · simp only [Option.bind_some, decide_eq_true_eq, if_neg c2]
      congr 1
      exact (decide_eq_false fun h => c2 h.2.1).symm
  · rw [if_neg c1]
    simp only [Option.bind_some, Bool.false_eq_true, if_false]
    congr 1
    exact (decide_eq_false fun h => c1 h.1).symm
theorem implLen (s : GSig) (h : cut_ s) : impl_SigLen.f s = some (slen s) := by
  have hc := h
  obtain ⟨h1, h2, h3, h4, h5⟩ := h
  have hm : s.Size * (s.Weak.length : Int) ≤ 256 * (s.Weak.length : Int) := Int.mul_le_mul_of_nonneg_right h2 (by omega)
  have hm0 : 0 ≤ s.Size * (s.Weak.length : Int) := Int.mul_nonneg (by omega) (by omega)
  have hm1 : 0 < s.Weak.length → 0 < s.Size * (s.Weak.length : Int) := fun h => Int.mul_pos (by omega) (by omega)
  have hm2 : s.Weak.length = 0 → s.Size * (s.Weak.length : Int) = 0 := fun h => by rw [h]; simp
  have e2 : IntKind.wrap .i64 (s.Size * (s.Weak.length : Int)) = s.Size * (s.Weak.length : Int) := w64 (by omega) (by omega)
  have e3 : IntKind.wrap .i64 (s.Rest - s.Size) = s.Rest - s.Size := w64 (by omega) (by omega)
  have e4 : IntKind.wrap .i64 (s.Size * (s.Weak.length : Int) + (s.Rest - s.Size)) = s.Size * (s.Weak.length : Int) + (s.Rest - s.Size) := w64 (by omega) (by omega)
  have hd : decide (cut_ s) = true := decide_eq_true hc
  simp only [impl_SigLen.f, isCut, Option.bind_some, if_pos hd, e2, e3, e4]
  unfold slen
  by_cases c2 : (s.Weak.length : Int) = 0
  · have h0 := hm2 (by omega)
    have n2 : ¬ (0 < s.Rest ∧ 0 < s.Weak.length) := fun e => by have := e.2; omega
    rw [if_pos c2, if_neg n2, h0]
  · have p2 : 0 < s.Weak.length := by omega
    rw [if_neg c2]
    by_cases c1 : 0 < s.Rest
    · rw [if_pos c1, if_pos ⟨c1, p2⟩]
      congr 1
      omega
    · rw [if_neg c1, if_neg (fun e => c1 e.1)]
/-- The end of both: what is told behind the strong sums. -/
def tail_ (s : GSig) : Bool := decide ((s.Rest = 0 ∨ 0 < s.Weak.length) ∧ slen s ≤ 20000)
theorem specStrong (s : GSig) (hc : cut_ s) (hl : s.Strong.length ≤ 4611686018427387904) (suf : List ByteArray) : ∀ (pre : List ByteArray) (i : Int), i = pre.length → s.Strong = pre ++ suf → Ev (fun k => spec_SigOk.l0 k s i) (str4 suf && tail_ s) := by
  have hsl := specLen s hc
  induction suf with
  | nil =>
    intro pre i hi hs
    have h1 : s.Strong.length = pre.length := by rw [hs]; simp
    refine Ev.at fun k => ?_
    simp only [spec_SigOk.l0, hsl]
    rw [if_neg (by omega)]
    by_cases c1 : s.Rest = 0
    · rw [if_pos c1]
      simp [tail_, c1, str4]
    · rw [if_neg c1]
      by_cases c2 : 0 < s.Weak.length
      · rw [if_pos (by omega)]
        simp [tail_, c2, str4]
      · rw [if_neg (by omega)]
        simp [tail_, c1, c2, str4]
  | cons x t ih =>
    intro pre i hi hs
    have h1 : s.Strong.length = pre.length + t.length + 1 := by rw [hs]; simp; omega
    have hg : s.Strong.getD i.toNat (⟨#[]⟩ : ByteArray) = x := by rw [hs]; exact get_mid pre x _ t hi
    have ei : IntKind.wrap .i64 (i + 1) = i + 1 := w64 (by omega) (by omega)
    by_cases hx : (x.size : Int) = 4
    · have h := ih (pre ++ [x]) (i + 1) (by simp; omega) (by rw [hs]; simp)
      have e : (str4 (x :: t) && tail_ s) = (str4 t && tail_ s) := by simp [str4, hx]
      rw [e]
      refine Ev.step (fun k => ?_) h
      simp (disch := omega) only [spec_SigOk.l0, if_pos, hg, ei, hx, if_true]
    · have e : (str4 (x :: t) && tail_ s) = false := by simp [str4, hx]
      rw [e]
      refine Ev.at fun k => ?_
      simp (disch := omega) only [spec_SigOk.l0, if_pos, hg]
      rw [if_neg hx]
theorem sok_eq (s : GSig) (hc : cut_ s) (hl : s.Weak.length = s.Strong.length) : sok s = (str4 s.Strong && tail_ s) := by
  unfold sok tail_
  cases h : str4 s.Strong with
  | false => simp
  | true => simp [hc, hl]
theorem sok_no {s : GSig} (h : ¬ (cut_ s ∧ s.Weak.length = s.Strong.length)) : sok s = false := by
  unfold sok
  exact decide_eq_false fun e => h ⟨e.1, e.2.1⟩
theorem specOk (s : GSig) (hl : s.Strong.length ≤ 4611686018427387904) : Ev (fun k => spec_SigOk.f k s) (sok s) := by
  by_cases c1 : 1 ≤ s.Size
  · by_cases c2 : s.Size ≤ 256
    · have e1 : IntKind.wrap .i64 (s.Size - 1) = s.Size - 1 := w64 (by omega) (by omega)
      by_cases c3 : 0 ≤ s.Rest
      · by_cases c4 : s.Rest ≤ s.Size - 1
        · by_cases c5 : 2500 < (s.Weak.length : Int)
          · rw [sok_no fun h => by have := h.1.2.2.2.2; omega]
            refine Ev.ret fun k => ?_
            simp only [spec_SigOk.f, spec_l01In.f, if_pos c1, if_pos c3, Option.bind_some, decide_eq_true_eq, if_pos c2, e1, if_pos c4, if_pos c5]
          · by_cases c6 : s.Weak.length = s.Strong.length
            · have hc : cut_ s := ⟨c1, c2, c3, c4, by omega⟩
              rw [sok_eq s hc c6]
              refine (specStrong s hc hl s.Strong [] 0 rfl rfl).congr fun k => ?_
              simp only [spec_SigOk.f, spec_l01In.f, if_pos c1, if_pos c3, Option.bind_some, decide_eq_true_eq, if_pos c2, e1, if_pos c4, if_neg c5]
              rw [if_pos (by omega)]
            · rw [sok_no fun h => c6 h.2]
              refine Ev.ret fun k => ?_
              simp only [spec_SigOk.f, spec_l01In.f, if_pos c1, if_pos c3, Option.bind_some, decide_eq_true_eq, if_pos c2, e1, if_pos c4, if_neg c5]
              rw [if_neg (by omega)]
        · rw [sok_no fun h => c4 h.1.2.2.2.1]
          refine Ev.ret fun k => ?_
          simp only [spec_SigOk.f, spec_l01In.f, if_pos c1, if_pos c3, Option.bind_some, decide_eq_true_eq, if_pos c2, e1, if_neg c4]
      · rw [sok_no fun h => c3 h.1.2.2.1]
        refine Ev.ret fun k => ?_
        simp only [spec_SigOk.f, spec_l01In.f, if_pos c1, if_neg c3, Option.bind_some, decide_eq_true_eq, if_pos c2, Bool.false_eq_true, if_false]
    · rw [sok_no fun h => c2 h.1.2.1]
      refine Ev.ret fun k => ?_
      simp only [spec_SigOk.f, spec_l01In.f, if_pos c1, Option.bind_some, decide_eq_true_eq, if_neg c2]
  · rw [sok_no fun h => c1 h.1.1]
    refine Ev.ret fun k => ?_
    simp only [spec_SigOk.f, spec_l01In.f, if_neg c1, Option.bind_some, Bool.false_eq_true, if_false]
theorem indexStr (l : List ByteArray) (hl : l.length ≤ 4611686018427387904) (suf : List ByteArray) : ∀ (pre : List ByteArray) (i : Int), i = pre.length → l = pre ++ suf → ∃ j : Int, (0 ≤ j ↔ str4 suf = false) ∧ Ev (fun k => slices_IndexFunc_55.l0 k l i) j := by
  induction suf with
  | nil =>
    intro pre i hi hs
    have h1 : l.length = pre.length := by rw [hs]; simp
    refine ⟨-1, by simp [str4], Ev.at fun k => ?_⟩
    simp (disch := omega) only [slices_IndexFunc_55.l0, if_neg]
  | cons x t ih =>
    intro pre i hi hs
    have h1 : l.length = pre.length + t.length + 1 := by rw [hs]; simp; omega
    have hg : l.getD i.toNat (⟨#[]⟩ : ByteArray) = x := by rw [hs]; exact get_mid pre x _ t hi
    have ei : IntKind.wrap .i64 (i + 1) = i + 1 := w64 (by omega) (by omega)
    by_cases hx : (x.size : Int) = 4
    · obtain ⟨j, hj, h⟩ := ih (pre ++ [x]) (i + 1) (by simp; omega) (by rw [hs]; simp)
      refine ⟨j, by simpa [str4, hx] using hj, Ev.step (fun k => ?_) h⟩
      simp (disch := omega) only [slices_IndexFunc_55.l0, impl_SigOk_1.f, if_pos, hg, ei, Option.bind_some]
      simp [hx]
    · refine ⟨i, by simp [str4, hx]; omega, Ev.at fun k => ?_⟩
      simp (disch := omega) only [slices_IndexFunc_55.l0, impl_SigOk_1.f, if_pos, hg, Option.bind_some]
      simp [hx]
theorem anyStr (l : List ByteArray) (hl : l.length ≤ 4611686018427387904) : Ev (fun k => slices_ContainsFunc_55.f k l) (!str4 l) := by
  obtain ⟨j, hj, h⟩ := indexStr l hl l [] 0 rfl rfl
  refine Ev.bind (f := fun k => slices_IndexFunc_55.f k l) h (Ev.ret fun k => ?_)
  congr 1
  cases hs : str4 l with
  | false => rw [hs] at hj; simpa using hj
  | true => rw [hs] at hj; simp at hj ⊢; omega
theorem implOk (s : GSig) (hl : s.Strong.length ≤ 4611686018427387904) : Ev (fun k => impl_SigOk.f k s) (sok s) := by
  by_cases hc : cut_ s
  · by_cases c6 : s.Weak.length = s.Strong.length
    · rw [sok_eq s hc c6]
      have ha := anyStr s.Strong hl
      have hil := implLen s hc
      simp only [impl_SigOk.f, isCut, Option.bind_some, decide_eq_true_eq, if_pos hc, hil]
      simp (disch := omega) only [if_pos]
      have fin : ∀ (p : Bool), p = tail_ s → Ev (fun k => (slices_ContainsFunc_55.f k s.Strong).bind fun r1 => if r1 = true then some false else some p) (str4 s.Strong && tail_ s) := by
        intro p hp
        refine Ev.bind ha (Ev.ret fun k => ?_)
        cases str4 s.Strong with
        | false => simp
        | true => simp [hp]
      by_cases c1 : s.Rest = 0
      · simp only [if_pos c1]
        exact fin (decide (slen s ≤ 20000)) (by simp [tail_, c1])
      · simp only [if_neg c1]
        by_cases c2 : 0 < s.Weak.length
        · simp (disch := omega) only [if_pos]
          exact fin (decide (slen s ≤ 20000)) (by simp [tail_, c2])
        · have e : (str4 s.Strong && tail_ s) = false := by simp [tail_, c1, c2]
          rw [e]
          exact Ev.ret fun k => if_neg (by omega)
    · rw [sok_no fun h => c6 h.2]
      refine Ev.ret fun k => ?_
      simp only [impl_SigOk.f, isCut, Option.bind_some, decide_eq_true_eq, if_pos hc]
      rw [if_neg (by omega)]
  · rw [sok_no fun h => hc h.1]
    refine Ev.ret fun k => ?_
    simp only [impl_SigOk.f, isCut, Option.bind_some, decide_eq_true_eq, if_neg hc]
end Go.I

/-! IP4 -/
set_option linter.unusedVariables false
set_option linter.unusedSimpArgs false
set_option maxRecDepth 100000
set_option maxHeartbeats 4000000
namespace Go.I
open Go
/-! ### signatures out of bytes -/
def ws : Nat → List Int → List Int
  | 0, _ => []
  | n + 1, R => WD (R.take 4) :: ws n (R.drop 8)
def ss : Nat → List Int → List ByteArray
  | 0, _ => []
  | n + 1, R => std.strOf ((R.drop 4).take 4) :: ss n (R.drop 8)
theorem ws_len (n : Nat) : ∀ R, (ws n R).length = n := by
  induction n with
  | zero => intro R; rfl
  | succ n ih => intro R; simp [ws, ih]
theorem ss_len (n : Nat) : ∀ R, (ss n R).length = n := by
  induction n with
  | zero => intro R; rfl
  | succ n ih => intro R; simp [ss, ih]
def sig0 : GSig × Bool := (⟨0, 0, [], []⟩, false)
def fins (s : GSig) : GSig × Bool := if sok s = true then (s, true) else sig0
theorem ext_drop (l : List Int) (c : Nat) : std.ext l (c : Int) (l.length : Int) = l.drop c := by
  show (l.drop (c : Int).toNat).take ((l.length : Int).toNat - (c : Int).toNat) = _
  rw [show (c : Int).toNat = c by omega, show ((l.length : Nat) : Int).toNat = l.length by omega]
  exact List.take_of_length_le (by simp)
theorem ext_at (l : List Int) (a b : Nat) {i j : Int} (hi : i = a) (hj : j = a + b) : std.ext l i j = (l.drop a).take b := by
  subst hi; subst hj
  show (l.drop (a : Int).toNat).take (((a : Int) + (b : Int)).toNat - (a : Int).toNat) = _
  rw [show (a : Int).toNat = a by omega, show ((a : Int) + (b : Int)).toNat - a = b by omega]
theorem specWords (R : List Int) (hR : Byt R) (n : Nat) (hn : R.length = 8 * n) (hn2 : n ≤ 2500) (x5 : List Int) : ∀ (j i : Nat) (W : List Int) (S : List ByteArray), i + j = n → W.length = i → S.length = i →
    Ev (fun k => spec_GetSig.l2 k R x5 ((8 * i : Nat) : Int) W S) (fins ⟨x5.getD (Int.toNat 0) 0, x5.getD (Int.toNat 1) 0, W ++ ws j (R.drop (8 * i)), S ++ ss j (R.drop (8 * i))⟩) := by
  intro j
  induction j with
  | zero =>
    intro i W S hij hW hS
    simp only [ws, ss, List.append_nil]
    refine Ev.step (g := fun k => (spec_SigOk.f k ⟨x5.getD (Int.toNat 0) 0, x5.getD (Int.toNat 1) 0, W, S⟩).bind fun r16 => if r16 = true then some (⟨x5.getD (Int.toNat 0) 0, x5.getD (Int.toNat 1) 0, W, S⟩, true) else some sig0) (fun k => ?_) (Ev.bind (specOk _ (by show S.length ≤ _; omega)) (Ev.ret fun k => ?_))
    · simp (disch := omega) only [spec_GetSig.l2, if_neg]
      rfl
    · unfold fins
      split <;> rfl
  | succ j ih =>
    intro i W S hij hW hS
    have hl : (R.drop (8 * i)).length = 8 * j + 8 := by simp; omega
    have e4 : IntKind.wrap .i64 (((8 * i : Nat) : Int) + 4) = ((8 * i : Nat) : Int) + 4 := w64 (by omega) (by omega)
    have e8 : IntKind.wrap .i64 (((8 * i : Nat) : Int) + 8) = ((8 * (i + 1) : Nat) : Int) := by rw [w64 (by omega) (by omega)]; omega
    have x1 : std.ext R ((8 * i : Nat) : Int) (((8 * i : Nat) : Int) + 4) = (R.drop (8 * i)).take 4 := ext_at R (8 * i) 4 rfl (by simp)
    have x2 : std.ext R (((8 * i : Nat) : Int) + 4) ((8 * (i + 1) : Nat) : Int) = ((R.drop (8 * i)).drop 4).take 4 := by
      rw [ext_at R (8 * i + 4) 4 (by simp) (by simp; omega), List.drop_drop]
    have hw := getWord ((R.drop (8 * i)).take 4) (by simp; omega) ((hR.drop _).take _)
    have h := ih (i + 1) (W ++ [WD ((R.drop (8 * i)).take 4)]) (S ++ [std.strOf (((R.drop (8 * i)).drop 4).take 4)]) (by omega) (by simp; omega) (by simp; omega)
    have ed : (R.drop (8 * i)).drop 8 = R.drop (8 * (i + 1)) := by rw [List.drop_drop]; congr 1
    simp only [ws, ss, ed]
    simp only [List.append_assoc, List.singleton_append] at h
    refine Ev.step (fun k => ?_) h
    have hz1 : (([WD ((R.drop (8 * i)).take 4)] : List Int).length : Int) = 1 := rfl
    have hz2 : (([std.strOf (((R.drop (8 * i)).drop 4).take 4)] : List ByteArray).length : Int) = 1 := rfl
    simp only [spec_GetSig.l2, e4, e8, x1, x2, hw, bnd]
    simp (disch := omega) only [if_pos]
theorem implBad (r0 r1 r2 : Int × GReader) (i : Int) (W : List Int) (S : List ByteArray) (T : ByteArray) : Ev (fun k => impl_readSig.l0 k r0 r1 r2 i W S T true) sig0 := by
  refine Ev.at fun k => ?_
  simp only [impl_readSig.l0, if_true]
  split
  · split <;> rfl
  · rfl
theorem implWords (r0 r1 r2 : Int × GReader) (n : Nat) (hn : r2.1 = n) : ∀ (d i : Nat) (cur : List Int) (W : List Int) (S : List ByteArray), i + d = 2501 → i ≤ n → Byt cur → cur.length ≤ 1048576 → W.length = i → S.length = i →
    Ev (fun k => impl_readSig.l0 k r0 r1 r2 (i : Int) W S (std.strOf cur) false) (if n ≤ 2500 ∧ cur.length = 8 * (n - i) then fins ⟨r0.1, r1.1, W ++ ws (n - i) cur, S ++ ss (n - i) cur⟩ else sig0) := by
  have stop : ∀ (i : Nat) (cur : List Int) (W : List Int) (S : List ByteArray), ¬ ((i : Int) < n ∧ (i : Int) ≤ 2500) → W.length = i → S.length = i → i ≤ n → i ≤ 2501 →
      Ev (fun k => impl_readSig.l0 k r0 r1 r2 (i : Int) W S (std.strOf cur) false) (if n ≤ 2500 ∧ cur.length = 8 * (n - i) then fins ⟨r0.1, r1.1, W ++ ws (n - i) cur, S ++ ss (n - i) cur⟩ else sig0) := by
    intro i cur W S hst hW hS hin hi
    have hz := str_size cur
    have red : ∀ v, Ev (fun k => if std.strOf cur = (⟨#[]⟩ : ByteArray) then ((impl_SigOk.f k ⟨r0.1, r1.1, W, S⟩).bind fun r20 => (if r20 = true then (if (W.length : Int) = r2.1 then (some ((⟨r0.1, r1.1, W, S⟩ : GSig), true)) else (some sig0)) else (some sig0))) else (some sig0)) v →
        Ev (fun k => impl_readSig.l0 k r0 r1 r2 (i : Int) W S (std.strOf cur) false) v := by
      intro v hv
      refine Ev.step (fun k => ?_) hv
      simp only [impl_readSig.l0, hn, Bool.false_eq_true, if_false, sig0]
      by_cases c1 : (i : Int) < n
      · rw [if_pos c1, if_neg (fun e => hst ⟨c1, e⟩)]
      · rw [if_neg c1]
    apply red
    by_cases hcur : cur = []
    · subst hcur
      simp only [str_nil, if_true]
      have hio := implOk (⟨r0.1, r1.1, W, S⟩ : GSig) (by show S.length ≤ _; omega)
      by_cases hle : n ≤ 2500
      · have hni : i = n := by omega
        subst hni
        have er : (if i ≤ 2500 ∧ ([] : List Int).length = 8 * (i - i) then fins ⟨r0.1, r1.1, W ++ ws (i - i) [], S ++ ss (i - i) []⟩ else sig0) = fins ⟨r0.1, r1.1, W, S⟩ := by
          rw [if_pos ⟨hle, by simp⟩]
          simp only [Nat.sub_self, ws, ss, List.append_nil]
        rw [er]
        refine Ev.bind hio (Ev.ret fun k => ?_)
        have eW : (W.length : Int) = r2.1 := by rw [hn, hW]
        unfold fins
        cases hs : sok ⟨r0.1, r1.1, W, S⟩ with
        | true => simp only [if_true, if_pos eW]
        | false => simp only [Bool.false_eq_true, if_false]
      · have er : (if n ≤ 2500 ∧ ([] : List Int).length = 8 * (n - i) then fins ⟨r0.1, r1.1, W ++ ws (n - i) [], S ++ ss (n - i) []⟩ else sig0) = sig0 := if_neg (fun e => hle e.1)
        rw [er]
        have hno : sok ⟨r0.1, r1.1, W, S⟩ = false := sok_no (s := ⟨r0.1, r1.1, W, S⟩) (fun e => by have h5 := e.1.2.2.2.2; simp only at h5; omega)
        rw [hno] at hio
        exact Ev.bind hio (Ev.ret fun k => by simp only [Bool.false_eq_true, if_false])
    · have hne : ¬ std.strOf cur = (⟨#[]⟩ : ByteArray) := by
        intro e
        have := congrArg ByteArray.size e
        rw [hz] at this
        exact hcur (List.eq_nil_of_length_eq_zero this)
      have hpos := List.length_pos_iff.2 hcur
      have er : (if n ≤ 2500 ∧ cur.length = 8 * (n - i) then fins ⟨r0.1, r1.1, W ++ ws (n - i) cur, S ++ ss (n - i) cur⟩ else sig0) = sig0 := if_neg (fun e => by omega)
      rw [er]
      exact Ev.ret fun k => if_neg hne
  intro d
  induction d with
  | zero => intro i cur W S hd hin hb hcl hW hS; exact stop i cur W S (fun e => by omega) hW hS hin (by omega)
  | succ d ih =>
    intro i cur W S hd hin hb hcl hW hS
    by_cases hlt : i < n
    · have hz1 : (([WD (cur.take 4)] : List Int).length : Int) = 1 := rfl
      have hz3 : (([0] : List Int).length : Int) = 1 := rfl
      have hz2 : (([std.strOf ((cur.drop 4).take 4)] : List ByteArray).length : Int) = 1 := rfl
      have hz4 : (([⟨#[]⟩] : List ByteArray).length : Int) = 1 := rfl
      have ei : IntKind.wrap .i64 ((i : Int) + 1) = ((i + 1 : Nat) : Int) := by rw [w64 (by omega) (by omega)]; omega
      by_cases c8 : 8 ≤ cur.length
      · have h := ih (i + 1) (cur.drop 8) (W ++ [WD (cur.take 4)]) (S ++ [std.strOf ((cur.drop 4).take 4)]) (by omega) (by omega) (hb.drop 8) (by simp; omega) (by simp; omega) (by simp; omega)
        obtain ⟨m, hm⟩ : ∃ m, n - i = m + 1 := ⟨n - i - 1, by omega⟩
        have hm' : n - (i + 1) = m := by omega
        rw [hm'] at h
        have hr : (if n ≤ 2500 ∧ (cur.drop 8).length = 8 * m then fins ⟨r0.1, r1.1, W ++ [WD (cur.take 4)] ++ ws m (cur.drop 8), S ++ [std.strOf ((cur.drop 4).take 4)] ++ ss m (cur.drop 8)⟩ else sig0) =
            (if n ≤ 2500 ∧ cur.length = 8 * (n - i) then fins ⟨r0.1, r1.1, W ++ ws (n - i) cur, S ++ ss (n - i) cur⟩ else sig0) := by
          rw [hm]
          simp only [ws, ss, List.append_assoc, List.singleton_append]
          by_cases hq : n ≤ 2500 ∧ cur.length = 8 * (m + 1)
          · rw [if_pos hq, if_pos ⟨hq.1, by simp; omega⟩]
          · rw [if_neg hq, if_neg (fun e => hq ⟨e.1, by have := e.2; simp at this; omega⟩)]
        rw [hr] at h
        have h1 := rword_ok cur hb (by omega)
        have h2 := take_ok (cur.drop 4) 4 (by simp; omega)
        have h2 : impl_reader_take.f ⟨std.strOf (cur.drop 4), false⟩ 4 = some (std.strOf ((cur.drop 4).take 4), ⟨std.strOf (cur.drop 8), false⟩) := by
          have e : (cur.drop 4).drop 4 = cur.drop 8 := by rw [List.drop_drop]
          rw [e] at h2
          exact h2
        refine Ev.step (fun k => ?_) h
        simp only [impl_readSig.l0, hn, Bool.false_eq_true, if_false, h1, h2, bnd, ei]
        simp (disch := omega) only [if_pos]
      · rw [if_neg (fun e => by omega)]
        by_cases c4 : 4 ≤ cur.length
        · have h1 := rword_ok cur hb c4
          have h2 := take_short (cur.drop 4) 4 (by simp; omega)
          refine Ev.step (fun k => ?_) (implBad r0 r1 r2 ((i + 1 : Nat) : Int) (W ++ [WD (cur.take 4)]) (S ++ [⟨#[]⟩]) (std.strOf (cur.drop 4)))
          simp only [impl_readSig.l0, hn, Bool.false_eq_true, if_false, h1, h2, bnd, ei]
          simp (disch := omega) only [if_pos]
        · have h1 := rword_short cur (by omega)
          have h2 := take_bad (std.strOf cur) 4
          refine Ev.step (fun k => ?_) (implBad r0 r1 r2 ((i + 1 : Nat) : Int) (W ++ [0]) (S ++ [⟨#[]⟩]) (std.strOf cur))
          simp only [impl_readSig.l0, hn, Bool.false_eq_true, if_false, h1, h2, bnd, ei]
          simp (disch := omega) only [if_pos]
    · exact stop i cur W S (fun e => by omega) hW hS hin (by omega)
/-- The text of a signature is what it was read from. -/
theorem sigTextL (s : GSig) (j : Nat) : ∀ (cur : List Int) (W0 : List Int) (S0 : List ByteArray) (acc : ByteArray), Byt cur → cur.length = 8 * j → s.Weak = W0 ++ ws j cur → s.Strong = S0 ++ ss j cur → W0.length = S0.length → s.Weak.length ≤ 2500 → acc.size + cur.length ≤ 10000000 →
    Ev (fun k => impl_sigText.l0 k s acc (W0.length : Int)) (acc ++ std.strOf cur) := by
  induction j with
  | zero =>
    intro cur W0 S0 acc hb hc hW hS hl hw ha
    have : cur = [] := List.eq_nil_of_length_eq_zero (by omega)
    subst this
    have h1 : s.Weak.length = W0.length := by rw [hW]; simp [ws]
    refine Ev.at fun k => ?_
    simp (disch := omega) only [impl_sigText.l0, if_neg]
    rw [str_nil]
    congr 1
    exact (ByteArray.append_empty (b := acc)).symm
  | succ j ih =>
    intro cur W0 S0 acc hb hc hW hS hl hw ha
    have h1 : s.Weak.length = W0.length + j + 1 := by rw [hW]; simp [ws_len]; omega
    have h2 : s.Strong.length = S0.length + j + 1 := by rw [hS]; simp [ss_len]; omega
    have hg1 : s.Weak.getD (W0.length : Int).toNat 0 = WD (cur.take 4) := by rw [hW, ws]; exact get_mid W0 _ 0 _ rfl
    have hg2 : s.Strong.getD (W0.length : Int).toNat (⟨#[]⟩ : ByteArray) = std.strOf ((cur.drop 4).take 4) := by rw [hS, ss]; exact get_mid S0 _ _ _ (by rw [hl])
    have hwt := wordText (cur.take 4) (by simp; omega) (hb.take 4)
    have hz1 : ((std.strOf (cur.take 4)).size : Int) = 4 := by rw [str_size]; simp; omega
    have hz2 : ((std.strOf ((cur.drop 4).take 4)).size : Int) = 4 := by rw [str_size]; simp; omega
    have hz3 : ((std.strOf (cur.take 4) ++ std.strOf ((cur.drop 4).take 4)).size : Int) = 8 := by rw [ByteArray.size_append]; omega
    have ei : IntKind.wrap .i64 ((W0.length : Int) + 1) = (((W0 ++ [WD (cur.take 4)]).length : Nat) : Int) := by rw [w64 (by omega) (by omega)]; simp
    have h := ih (cur.drop 8) (W0 ++ [WD (cur.take 4)]) (S0 ++ [std.strOf ((cur.drop 4).take 4)]) (acc ++ (std.strOf (cur.take 4) ++ std.strOf ((cur.drop 4).take 4))) (hb.drop 8) (by simp; omega) (by rw [hW]; simp [ws]) (by rw [hS]; simp [ss]) (by simp [hl]) hw (by rw [ByteArray.size_append]; simp; omega)
    have ec : std.strOf cur = std.strOf (cur.take 4) ++ std.strOf ((cur.drop 4).take 4) ++ std.strOf (cur.drop 8) := by
      rw [← str_app, ← str_app]
      congr 1
      have e1 : (cur.drop 4).take 4 ++ cur.drop 8 = cur.drop 4 := by
        have : cur.drop 8 = (cur.drop 4).drop 4 := by rw [List.drop_drop]
        rw [this]; exact List.take_append_drop _ _
      rw [List.append_assoc, e1, List.take_append_drop]
    rw [ec, ← ByteArray.append_assoc]
    refine Ev.step (fun k => ?_) h
    simp only [impl_sigText.l0, hg1, hg2, hwt, bnd, ei]
    simp (disch := omega) only [if_pos]
/-- Signatures are read alike, and their text is what they were read from. -/
theorem getSig (l : List Int) (hl : Byt l) (hll : l.length ≤ 1048576) : ∃ r : GSig × Bool, Ev (fun k => spec_GetSig.f k l) r ∧ Ev (fun k => impl_readSig.f k (std.strOf l)) r ∧
    (r.2 = false → r = sig0) ∧ (r.2 = true → sok r.1 = true ∧ Ev (fun k => impl_sigText.f k r.1) (std.strOf l)) := by
  -- one number more
  have stepS : ∀ (cur : List Int) (x5 : List Int), Byt cur → cur.length ≤ 1048576 → (x5.length : Int) < 3 → (gv cur = (0, 0) → Ev (fun k => spec_GetSig.l0 k cur x5) sig0) ∧
      ∀ (n : Nat) (t : List Int), gv cur = ((n : Int), ((dg n).length : Int)) → cur = dg n ++ t → ∀ v, Ev (fun k => spec_GetSig.l0 k t (x5 ++ [(n : Int)])) v → Ev (fun k => spec_GetSig.l0 k cur x5) v := by
    intro cur x5 hb hcl h3
    have hgv := getVar cur hb (by omega)
    refine ⟨fun h0 => ?_, fun n t h1 h2 v hv => ?_⟩
    · rw [h0] at hgv
      refine Ev.step (fun k => ?_) (Ev.bind hgv (g := fun k r6 => (if r6.2 = 0 then (some sig0) else (if (((x5.length : Int) + ([r6.1].length : Int)) * 8) ≤ 140737488351232 then (if 0 ≤ r6.2 then (if r6.2 ≤ (cur.length : Int) then (if (cur.length : Int) ≤ (cur.length : Int) then (spec_GetSig.l0 k (std.ext cur r6.2 (cur.length : Int)) (x5 ++ [r6.1])) else none) else none) else none) else none))) (Ev.ret fun k => by simp))
      simp only [spec_GetSig.l0, if_pos h3]
      rfl
    · rw [h1] at hgv
      have hp := dg_pos n
      have hcl2 : cur.length = (dg n).length + t.length := by rw [h2]; simp
      have hx : std.ext cur ((dg n).length : Int) (cur.length : Int) = t := by rw [ext_drop, h2]; simp
      refine Ev.step (fun k => ?_) (Ev.bind hgv (g := fun k r6 => (if r6.2 = 0 then (some sig0) else (if (((x5.length : Int) + ([r6.1].length : Int)) * 8) ≤ 140737488351232 then (if 0 ≤ r6.2 then (if r6.2 ≤ (cur.length : Int) then (if (cur.length : Int) ≤ (cur.length : Int) then (spec_GetSig.l0 k (std.ext cur r6.2 (cur.length : Int)) (x5 ++ [r6.1])) else none) else none) else none) else none))) (hv.congr fun k => ?_))
      · simp only [spec_GetSig.l0, if_pos h3]
        rfl
      · have hz1 : (([(n : Int)] : List Int).length : Int) = 1 := rfl
        simp only [hx]
        simp (disch := omega) only [if_neg, if_pos]
  have hbt : ∀ (n : Nat) (cur t : List Int), Byt cur → cur = dg n ++ t → Byt t := fun n cur t hb e x hx => hb x (by rw [e]; simp [hx])
  have hlt : ∀ (n : Nat) (cur t : List Int), cur = dg n ++ t → t.length ≤ cur.length := fun n cur t e => by rw [e]; simp
  have numG : ∀ (n : Nat) (cur t : List Int), gv cur = ((n : Int), ((dg n).length : Int)) → cur = dg n ++ t → num cur = ((n : Int), ⟨std.strOf t, false⟩) := by
    intro n cur t h1 h2
    have hp := dg_pos n
    unfold num
    rw [h1]
    simp only
    rw [if_neg (by omega)]
    have : cur.drop (((dg n).length : Nat) : Int).toNat = t := by rw [h2]; simp
    rw [this]
  have numB : ∀ (cur : List Int), gv cur = (0, 0) → num cur = (0, ⟨std.strOf cur, true⟩) := by
    intro cur h
    unfold num
    rw [h]; rfl
  have fail : ∀ (h1 : Ev (fun k => spec_GetSig.f k l) sig0) (h2 : Ev (fun k => impl_readSig.f k (std.strOf l)) sig0), ∃ r : GSig × Bool, Ev (fun k => spec_GetSig.f k l) r ∧ Ev (fun k => impl_readSig.f k (std.strOf l)) r ∧
    (r.2 = false → r = sig0) ∧ (r.2 = true → sok r.1 = true ∧ Ev (fun k => impl_sigText.f k r.1) (std.strOf l)) := fun h1 h2 => ⟨sig0, h1, h2, fun _ => rfl, fun e => by cases e⟩
  have n1 := number l hl
  rcases gv_spec l hl with g1 | ⟨a, l1, g1, ga, gl1⟩
  · refine fail ((stepS l [] hl hll (by decide)).1 g1) ?_
    rw [numB l g1] at n1
    refine Ev.bind n1 (Ev.bind (number_bad l hl) (Ev.bind (number_bad l hl) (implBad _ _ _ _ _ _ _)))
  · have hb1 := hbt a l l1 hl gl1
    have hl1 := hlt a l l1 gl1
    rw [numG a l l1 g1 gl1] at n1
    have n2 := number l1 hb1
    rcases gv_spec l1 hb1 with g2 | ⟨b, l2, g2, gb, gl2⟩
    · refine fail ((stepS l [] hl hll (by decide)).2 a l1 g1 gl1 _ ((stepS l1 _ hb1 (by omega) (by simp)).1 g2)) ?_
      rw [numB l1 g2] at n2
      exact Ev.bind n1 (Ev.bind n2 (Ev.bind (number_bad l1 hb1) (implBad _ _ _ _ _ _ _)))
    · have hb2 := hbt b l1 l2 hb1 gl2
      have hl2 := hlt b l1 l2 gl2
      rw [numG b l1 l2 g2 gl2] at n2
      have n3 := number l2 hb2
      rcases gv_spec l2 hb2 with g3 | ⟨n, R, g3, gn, gl3⟩
      · refine fail ((stepS l [] hl hll (by decide)).2 a l1 g1 gl1 _ ((stepS l1 _ hb1 (by omega) (by simp)).2 b l2 g2 gl2 _ ((stepS l2 _ hb2 (by omega) (by simp)).1 g3))) ?_
        rw [numB l2 g3] at n3
        exact Ev.bind n1 (Ev.bind n2 (Ev.bind n3 (implBad _ _ _ _ _ _ _)))
      · have hbR := hbt n l2 R hb2 gl3
        have hlR := hlt n l2 R gl3
        rw [numG n l2 R g3 gl3] at n3
        have himp : Ev (fun k => impl_readSig.f k (std.strOf l)) (if n ≤ 2500 ∧ R.length = 8 * n then fins ⟨(a : Int), (b : Int), ws n R, ss n R⟩ else sig0) := by
          refine Ev.bind n1 (Ev.bind n2 (Ev.bind n3 ?_))
          exact implWords ((a : Int), ⟨std.strOf l1, false⟩) ((b : Int), ⟨std.strOf l2, false⟩) ((n : Int), ⟨std.strOf R, false⟩) n rfl 2501 0 R [] [] rfl (Nat.zero_le _) hbR (by omega) rfl rfl
        have hspec : Ev (fun k => spec_GetSig.f k l) (if n ≤ 2500 ∧ R.length = 8 * n then fins ⟨(a : Int), (b : Int), ws n R, ss n R⟩ else sig0) := by
          refine (stepS l [] hl hll (by decide)).2 a l1 g1 gl1 _ ((stepS l1 _ hb1 (by omega) (by simp)).2 b l2 g2 gl2 _ ((stepS l2 _ hb2 (by omega) (by simp)).2 n R g3 gl3 _ ?_))
          have hx3 : (([] ++ [(a : Int)] ++ [(b : Int)] ++ [(n : Int)] : List Int)) = [(a : Int), (b : Int), (n : Int)] := rfl
          rw [hx3]
          have g0 : ([(a : Int), (b : Int), (n : Int)] : List Int).getD (Int.toNat 2) 0 = n := rfl
          have hz : (([(a : Int), (b : Int), (n : Int)] : List Int).length : Int) = 3 := rfl
          by_cases c1 : n ≤ 2500
          · have e8 : IntKind.wrap .i64 (8 * (n : Int)) = 8 * (n : Int) := w64 (by omega) (by omega)
            by_cases c2 : R.length = 8 * n
            · rw [if_pos ⟨c1, c2⟩]
              refine Ev.step (fun k => ?_) (specWords R hbR n c2 c1 [(a : Int), (b : Int), (n : Int)] n 0 [] [] (by omega) rfl rfl)
              simp only [spec_GetSig.l0, hz, g0, e8]
              simp (disch := omega) only [if_neg, if_pos]
              rfl
            · rw [if_neg (fun e => c2 e.2)]
              refine Ev.at fun k => ?_
              simp only [spec_GetSig.l0, hz, g0, e8]
              simp (disch := omega) only [if_neg, if_pos]
              rfl
          · rw [if_neg (fun e => c1 e.1)]
            refine Ev.at fun k => ?_
            simp only [spec_GetSig.l0, hz, g0]
            simp (disch := omega) only [if_neg, if_pos]
            rfl
        refine ⟨_, hspec, himp, ?_, ?_⟩
        · intro e
          split at e
          · rename_i hq
            rw [if_pos hq]
            unfold fins at e ⊢
            split at e
            · cases e
            · rename_i hs; rw [if_neg hs]
          · rename_i hq; rw [if_neg hq]
        · intro e
          split at e
          · rename_i hq
            rw [if_pos hq]
            unfold fins at e ⊢
            split at e
            · rename_i hs
              rw [if_pos hs]
              refine ⟨hs, ?_⟩
              have ta := varText a ga
              have tb := varText b gb
              have tn := varText n gn
              have la := dg_len10 a ga
              have lb := dg_len10 b gb
              have ln := dg_len10 n gn
              have za := str_size (dg a)
              have zb := str_size (dg b)
              have zn := str_size (dg n)
              have hL := sigTextL ⟨(a : Int), (b : Int), ws n R, ss n R⟩ n R [] [] (std.strOf (dg a) ++ std.strOf (dg b) ++ std.strOf (dg n)) hbR hq.2 rfl rfl rfl (by show (ws n R).length ≤ _; rw [ws_len]; omega) (by simp only [ByteArray.size_append]; omega)
              have el : std.strOf l = std.strOf (dg a) ++ std.strOf (dg b) ++ std.strOf (dg n) ++ std.strOf R := by
                rw [← str_app, ← str_app, ← str_app, gl1, gl2, gl3]; simp
              rw [el]
              simp only [impl_sigText.f, ws_len]
              refine Ev.bind ta (Ev.bind tb ?_)
              simp (disch := omega) only [if_pos]
              refine Ev.bind tn ?_
              have z1 : ((std.strOf (dg a) ++ std.strOf (dg b)).size : Int) + ((std.strOf (dg n)).size : Int) ≤ 140737488351232 := by rw [ByteArray.size_append]; omega
              simp only [if_pos z1]
              exact hL
            · cases e
          · cases e
end Go.I

/-! IP5 -/
set_option linter.unusedVariables false
set_option linter.unusedSimpArgs false
set_option maxRecDepth 100000
set_option maxHeartbeats 4000000
namespace Go.I
open Go
/-! ### tokens -/
def tok (x : GToken) : Bool := if x.Kind = 0 then decide (1 ≤ (x.Data.size : Int) ∧ (x.Data.size : Int) ≤ 100 ∧ x.From = 0 ∧ x.Count = 0) else if x.Kind = 1 then decide (x.Data = (⟨#[]⟩ : ByteArray) ∧ 0 ≤ x.From ∧ 1 ≤ x.Count) else false
theorem specTok (x : GToken) : spec_TokenOk.f x = some (tok x) := by
  simp only [spec_TokenOk.f, spec_l01In.f, tok]
  by_cases h0 : x.Kind = 0
  · rw [if_pos h0, if_pos h0]
    by_cases h1 : 1 ≤ (x.Data.size : Int)
    · rw [if_pos h1, bnd]
      by_cases h2 : (x.Data.size : Int) ≤ 100
      · rw [if_pos (decide_eq_true h2)]
        by_cases h3 : x.From = 0
        · rw [if_pos h3]; simp [h1, h2, h3]
        · rw [if_neg h3]; simp [h3]
      · rw [if_neg (by simpa using h2)]; simp [h2]
    · rw [if_neg h1, bnd, if_neg (by decide)]; simp [h1]
  · rw [if_neg h0, if_neg h0]
    by_cases h1 : x.Kind = 1
    · rw [if_pos h1, if_pos h1]
      by_cases h2 : x.Data = (⟨#[]⟩ : ByteArray)
      · rw [if_pos h2]
        by_cases h3 : 0 ≤ x.From
        · rw [if_pos h3]; simp [h2, h3]
        · rw [if_neg h3]; simp [h3]
      · rw [if_neg h2]; simp [h2]
    · rw [if_neg h1, if_neg h1]
theorem implTok (x : GToken) : impl_TokenOk.f x = some (tok x) := by
  rw [← specTok]
  rfl
def good (x : GToken) : Bool := tok x && decide (x.Count ≤ 1000000) && decide (x.From ≤ 1000000)
theorem implBadTok (x : GToken) : impl_tokensText_1.f x = some (!good x) := by
  simp only [impl_tokensText_1.f, implTok, bnd, good]
  cases tok x with
  | false => simp
  | true =>
    simp only [if_true, Bool.true_and]
    by_cases h : 1000000 < x.Count
    · rw [if_pos h]
      have : ¬ x.Count ≤ 1000000 := by omega
      simp [this]
    · rw [if_neg h]
      have h1 : x.Count ≤ 1000000 := by omega
      by_cases h2 : x.From ≤ 1000000
      · have h3 : ¬ 1000000 < x.From := by omega
        simp [h1, h2, h3]
      · have h3 : 1000000 < x.From := by omega
        simp [h1, h2, h3]
theorem good_spec {x : GToken} (h : good x = true) : (x.Kind = 0 ∧ 1 ≤ x.Data.size ∧ x.Data.size ≤ 100) ∨ (x.Kind = 1 ∧ ¬ x.Kind = 0 ∧ 0 ≤ x.From ∧ x.From ≤ 1000000 ∧ 1 ≤ x.Count ∧ x.Count ≤ 1000000) := by
  simp only [good, Bool.and_eq_true, decide_eq_true_eq] at h
  obtain ⟨⟨h1, h2⟩, h3⟩ := h
  unfold tok at h1
  split at h1
  · rename_i h0
    simp only [decide_eq_true_eq] at h1
    exact .inl ⟨h0, by omega, by omega⟩
  · rename_i h0
    split at h1
    · rename_i h4
      simp only [decide_eq_true_eq] at h1
      exact .inr ⟨h4, h0, h1.2.1, h3, h1.2.2, h2⟩
    · cases h1
theorem good_le {x : GToken} (h : good x = true) : tok x = true ∧ ¬ 1000000 < x.From ∧ ¬ 1000000 < x.Count := by
  simp only [good, Bool.and_eq_true, decide_eq_true_eq] at h
  exact ⟨h.1.1, by omega, by omega⟩
theorem bytesOf_len (s : ByteArray) : (std.bytesOf s).length = s.size := by
  show (s.data.toList.map fun b => (b.toNat : Int)).length = s.data.size
  rw [List.length_map, Array.length_toList]
theorem strOf_bytesOf (s : ByteArray) : std.strOf (std.bytesOf s) = s := by
  apply ByteArray.ext
  apply Array.toList_inj.1
  show ((s.data.toList.map fun b => (b.toNat : Int)).map fun n => UInt8.ofNat n.toNat) = _
  rw [List.map_map]
  exact (List.map_congr_left (fun b _ => by simp)).trans (List.map_id _)
theorem bytesOf_byt (s : ByteArray) : Byt (std.bytesOf s) := by
  intro x hx
  have hx : x ∈ s.data.toList.map fun b => (b.toNat : Int) := hx
  obtain ⟨b, _, rfl⟩ := List.mem_map.1 hx
  have := b.toNat_lt
  omega
theorem bytesOf_strOf (l : List Int) (h : Byt l) : std.bytesOf (std.strOf l) = l := str_inj (bytesOf_byt _) h (strOf_bytesOf _)
/-- A token's bytes. -/
def te (x : GToken) : List Int := if x.Kind = 0 then dg (2 * x.Data.size) ++ std.bytesOf x.Data else dg (2 * x.Count + 1).toNat ++ dg x.From.toNat
def enc : List GToken → List Int
  | [] => []
  | x :: t => te x ++ enc t
theorem enc_app (a b : List GToken) : enc (a ++ b) = enc a ++ enc b := by
  induction a with
  | nil => rfl
  | cons x t ih => simp [enc, ih]
def goods (l : List GToken) : Bool := l.all good
theorem te_len {x : GToken} (h : good x = true) : (te x).length ≤ 110 := by
  unfold te
  rcases good_spec h with ⟨h0, h1, h2⟩ | ⟨h0, h1, h2, h3, h4, h5⟩
  · rw [if_pos h0]
    have := dg_len10 (2 * x.Data.size) (by omega)
    rw [List.length_append, bytesOf_len]
    omega
  · rw [if_neg h1]
    have := dg_len10 (2 * x.Count + 1).toNat (by omega)
    have := dg_len10 x.From.toNat (by omega)
    rw [List.length_append]
    omega
theorem enc_len (l : List GToken) (h : goods l = true) : (enc l).length ≤ 110 * l.length := by
  induction l with
  | nil => simp [enc]
  | cons x t ih =>
    simp only [goods, List.all_cons, Bool.and_eq_true] at h
    have h1 := te_len h.1
    have h2 := ih h.2
    simp only [enc, List.length_append, List.length_cons]
    omega
theorem putTokL (l : List GToken) (hl : l.length ≤ 20000) (suf : List GToken) : ∀ (pre : List GToken) (i : Int) (acc : List Int), i = pre.length → l = pre ++ suf → goods suf = true → acc.length + 110 * suf.length ≤ 100000000 → Ev (fun k => spec_PutTokens.l0 k l acc i) (acc ++ enc suf ++ [0]) := by
  induction suf with
  | nil =>
    intro pre i acc hi hs hg ha
    have h1 : l.length = pre.length := by rw [hs]; simp
    have hz : (([0] : List Int).length : Int) = 1 := rfl
    simp only [List.length_nil] at ha
    refine Ev.at fun k => ?_
    simp only [spec_PutTokens.l0, enc, List.append_nil]
    rw [if_neg (by omega), if_pos (by omega)]
  | cons x t ih =>
    intro pre i acc hi hs hg ha
    have h1 : l.length = pre.length + t.length + 1 := by rw [hs]; simp; omega
    have hgx : l.getD i.toNat (⟨0, (⟨#[]⟩ : ByteArray), 0, 0⟩ : GToken) = x := by rw [hs]; exact get_mid pre x _ t hi
    have ei : IntKind.wrap .i64 (i + 1) = i + 1 := w64 (by omega) (by omega)
    simp only [goods, List.all_cons, Bool.and_eq_true] at hg
    simp only [List.length_cons] at ha
    obtain ⟨g1, g2, g3⟩ := good_le hg.1
    have htl := te_len hg.1
    have h := ih (pre ++ [x]) (i + 1) (acc ++ te x) (by simp; omega) (by rw [hs]; simp) hg.2 (by rw [List.length_append]; omega)
    have er : acc ++ enc (x :: t) ++ [0] = acc ++ te x ++ enc t ++ [0] := by simp [enc]
    rw [er]
    have c1 : i < (l.length : Int) := by omega
    have c2 : 0 ≤ i := by omega
    have hst := specTok x
    rw [g1] at hst
    rcases good_spec hg.1 with ⟨h0, h1, h2⟩ | ⟨h0, h00, h3, h4, h5, h6⟩
    · have e2 : IntKind.wrap .i64 (2 * (x.Data.size : Int)) = ((2 * x.Data.size : Nat) : Int) := by rw [w64 (by omega) (by omega)]; omega
      have hte : te x = dg (2 * x.Data.size) ++ std.bytesOf x.Data := by unfold te; rw [if_pos h0]
      have hpv := putVar (2 * x.Data.size) (by omega)
      have hdl := dg_len10 (2 * x.Data.size) (by omega)
      have hbl := bytesOf_len x.Data
      rw [hte] at h htl ⊢
      rw [List.length_append] at htl
      refine Ev.step (fun k => ?_) (Ev.bind hpv (g := fun k r13 => (if (((acc.length : Int) + (r13.length : Int)) * 1) ≤ 140737488351232 then (if (x.Data.size : Int) ≤ 140737488351232 then (if ((((acc ++ r13).length : Int) + ((std.bytesOf x.Data).length : Int)) * 1) ≤ 140737488351232 then (spec_PutTokens.l0 k l ((acc ++ r13) ++ (std.bytesOf x.Data)) (i + 1)) else none) else none) else none)) (h.congr fun k => ?_))
      · simp only [spec_PutTokens.l0, hgx, if_pos c1, if_pos c2, hst, bnd, if_true, if_neg g2, if_neg g3, if_pos h0, e2, ei]
      · have hal : ((acc ++ dg (2 * x.Data.size)).length : Int) = acc.length + (dg (2 * x.Data.size)).length := by simp
        simp only [List.append_assoc]
        rw [if_pos (by omega), if_pos (by omega), if_pos (by omega)]
    · have e2 : IntKind.wrap .i64 (IntKind.wrap .i64 (2 * x.Count) + 1) = (((2 * x.Count + 1).toNat : Nat) : Int) := by rw [w64 (x := 2 * x.Count) (by omega) (by omega), w64 (by omega) (by omega)]; omega
      have hte : te x = dg (2 * x.Count + 1).toNat ++ dg x.From.toNat := by unfold te; rw [if_neg h00]
      have hp1 := putVar (2 * x.Count + 1).toNat (by omega)
      have hp2 := putVar x.From.toNat (by omega)
      rw [Int.toNat_of_nonneg h3] at hp2
      have hd1 := dg_len10 (2 * x.Count + 1).toNat (by omega)
      have hd2 := dg_len10 x.From.toNat (by omega)
      rw [hte] at h htl ⊢
      rw [List.length_append] at htl
      refine Ev.step (fun k => ?_) (Ev.bind hp1 (g := fun k r14 => (if (((acc.length : Int) + (r14.length : Int)) * 1) ≤ 140737488351232 then ((spec_PutVar.f k x.From).bind fun r15 => (if ((((acc ++ r14).length : Int) + (r15.length : Int)) * 1) ≤ 140737488351232 then (spec_PutTokens.l0 k l ((acc ++ r14) ++ r15) (i + 1)) else none)) else none)) ?_)
      · simp only [spec_PutTokens.l0, hgx, if_pos c1, if_pos c2, hst, bnd, if_true, if_neg g2, if_neg g3, if_neg h00, e2, ei]
      · have hal : ((acc ++ dg (2 * x.Count + 1).toNat).length : Int) = acc.length + (dg (2 * x.Count + 1).toNat).length := by simp
        have k1 : (((acc.length : Int) + ((dg (2 * x.Count + 1).toNat).length : Int)) * 1) ≤ 140737488351232 := by omega
        simp only [if_pos k1]
        refine Ev.bind hp2 (h.congr fun k => ?_)
        rw [if_pos (by omega)]
        simp only [List.append_assoc]
theorem putTok (l : List GToken) (hl : l.length ≤ 20000) (hg : goods l = true) : Ev (fun k => spec_PutTokens.f k l) (enc l ++ [0]) := by
  refine (putTokL l hl l [] 0 [] rfl rfl hg (by simp; omega)).congr fun k => ?_
  simp only [spec_PutTokens.f]
  rw [if_neg (by omega)]
theorem indexTok (l : List GToken) (hl : l.length ≤ 4611686018427387904) (suf : List GToken) : ∀ (pre : List GToken) (i : Int), i = pre.length → l = pre ++ suf → ∃ j : Int, (0 ≤ j ↔ goods suf = false) ∧ Ev (fun k => slices_IndexFunc_58.l0 k l i) j := by
  induction suf with
  | nil =>
    intro pre i hi hs
    have h1 : l.length = pre.length := by rw [hs]; simp
    refine ⟨-1, by simp [goods], Ev.at fun k => ?_⟩
    simp (disch := omega) only [slices_IndexFunc_58.l0, if_neg]
  | cons x t ih =>
    intro pre i hi hs
    have h1 : l.length = pre.length + t.length + 1 := by rw [hs]; simp; omega
    have hg : l.getD i.toNat (⟨0, (⟨#[]⟩ : ByteArray), 0, 0⟩ : GToken) = x := by rw [hs]; exact get_mid pre x _ t hi
    have ei : IntKind.wrap .i64 (i + 1) = i + 1 := w64 (by omega) (by omega)
    have c1 : i < (l.length : Int) := by omega
    have c2 : 0 ≤ i := by omega
    cases hx : good x with
    | true =>
      obtain ⟨j, hj, h⟩ := ih (pre ++ [x]) (i + 1) (by simp; omega) (by rw [hs]; simp)
      refine ⟨j, by simpa [goods, hx] using hj, Ev.step (fun k => ?_) h⟩
      simp only [slices_IndexFunc_58.l0, if_pos c1, if_pos c2, hg, implBadTok, hx, bnd, ei]
      rfl
    | false =>
      refine ⟨i, by simp [goods, hx]; omega, Ev.at fun k => ?_⟩
      simp only [slices_IndexFunc_58.l0, if_pos c1, if_pos c2, hg, implBadTok, hx, bnd]
      rfl
theorem anyTok (l : List GToken) (hl : l.length ≤ 4611686018427387904) : Ev (fun k => slices_ContainsFunc_58.f k l) (!goods l) := by
  obtain ⟨j, hj, h⟩ := indexTok l hl l [] 0 rfl rfl
  refine Ev.bind (f := fun k => slices_IndexFunc_58.f k l) h (Ev.ret fun k => ?_)
  congr 1
  cases hs : goods l with
  | false => rw [hs] at hj; simpa using hj
  | true => rw [hs] at hj; simp at hj ⊢; omega
theorem tokTextL (l : List GToken) (hl : l.length ≤ 20000) (suf : List GToken) : ∀ (pre : List GToken) (i : Int) (acc : ByteArray), i = pre.length → l = pre ++ suf → goods suf = true → acc.size + 110 * suf.length ≤ 100000000 → Ev (fun k => impl_tokensText.l0 k l acc i) (acc ++ std.strOf (enc suf ++ [0]), true) := by
  induction suf with
  | nil =>
    intro pre i acc hi hs hg ha
    have h1 : l.length = pre.length := by rw [hs]; simp
    simp only [List.length_nil] at ha
    refine Ev.at fun k => ?_
    simp only [impl_tokensText.l0, enc, List.nil_append]
    rw [if_neg (by omega), if_pos (by omega), if_pos (by omega), if_pos (by omega)]
  | cons x t ih =>
    intro pre i acc hi hs hg ha
    have h1 : l.length = pre.length + t.length + 1 := by rw [hs]; simp; omega
    have hgx : l.getD i.toNat (⟨0, (⟨#[]⟩ : ByteArray), 0, 0⟩ : GToken) = x := by rw [hs]; exact get_mid pre x _ t hi
    have ei : IntKind.wrap .i64 (i + 1) = i + 1 := w64 (by omega) (by omega)
    simp only [goods, List.all_cons, Bool.and_eq_true] at hg
    simp only [List.length_cons] at ha
    have htl := te_len hg.1
    have hsz := str_size (te x)
    have h := ih (pre ++ [x]) (i + 1) (acc ++ std.strOf (te x)) (by simp; omega) (by rw [hs]; simp) hg.2 (by rw [ByteArray.size_append]; omega)
    have er : acc ++ std.strOf (enc (x :: t) ++ [0]) = acc ++ std.strOf (te x) ++ std.strOf (enc t ++ [0]) := by
      rw [ByteArray.append_assoc, ← str_app]; simp [enc]
    rw [er]
    have c1 : i < (l.length : Int) := by omega
    have c2 : 0 ≤ i := by omega
    rcases good_spec hg.1 with ⟨h0, h1, h2⟩ | ⟨h0, h00, h3, h4, h5, h6⟩
    · have e2 : IntKind.wrap .i64 (2 * (x.Data.size : Int)) = ((2 * x.Data.size : Nat) : Int) := by rw [w64 (by omega) (by omega)]; omega
      have hte : std.strOf (te x) = std.strOf (dg (2 * x.Data.size)) ++ x.Data := by unfold te; rw [if_pos h0, str_app, strOf_bytesOf]
      have hpv := varText (2 * x.Data.size) (by omega)
      have hdl := dg_len10 (2 * x.Data.size) (by omega)
      have hz := str_size (dg (2 * x.Data.size))
      rw [hte] at h hsz ⊢
      refine Ev.step (fun k => ?_) (Ev.bind hpv (g := fun k r11 => (if ((r11.size : Int) + (x.Data.size : Int)) ≤ 140737488351232 then (if ((acc.size : Int) + ((r11 ++ x.Data).size : Int)) ≤ 140737488355328 then (impl_tokensText.l0 k l (acc ++ (r11 ++ x.Data)) (i + 1)) else none) else none)) (h.congr fun k => ?_))
      · simp only [impl_tokensText.l0, hgx, if_pos c1, if_pos c2, if_pos h0, e2, ei]
      · rw [if_pos (by omega), if_pos (by omega)]
    · have e2 : IntKind.wrap .i64 (IntKind.wrap .i64 (2 * x.Count) + 1) = (((2 * x.Count + 1).toNat : Nat) : Int) := by rw [w64 (x := 2 * x.Count) (by omega) (by omega), w64 (by omega) (by omega)]; omega
      have hte : std.strOf (te x) = std.strOf (dg (2 * x.Count + 1).toNat) ++ std.strOf (dg x.From.toNat) := by unfold te; rw [if_neg h00, str_app]
      have hp1 := varText (2 * x.Count + 1).toNat (by omega)
      have hp2 := varText x.From.toNat (by omega)
      rw [Int.toNat_of_nonneg h3] at hp2
      have hd1 := dg_len10 (2 * x.Count + 1).toNat (by omega)
      have hd2 := dg_len10 x.From.toNat (by omega)
      have hz1 := str_size (dg (2 * x.Count + 1).toNat)
      have hz2 := str_size (dg x.From.toNat)
      rw [hte] at h hsz ⊢
      refine Ev.step (fun k => ?_) (Ev.bind hp1 (g := fun k r12 => ((impl_varText.f k x.From).bind fun r13 => (if ((r12.size : Int) + (r13.size : Int)) ≤ 140737488351232 then (if ((acc.size : Int) + ((r12 ++ r13).size : Int)) ≤ 140737488355328 then (impl_tokensText.l0 k l (acc ++ (r12 ++ r13)) (i + 1)) else none) else none))) (Ev.bind hp2 (h.congr fun k => ?_)))
      · simp only [impl_tokensText.l0, hgx, if_pos c1, if_pos c2, if_neg h00, e2, ei]
      · rw [if_pos (by omega), if_pos (by omega)]
/-- The text of tokens. -/
def txt (l : List GToken) : ByteArray × Bool := if l.length ≤ 20000 ∧ goods l = true then (std.strOf (enc l ++ [0]), true) else (⟨#[]⟩, false)
theorem tokText (l : List GToken) (hl : l.length ≤ 4611686018427387904) : Ev (fun k => impl_tokensText.f k l) (txt l) := by
  unfold txt
  by_cases h : l.length ≤ 20000
  · have ha := anyTok l hl
    cases hg : goods l with
    | true =>
      rw [if_pos ⟨h, rfl⟩]
      rw [hg] at ha
      have e : std.strOf (enc l ++ [0]) = ⟨#[]⟩ ++ std.strOf (enc l ++ [0]) := by rw [← str_nil, ← str_app, List.nil_append]
      rw [e]
      have hz : (⟨#[]⟩ : ByteArray).size = 0 := rfl
      refine Ev.congr (fun k => ?_) (Ev.bind ha (g := fun k r0 => if r0 = true then (some ((⟨#[]⟩ : ByteArray), false)) else (impl_tokensText.l0 k l (⟨#[]⟩ : ByteArray) 0)) (tokTextL l h l [] 0 ⟨#[]⟩ rfl rfl hg (by omega)))
      simp only [impl_tokensText.f]
      rw [if_neg (by omega)]
    | false =>
      rw [if_neg (fun e => by cases e.2)]
      rw [hg] at ha
      refine Ev.congr (fun k => ?_) (Ev.bind ha (g := fun k r0 => if r0 = true then (some ((⟨#[]⟩ : ByteArray), false)) else (impl_tokensText.l0 k l (⟨#[]⟩ : ByteArray) 0)) (Ev.ret fun k => rfl))
      simp only [impl_tokensText.f]
      rw [if_neg (by omega)]
  · rw [if_neg (fun e => h e.1)]
    refine Ev.ret fun k => ?_
    simp only [impl_tokensText.f]
    rw [if_pos (by omega)]
end Go.I

/-! IP6 -/
set_option linter.unusedVariables false
set_option linter.unusedSimpArgs false
set_option maxRecDepth 100000
set_option maxHeartbeats 4000000
namespace Go.I
open Go
/-! ### tokens out of bytes -/
def t0 : List GToken × Bool := ([], false)
theorem tmod2 (n : Nat) : Int.tmod (n : Int) 2 = ((n % 2 : Nat) : Int) := by rw [Int.tmod_eq_emod_of_nonneg (by omega)]; omega
theorem tdiv2 (n : Nat) (h : n ≤ 9223372036854775807) : IntKind.wrap .i64 (Int.tdiv (n : Int) 2) = ((n / 2 : Nat) : Int) := by
  rw [Int.tdiv_eq_ediv_of_nonneg (by omega), w64 (by omega) (by omega)]
  omega
/-- The impl's loop, a number having been read. -/
def St (a0 : ByteArray) (acc : List GToken) (c : List Int) (k : Nat) : Option (List GToken × Bool) := impl_readTokens.l0 k a0 acc (num c).1 (num c).2.Text (num c).2.Bad
theorem impBad (a0 : ByteArray) (acc : List GToken) (v : Int) (T : ByteArray) (ha : acc.length ≤ 4611686018427387904) : Ev (fun k => impl_readTokens.l0 k a0 acc v T true) t0 := by
  have ht := tokText acc ha
  refine Ev.step (g := fun k => (impl_tokensText.f k acc).bind fun r27 => some t0) (fun k => ?_) (Ev.bind ht (Ev.ret fun k => rfl))
  simp only [impl_readTokens.l0, if_true]
  split <;> rfl
theorem impEnd (a0 : ByteArray) (acc : List GToken) (v : Int) (T : ByteArray) (hv : v ≤ 0) (ha : acc.length ≤ 4611686018427387904) : Ev (fun k => impl_readTokens.l0 k a0 acc v T false) (if (txt acc).2 = true ∧ (txt acc).1 = a0 then (acc, true) else t0) := by
  have ht := tokText acc ha
  refine Ev.step (g := fun k => (impl_tokensText.f k acc).bind fun r28 => if r28.2 = true then (if r28.1 = a0 then some (acc, true) else some t0) else some t0) (fun k => ?_) (Ev.bind ht (Ev.ret fun k => ?_))
  · simp only [impl_readTokens.l0, Bool.false_eq_true, if_false]
    rw [if_neg (by omega)]
    rfl
  · by_cases h1 : (txt acc).2 = true
    · rw [if_pos h1]
      by_cases h2 : (txt acc).1 = a0
      · rw [if_pos h2, if_pos ⟨h1, h2⟩]
      · rw [if_neg h2, if_neg (fun e => h2 e.2)]
    · rw [if_neg h1, if_neg (fun e => h1 e.1)]
theorem impFull (a0 : ByteArray) (acc : List GToken) (n : Nat) (hn : 0 < n) (T : ByteArray) (ha : acc.length = 20000) : Ev (fun k => impl_readTokens.l0 k a0 acc (n : Int) T false) t0 := by
  refine Ev.at fun k => ?_
  simp only [impl_readTokens.l0, Bool.false_eq_true, if_false]
  rw [if_pos (by omega), if_pos (by omega)]
  rfl
/-- A token of text, and one that tells of what was. -/
theorem impEven (a0 : ByteArray) (acc : List GToken) (n : Nat) (hn : 0 < n) (hn2 : n ≤ 9223372036854775807) (t : List Int) (ht : Byt t) (ha : acc.length < 20000) (he : n % 2 = 0) :
    (100 < n / 2 → Ev (fun k => impl_readTokens.l0 k a0 acc (n : Int) (std.strOf t) false) t0) ∧ (n / 2 ≤ 100 → t.length < n / 2 → Ev (fun k => impl_readTokens.l0 k a0 acc (n : Int) (std.strOf t) false) t0) ∧
    (n / 2 ≤ 100 → n / 2 ≤ t.length → ∀ r, Ev (St a0 (acc ++ [⟨0, std.strOf (t.take (n / 2)), 0, 0⟩]) (t.drop (n / 2))) r → Ev (fun k => impl_readTokens.l0 k a0 acc (n : Int) (std.strOf t) false) r) := by
  have em := tmod2 n
  have ed := tdiv2 n hn2
  have c0 : 0 < (n : Int) := by omega
  have c1 : ¬ (acc.length : Int) = 20000 := by omega
  have c2 : ¬ (2 : Nat) = 0 := by decide
  have c3 : ((n % 2 : Nat) : Int) = 0 := by omega
  refine ⟨fun h => ?_, fun h hs => ?_, fun h hs r hr => ?_⟩
  · have c4 : ¬ ((n / 2 : Nat) : Int) ≤ 100 := by omega
    have c5 : ¬ ((n % 2 : Nat) : Int) = 1 := by omega
    refine Ev.at fun k => ?_
    simp only [impl_readTokens.l0, Bool.false_eq_true, if_false, if_pos c0, if_neg c1, if_neg c2, em, ed, if_pos c3, if_neg c4, if_neg c5]
    rfl
  · have c4 : ((n / 2 : Nat) : Int) ≤ 100 := by omega
    have h1 := take_short t ((n / 2 : Nat) : Int) (by omega)
    have hz : (([(⟨0, (⟨#[]⟩ : ByteArray), 0, 0⟩ : GToken)] : List GToken).length : Int) = 1 := rfl
    have cb : (((acc.length : Int) + ([(⟨0, (⟨#[]⟩ : ByteArray), 0, 0⟩ : GToken)].length : Int)) * 40) ≤ 140737488351232 := by omega
    refine Ev.step (g := fun k => (impl_reader_number.f k ⟨std.strOf t, true⟩).bind fun r22 => impl_readTokens.l0 k a0 (acc ++ [⟨0, ⟨#[]⟩, 0, 0⟩]) r22.1 r22.2.Text r22.2.Bad) (fun k => ?_) (Ev.bind (number_bad t ht) (impBad _ _ _ _ (by simp; omega)))
    simp only [impl_readTokens.l0, Bool.false_eq_true, if_false, if_pos c0, if_neg c1, if_neg c2, em, ed, if_pos c3, if_pos c4, h1, bnd, if_pos cb]
  · have c4 : ((n / 2 : Nat) : Int) ≤ 100 := by omega
    have h1 := take_ok t (n / 2) hs
    have hz : (([(⟨0, std.strOf (t.take (n / 2)), 0, 0⟩ : GToken)] : List GToken).length : Int) = 1 := rfl
    have cb : (((acc.length : Int) + ([(⟨0, std.strOf (t.take (n / 2)), 0, 0⟩ : GToken)].length : Int)) * 40) ≤ 140737488351232 := by omega
    have hr : Ev (fun k => impl_readTokens.l0 k a0 (acc ++ [⟨0, std.strOf (t.take (n / 2)), 0, 0⟩]) (num (t.drop (n / 2))).1 (num (t.drop (n / 2))).2.Text (num (t.drop (n / 2))).2.Bad) r := hr
    refine Ev.step (g := fun k => (impl_reader_number.f k ⟨std.strOf (t.drop (n / 2)), false⟩).bind fun r22 => impl_readTokens.l0 k a0 (acc ++ [⟨0, std.strOf (t.take (n / 2)), 0, 0⟩]) r22.1 r22.2.Text r22.2.Bad) (fun k => ?_) (Ev.bind (number _ (ht.drop _)) hr)
    simp only [impl_readTokens.l0, Bool.false_eq_true, if_false, if_pos c0, if_neg c1, if_neg c2, em, ed, if_pos c3, if_pos c4, h1, bnd, if_pos cb]
theorem impOdd (a0 : ByteArray) (acc : List GToken) (n : Nat) (hn2 : n ≤ 9223372036854775807) (t : List Int) (ht : Byt t) (ha : acc.length < 20000) (he : n % 2 = 1) :
    ∀ r, Ev (fun k => (impl_reader_number.f k (num t).2).bind fun r24 => impl_readTokens.l0 k a0 (acc ++ [⟨1, ⟨#[]⟩, (num t).1, ((n / 2 : Nat) : Int)⟩]) r24.1 r24.2.Text r24.2.Bad) r → Ev (fun k => impl_readTokens.l0 k a0 acc (n : Int) (std.strOf t) false) r := by
  intro r hr
  have em := tmod2 n
  have ed := tdiv2 n hn2
  have c0 : 0 < (n : Int) := by omega
  have c1 : ¬ (acc.length : Int) = 20000 := by omega
  have c2 : ¬ (2 : Nat) = 0 := by decide
  have c3 : ¬ ((n % 2 : Nat) : Int) = 0 := by omega
  have c5 : ((n % 2 : Nat) : Int) = 1 := by omega
  refine Ev.step (g := fun k => (impl_reader_number.f k ⟨std.strOf t, false⟩).bind fun r25 => if (((acc.length : Int) + ([(⟨1, (⟨#[]⟩ : ByteArray), r25.1, ((n / 2 : Nat) : Int)⟩ : GToken)].length : Int)) * 40) ≤ 140737488351232 then ((impl_reader_number.f k r25.2).bind fun r26 => impl_readTokens.l0 k a0 (acc ++ [⟨1, ⟨#[]⟩, r25.1, ((n / 2 : Nat) : Int)⟩]) r26.1 r26.2.Text r26.2.Bad) else none) (fun k => ?_) (Ev.bind (number t ht) (hr.congr fun k => ?_))
  · simp only [impl_readTokens.l0, Bool.false_eq_true, if_false, if_pos c0, if_neg c1, if_neg c2, em, ed, if_neg c3, if_pos c5]
  · have hz : (([(⟨1, (⟨#[]⟩ : ByteArray), (num t).1, ((n / 2 : Nat) : Int)⟩ : GToken)] : List GToken).length : Int) = 1 := rfl
    rw [if_pos (by omega)]
theorem num_ok {c t : List Int} {n : Nat} (h1 : gv c = ((n : Int), ((dg n).length : Int))) (h2 : c = dg n ++ t) : num c = ((n : Int), ⟨std.strOf t, false⟩) := by
  have hp := dg_pos n
  unfold num
  rw [h1]
  simp only
  rw [if_neg (by omega)]
  have : c.drop (((dg n).length : Nat) : Int).toNat = t := by rw [h2]; simp
  rw [this]
theorem num_no {c : List Int} (h : gv c = (0, 0)) : num c = (0, ⟨std.strOf c, true⟩) := by
  unfold num
  rw [h]; rfl
theorem goods_app (a : List GToken) (x : GToken) : goods (a ++ [x]) = (goods a && good x) := by simp [goods]
/-- A wrong token among them: nothing comes of it. -/
theorem impWrong (a0 : ByteArray) (m : Nat) : ∀ (c : List Int) (acc : List GToken), c.length = m → Byt c → acc.length ≤ 20000 → goods acc = false → Ev (St a0 acc c) t0 := by
  induction m using Nat.strongRecOn with
  | _ m ih =>
    intro c acc hm hb ha hg
    have hal : acc.length ≤ 4611686018427387904 := by omega
    have htx : (txt acc).2 = false := by unfold txt; rw [if_neg (fun e => by rw [hg] at e; cases e.2)]
    unfold St
    rcases gv_spec c hb with h | ⟨n, t, h1, h2, h3⟩
    · rw [num_no h]; exact impBad _ _ _ _ hal
    · rw [num_ok h1 h3]
      have hbt : Byt t := fun x hx => hb x (by rw [h3]; simp [hx])
      have hp := dg_pos n
      have hlt : t.length < m := by rw [← hm, h3, List.length_append]; omega
      by_cases hn : n = 0
      · subst hn
        have := impEnd a0 acc 0 (std.strOf t) (by decide) hal
        rw [if_neg (fun e => by rw [htx] at e; cases e.1)] at this
        exact this
      · by_cases hf : acc.length = 20000
        · exact impFull a0 acc n (by omega) _ hf
        · by_cases he : n % 2 = 0
          · obtain ⟨k1, k2, k3⟩ := impEven a0 acc n (by omega) h2 t hbt (by omega) he
            by_cases hl : n / 2 ≤ 100
            · by_cases hs : n / 2 ≤ t.length
              · exact k3 hl hs _ (ih (t.drop (n / 2)).length (by simp; omega) _ _ rfl (hbt.drop _) (by simp; omega) (by rw [goods_app, hg]; rfl))
              · exact k2 hl (by omega)
            · exact k1 (by omega)
          · refine impOdd a0 acc n h2 t hbt (by omega) (by omega) _ ?_
            rcases gv_spec t hbt with g | ⟨w, u, g1, g2, g3⟩
            · rw [num_no g]
              exact Ev.bind (number_bad t hbt) (impBad _ _ _ _ (by simp; omega))
            · rw [num_ok g1 g3]
              have hbu : Byt u := fun x hx => hbt x (by rw [g3]; simp [hx])
              refine Ev.bind (number u hbu) ?_
              exact ih u.length (by have := dg_pos w; rw [g3, List.length_append] at hlt; omega) u _ rfl hbu (by simp; omega) (by rw [goods_app, hg]; rfl)
def G14 (acc : List GToken) (t : List Int) (m : Int) (k : Nat) (r14 : Int × Int) : Option (List GToken × Bool) := (if r14.2 = 0 then (some (([] : List GToken), false)) else (if 2 = 0 then none else (if 0 ≤ r14.2 then (if r14.2 ≤ (t.length : Int) then (if (t.length : Int) ≤ (t.length : Int) then ((spec_TokenOk.f (⟨1, (⟨#[]⟩ : ByteArray), r14.1, m⟩ : GToken)).bind fun r15 => (if r15 = true then (if 1000000 < r14.1 then (some (([] : List GToken), false)) else (if 1000000 < m then (some (([] : List GToken), false)) else (if (((acc.length : Int) + ([(⟨1, (⟨#[]⟩ : ByteArray), r14.1, m⟩ : GToken)].length : Int)) * 40) ≤ 140737488351232 then (spec_GetTokens.l0 k (std.ext t r14.2 (t.length : Int)) (acc ++ [(⟨1, (⟨#[]⟩ : ByteArray), r14.1, m⟩ : GToken)])) else none))) else (some (([] : List GToken), false)))) else none) else none) else none)))
/-! the spec's loop -/
theorem spOne (cur : List Int) (acc : List GToken) (hb : Byt cur) (hl : cur.length ≤ 1048576) (ha : acc.length ≤ 2000000) :
    (gv cur = (0, 0) → Ev (fun k => spec_GetTokens.l0 k cur acc) t0) ∧ ∀ (n : Nat) (t : List Int), gv cur = ((n : Int), ((dg n).length : Int)) → cur = dg n ++ t → n ≤ 9223372036854775807 →
      (n = 0 → Ev (fun k => spec_GetTokens.l0 k cur acc) (if t = [] ∧ acc.length ≤ 20000 then (acc, true) else t0)) ∧
      (0 < n → n % 2 = 0 → (t.length < n / 2 ∨ 100 < n / 2) → Ev (fun k => spec_GetTokens.l0 k cur acc) t0) ∧
      (0 < n → n % 2 = 0 → n / 2 ≤ t.length → n / 2 ≤ 100 → ∀ r, Ev (fun k => spec_GetTokens.l0 k (t.drop (n / 2)) (acc ++ [⟨0, std.strOf (t.take (n / 2)), 0, 0⟩])) r → Ev (fun k => spec_GetTokens.l0 k cur acc) r) ∧
      (n % 2 = 1 → gv t = (0, 0) → Ev (fun k => spec_GetTokens.l0 k cur acc) t0) ∧
      (n % 2 = 1 → ∀ (w : Nat) (u : List Int), gv t = ((w : Int), ((dg w).length : Int)) → t = dg w ++ u → (good ⟨1, ⟨#[]⟩, (w : Int), ((n / 2 : Nat) : Int)⟩ = false → Ev (fun k => spec_GetTokens.l0 k cur acc) t0) ∧
        (good ⟨1, ⟨#[]⟩, (w : Int), ((n / 2 : Nat) : Int)⟩ = true → ∀ r, Ev (fun k => spec_GetTokens.l0 k u (acc ++ [⟨1, ⟨#[]⟩, (w : Int), ((n / 2 : Nat) : Int)⟩])) r → Ev (fun k => spec_GetTokens.l0 k cur acc) r)) := by
  have hgv := getVar cur hb (by omega)
  refine ⟨fun h => ?_, fun n t h1 h3 h2 => ?_⟩
  · rw [h] at hgv
    obtain ⟨K, hK⟩ := hgv
    refine ⟨K + 1, fun k hk => ?_⟩
    obtain ⟨j, rfl⟩ : ∃ j, k = j + 1 := ⟨k - 1, by omega⟩
    have hK' : spec_GetVar.f j cur = some (0, 0) := hK j (by omega)
    simp only [spec_GetTokens.l0, hK', bnd, if_true]
    rfl
  · rw [h1] at hgv
    obtain ⟨K, hK⟩ := hgv
    have hK' : ∀ j, K ≤ j → spec_GetVar.f j cur = some ((n : Int), ((dg n).length : Int)) := hK
    have hp := dg_pos n
    have hbt : Byt t := fun x hx => hb x (by rw [h3]; simp [hx])
    have hlt : cur.length = (dg n).length + t.length := by rw [h3]; simp
    have hx : std.ext cur ((dg n).length : Int) (cur.length : Int) = t := by rw [ext_drop, h3]; simp
    have c1 : ¬ (((dg n).length : Nat) : Int) = 0 := by omega
    have c2 : 0 ≤ (((dg n).length : Nat) : Int) := by omega
    have c3 : (((dg n).length : Nat) : Int) ≤ (cur.length : Int) := by omega
    have c4 : (cur.length : Int) ≤ (cur.length : Int) := Int.le_refl _
    have c5 : ¬ (2 : Nat) = 0 := by decide
    have c6 : (t.length : Int) ≤ (t.length : Int) := Int.le_refl _
    have em := tmod2 n
    have ed := tdiv2 n h2
    have go : ∀ {v : List GToken × Bool} (g : Nat → Option (List GToken × Bool)), (∀ j, K ≤ j → spec_GetTokens.l0 (j + 1) cur acc = g j) → Ev g v → Ev (fun k => spec_GetTokens.l0 k cur acc) v := by
      intro v g hg hv
      obtain ⟨L, hv⟩ := hv
      refine ⟨K + L + 1, fun k hk => ?_⟩
      obtain ⟨j, rfl⟩ : ∃ j, k = j + 1 := ⟨k - 1, by omega⟩
      show spec_GetTokens.l0 (j + 1) cur acc = _
      rw [hg j (by omega), hv j (by omega)]
    refine ⟨fun hn => ?_, fun hn he hs => ?_, fun hn he hs hl r hr => ?_, fun he hg => ?_, fun he w u g1 g3 => ?_⟩
    · refine go (fun _ => some _) (fun j hj => ?_) (Ev.ret fun _ => rfl)
      subst hn
      have cz : ((0 : Nat) : Int) = 0 := rfl
      simp only [spec_GetTokens.l0, hK' j hj, bnd, if_neg c1, if_pos c2, if_pos c3, if_pos c4, hx, if_pos cz]
      by_cases ht : t = []
      · have cl : ((t.length : Nat) : Int) = 0 := by rw [ht]; rfl
        rw [if_pos cl]
        by_cases h20 : acc.length ≤ 20000
        · rw [if_neg (by omega), if_pos ⟨ht, h20⟩]
        · rw [if_pos (by omega), if_neg (fun e => h20 e.2)]; rfl
      · have cl : ¬ ((t.length : Nat) : Int) = 0 := by have := List.length_pos_iff.2 ht; omega
        rw [if_neg cl, if_neg (fun e => ht e.1)]; rfl
    · refine go (fun _ => some t0) (fun j hj => ?_) (Ev.ret fun _ => rfl)
      have cn : ¬ (n : Int) = 0 := by omega
      have ce : ((n % 2 : Nat) : Int) = 0 := by omega
      simp only [spec_GetTokens.l0, hK' j hj, bnd, if_neg c1, if_pos c2, if_pos c3, if_pos c4, hx, if_neg cn, if_neg c5, em, ed, if_pos ce]
      by_cases hs1 : t.length < n / 2
      · rw [if_pos (by omega)]; rfl
      · have cs : ¬ (t.length : Int) < ((n / 2 : Nat) : Int) := by omega
        have cs2 : ((n / 2 : Nat) : Int) ≤ (t.length : Int) := by omega
        have ch : 0 ≤ ((n / 2 : Nat) : Int) := by omega
        have c00 : (0 : Nat) ≤ 0 := Nat.le_refl _
        have htk : std.ext t 0 ((n / 2 : Nat) : Int) = t.take (n / 2) := by
          have h := ext_at t 0 (n / 2) (i := 0) (j := ((n / 2 : Nat) : Int)) rfl (by omega)
          rw [List.drop_zero] at h
          exact h
        have hst := specTok ⟨0, std.strOf (t.take (n / 2)), 0, 0⟩
        have htf : tok ⟨0, std.strOf (t.take (n / 2)), 0, 0⟩ = false := by
          unfold tok
          rw [if_pos rfl]
          refine decide_eq_false fun e => ?_
          have e2 := e.2.1
          simp only [str_size, List.length_take] at e2
          omega
        rw [htf] at hst
        simp only [if_neg cs, if_pos c00, if_pos ch, if_pos cs2, if_pos c6, htk, hst, bnd, Bool.false_eq_true, if_false]
        rfl
    · refine go (fun k => spec_GetTokens.l0 k (t.drop (n / 2)) (acc ++ [⟨0, std.strOf (t.take (n / 2)), 0, 0⟩])) (fun j hj => ?_) hr
      have cn : ¬ (n : Int) = 0 := by omega
      have ce : ((n % 2 : Nat) : Int) = 0 := by omega
      have cs : ¬ (t.length : Int) < ((n / 2 : Nat) : Int) := by omega
      have cs2 : ((n / 2 : Nat) : Int) ≤ (t.length : Int) := by omega
      have ch : 0 ≤ ((n / 2 : Nat) : Int) := by omega
      have c00 : (0 : Nat) ≤ 0 := Nat.le_refl _
      have htk : std.ext t 0 ((n / 2 : Nat) : Int) = t.take (n / 2) := by
          have h := ext_at t 0 (n / 2) (i := 0) (j := ((n / 2 : Nat) : Int)) rfl (by omega)
          rw [List.drop_zero] at h
          exact h
      have htd : std.ext t ((n / 2 : Nat) : Int) (t.length : Int) = t.drop (n / 2) := ext_drop t (n / 2)
      have hst := specTok ⟨0, std.strOf (t.take (n / 2)), 0, 0⟩
      have htf : tok ⟨0, std.strOf (t.take (n / 2)), 0, 0⟩ = true := by
        unfold tok
        rw [if_pos rfl]
        have e1 : (std.strOf (t.take (n / 2))).size = n / 2 := by rw [str_size, List.length_take]; omega
        refine decide_eq_true ⟨?_, ?_, rfl, rfl⟩
        · show 1 ≤ ((std.strOf (t.take (n / 2))).size : Int)
          omega
        · show ((std.strOf (t.take (n / 2))).size : Int) ≤ 100
          omega
      rw [htf] at hst
      have cm : ¬ (1000000 : Nat) < 0 := by decide
      have hz : (([(⟨0, std.strOf (t.take (n / 2)), 0, 0⟩ : GToken)] : List GToken).length : Int) = 1 := rfl
      have cb : (((acc.length : Int) + ([(⟨0, std.strOf (t.take (n / 2)), 0, 0⟩ : GToken)].length : Int)) * 40) ≤ 140737488351232 := by omega
      simp only [spec_GetTokens.l0, hK' j hj, bnd, if_neg c1, if_pos c2, if_pos c3, if_pos c4, hx, if_neg cn, if_neg c5, em, ed, if_pos ce, if_neg cs, if_pos c00, if_pos ch, if_pos cs2, if_pos c6, htk, htd, hst, if_true, if_neg cm, if_pos cb]
    · have hgt := getVar t hbt (by omega)
      rw [hg] at hgt
      have cn : ¬ (n : Int) = 0 := by omega
      have ce : ¬ ((n % 2 : Nat) : Int) = 0 := by omega
      refine go (fun k => (spec_GetVar.f k t).bind (G14 acc t ((n / 2 : Nat) : Int) k)) (fun j hj => ?_) (Ev.bind hgt (Ev.ret fun k => if_pos rfl))
      simp only [spec_GetTokens.l0, hK' j hj, bnd, if_neg c1, if_pos c2, if_pos c3, if_pos c4, hx, if_neg cn, if_neg c5, em, ed, if_neg ce]
      rfl
    · have hgt := getVar t hbt (by omega)
      rw [g1] at hgt
      have cn : ¬ (n : Int) = 0 := by omega
      have ce : ¬ ((n % 2 : Nat) : Int) = 0 := by omega
      have hpw := dg_pos w
      have hlw : t.length = (dg w).length + u.length := by rw [g3]; simp
      have d1 : ¬ (((dg w).length : Nat) : Int) = 0 := by omega
      have d2 : 0 ≤ (((dg w).length : Nat) : Int) := by omega
      have d3 : (((dg w).length : Nat) : Int) ≤ (t.length : Int) := by omega
      have hxu : std.ext t ((dg w).length : Int) (t.length : Int) = u := by rw [ext_drop, g3]; simp
      have hst := specTok ⟨1, ⟨#[]⟩, (w : Int), ((n / 2 : Nat) : Int)⟩
      have main : ∀ v, Ev (fun k => G14 acc t ((n / 2 : Nat) : Int) k ((w : Int), ((dg w).length : Int))) v → Ev (fun k => spec_GetTokens.l0 k cur acc) v := by
        intro v hv
        refine go (fun k => (spec_GetVar.f k t).bind (G14 acc t ((n / 2 : Nat) : Int) k)) (fun j hj => ?_) (Ev.bind hgt hv)
        simp only [spec_GetTokens.l0, hK' j hj, bnd, if_neg c1, if_pos c2, if_pos c3, if_pos c4, hx, if_neg cn, if_neg c5, em, ed, if_neg ce]
        rfl
      refine ⟨fun hb => main _ (Ev.ret fun k => ?_), fun hb r hr => main _ (hr.congr fun k => ?_)⟩
      · simp only [G14, if_neg d1, if_neg c5, if_pos d2, if_pos d3, if_pos c6, hst, bnd]
        cases ht : tok ⟨1, ⟨#[]⟩, (w : Int), ((n / 2 : Nat) : Int)⟩ with
        | false => rfl
        | true =>
          simp only [good, ht, Bool.true_and, Bool.and_eq_false_iff, decide_eq_false_iff_not] at hb
          simp only [if_true]
          by_cases h1 : 1000000 < (w : Int)
          · rw [if_pos h1]; rfl
          · rw [if_neg h1, if_pos (by rcases hb with hb | hb <;> omega)]; rfl
      · obtain ⟨a1, a2, a3⟩ := good_le hb
        rw [a1] at hst
        have a2 : ¬ 1000000 < (w : Int) := a2
        have a3 : ¬ 1000000 < ((n / 2 : Nat) : Int) := a3
        have hz : (([(⟨1, (⟨#[]⟩ : ByteArray), (w : Int), ((n / 2 : Nat) : Int)⟩ : GToken)] : List GToken).length : Int) = 1 := rfl
        have cb : (((acc.length : Int) + ([(⟨1, (⟨#[]⟩ : ByteArray), (w : Int), ((n / 2 : Nat) : Int)⟩ : GToken)].length : Int)) * 40) ≤ 140737488351232 := by omega
        simp only [G14, if_neg d1, if_neg c5, if_pos d2, if_pos d3, if_pos c6, hst, bnd, if_true, if_neg a2, if_neg a3, if_pos cb, hxu]
/-- More tokens than may be: nothing comes of them. -/
theorem specMany (m : Nat) : ∀ (c : List Int) (acc : List GToken), c.length = m → Byt c → c.length ≤ 1048576 → 20000 < acc.length → acc.length + c.length ≤ 2000000 → Ev (fun k => spec_GetTokens.l0 k c acc) t0 := by
  induction m using Nat.strongRecOn with
  | _ m ih =>
    intro c acc hm hb hl ha hal
    obtain ⟨s1, s2⟩ := spOne c acc hb hl (by omega)
    rcases gv_spec c hb with h | ⟨n, t, h1, h2, h3⟩
    · exact s1 h
    · obtain ⟨k1, k2, k3, k4, k5⟩ := s2 n t h1 h3 h2
      have hbt : Byt t := fun x hx => hb x (by rw [h3]; simp [hx])
      have hp := dg_pos n
      have hlt : t.length < m := by rw [← hm, h3, List.length_append]; omega
      by_cases hn : n = 0
      · have := k1 hn
        rw [if_neg (fun e => by omega)] at this
        exact this
      · by_cases he : n % 2 = 0
        · by_cases hs : t.length < n / 2 ∨ 100 < n / 2
          · exact k2 (by omega) he hs
          · exact k3 (by omega) he (by omega) (by omega) _ (ih (t.drop (n / 2)).length (by simp; omega) _ _ rfl (hbt.drop _) (by simp; omega) (by simp; omega) (by simp; omega))
        · rcases gv_spec t hbt with g | ⟨w, u, g1, g2, g3⟩
          · exact k4 (by omega) g
          · obtain ⟨q1, q2⟩ := k5 (by omega) w u g1 g3
            cases hg : good ⟨1, ⟨#[]⟩, (w : Int), ((n / 2 : Nat) : Int)⟩ with
            | false => exact q1 hg
            | true =>
              have hbu : Byt u := fun x hx => hbt x (by rw [g3]; simp [hx])
              have hpw := dg_pos w
              have hlu : t.length = (dg w).length + u.length := by rw [g3]; simp
              exact q2 hg _ (ih u.length (by omega) u _ rfl hbu (by omega) (by simp; omega) (by simp; omega))
theorem te_text (d : List Int) (hd : Byt d) : te ⟨0, std.strOf d, 0, 0⟩ = dg (2 * d.length) ++ d := by
  unfold te
  rw [if_pos rfl]
  show dg (2 * (std.strOf d).size) ++ std.bytesOf (std.strOf d) = _
  rw [str_size, bytesOf_strOf d hd]
theorem te_ref (w m : Nat) : te ⟨1, ⟨#[]⟩, (w : Int), (m : Int)⟩ = dg (2 * m + 1) ++ dg w := by
  unfold te
  rw [if_neg (by show ¬ (1 : Int) = 0; decide)]
  have e : (2 * (m : Int) + 1).toNat = 2 * m + 1 := by omega
  show dg (2 * (m : Int) + 1).toNat ++ dg ((w : Int)).toNat = _
  rw [e, Int.toNat_natCast]
/-- Tokens are read alike. -/
theorem tokJ (full : List Int) (hfull : Byt full) (m : Nat) : ∀ (c : List Int) (acc : List GToken), c.length = m → Byt c → c.length ≤ 1048576 → goods acc = true → acc.length ≤ 20000 → full = enc acc ++ c →
    ∃ r : List GToken × Bool, Ev (fun k => spec_GetTokens.l0 k c acc) r ∧ Ev (St (std.strOf full) acc c) r ∧ (r.2 = false → r = t0) ∧ (r.2 = true → goods r.1 = true ∧ r.1.length ≤ 20000 ∧ full = enc r.1 ++ [0]) := by
  induction m using Nat.strongRecOn with
  | _ m ih =>
    intro c acc hm hb hl hg ha hf
    have fail : Ev (fun k => spec_GetTokens.l0 k c acc) t0 → Ev (St (std.strOf full) acc c) t0 → ∃ r : List GToken × Bool, Ev (fun k => spec_GetTokens.l0 k c acc) r ∧ Ev (St (std.strOf full) acc c) r ∧ (r.2 = false → r = t0) ∧ (r.2 = true → goods r.1 = true ∧ r.1.length ≤ 20000 ∧ full = enc r.1 ++ [0]) :=
      fun h1 h2 => ⟨t0, h1, h2, fun _ => rfl, fun e => by cases e⟩
    obtain ⟨s1, s2⟩ := spOne c acc hb hl (by omega)
    have hal : acc.length ≤ 4611686018427387904 := by omega
    rcases gv_spec c hb with h | ⟨n, t, h1, h2, h3⟩
    · refine fail (s1 h) ?_
      unfold St
      rw [num_no h]; exact impBad _ _ _ _ hal
    · obtain ⟨k1, k2, k3, k4, k5⟩ := s2 n t h1 h3 h2
      have hbt : Byt t := fun x hx => hb x (by rw [h3]; simp [hx])
      have hp := dg_pos n
      have hlt : t.length < m := by rw [← hm, h3, List.length_append]; omega
      have hst : St (std.strOf full) acc c = fun k => impl_readTokens.l0 k (std.strOf full) acc (n : Int) (std.strOf t) false := by
        funext k
        unfold St
        rw [num_ok h1 h3]
      by_cases hn : n = 0
      · subst hn
        have hd0 : dg 0 = [0] := dg_lt (by decide)
        have he := impEnd (std.strOf full) acc 0 (std.strOf t) (by decide) hal
        have htx : txt acc = (std.strOf (enc acc ++ [0]), true) := by unfold txt; rw [if_pos ⟨ha, hg⟩]
        have hk := k1 rfl
        rw [hd0] at h3
        have hff : full = enc acc ++ [0] ++ t := by rw [hf, h3]; simp
        by_cases ht : t = []
        · rw [if_pos ⟨ht, ha⟩] at hk
          refine ⟨_, hk, ?_, fun e => (by cases e), fun _ => ⟨hg, ha, by rw [hff, ht]; simp⟩⟩
          rw [hst]
          rw [if_pos ⟨by rw [htx], by rw [htx, hff, ht, List.append_nil]⟩] at he
          exact he
        · rw [if_neg (fun e => ht e.1)] at hk
          refine fail hk ?_
          rw [hst]
          rw [if_neg (fun e => by
            have e2 := e.2
            rw [htx] at e2
            have := congrArg ByteArray.size e2
            simp only [str_size] at this
            rw [hff] at this
            simp only [List.length_append, List.length_singleton] at this
            have := List.length_pos_iff.2 ht
            omega)] at he
          exact he
      · by_cases hfl : acc.length = 20000
        · refine fail ?_ (by rw [hst]; exact impFull _ acc n (by omega) _ hfl)
          by_cases he : n % 2 = 0
          · by_cases hs : t.length < n / 2 ∨ 100 < n / 2
            · exact k2 (by omega) he hs
            · exact k3 (by omega) he (by omega) (by omega) _ (specMany _ _ _ rfl (hbt.drop _) (by simp; omega) (by simp; omega) (by simp; omega))
          · rcases gv_spec t hbt with g | ⟨w, u, g1, g2, g3⟩
            · exact k4 (by omega) g
            · obtain ⟨q1, q2⟩ := k5 (by omega) w u g1 g3
              cases hgg : good ⟨1, ⟨#[]⟩, (w : Int), ((n / 2 : Nat) : Int)⟩ with
              | false => exact q1 hgg
              | true =>
                have hbu : Byt u := fun x hx => hbt x (by rw [g3]; simp [hx])
                have hlu : t.length = (dg w).length + u.length := by rw [g3]; simp
                exact q2 hgg _ (specMany _ u _ rfl hbu (by omega) (by simp; omega) (by simp; omega))
        · by_cases he : n % 2 = 0
          · obtain ⟨i1, i2, i3⟩ := impEven (std.strOf full) acc n (by omega) h2 t hbt (by omega) he
            by_cases hs : t.length < n / 2 ∨ 100 < n / 2
            · refine fail (k2 (by omega) he hs) ?_
              rw [hst]
              by_cases hx : n / 2 ≤ 100
              · exact i2 hx (by omega)
              · exact i1 (by omega)
            · have hgx : good ⟨0, std.strOf (t.take (n / 2)), 0, 0⟩ = true := by
                simp only [good, tok, if_true, str_size, List.length_take]
                simp
                omega
              obtain ⟨r, r1, r2, r3, r4⟩ := ih (t.drop (n / 2)).length (by simp; omega) (t.drop (n / 2)) (acc ++ [⟨0, std.strOf (t.take (n / 2)), 0, 0⟩]) rfl (hbt.drop _) (by simp; omega) (by rw [goods_app, hg, hgx]; rfl) (by simp; omega) (by
                rw [enc_app, hf, h3]
                have e1 : enc [⟨0, std.strOf (t.take (n / 2)), 0, 0⟩] = dg n ++ t.take (n / 2) := by
                  simp only [enc, List.append_nil]
                  rw [te_text _ (hbt.take _)]
                  congr 2
                  rw [List.length_take]
                  omega
                rw [e1]
                simp [List.take_append_drop])
              exact ⟨r, k3 (by omega) he (by omega) (by omega) r r1, by rw [hst]; exact i3 (by omega) (by omega) r r2, r3, r4⟩
          · have io := impOdd (std.strOf full) acc n h2 t hbt (by omega) (by omega)
            rcases gv_spec t hbt with g | ⟨w, u, g1, g2, g3⟩
            · refine fail (k4 (by omega) g) ?_
              rw [hst]
              refine io _ ?_
              rw [num_no g]
              exact Ev.bind (number_bad t hbt) (impBad _ _ _ _ (by simp; omega))
            · obtain ⟨q1, q2⟩ := k5 (by omega) w u g1 g3
              have hbu : Byt u := fun x hx => hbt x (by rw [g3]; simp [hx])
              have hlu : t.length = (dg w).length + u.length := by rw [g3]; simp
              have hpw := dg_pos w
              have io' : ∀ r, Ev (St (std.strOf full) (acc ++ [⟨1, ⟨#[]⟩, (w : Int), ((n / 2 : Nat) : Int)⟩]) u) r → Ev (St (std.strOf full) acc c) r := by
                intro r hr
                rw [hst]
                refine io r ?_
                rw [num_ok g1 g3]
                exact Ev.bind (number u hbu) hr
              cases hgg : good ⟨1, ⟨#[]⟩, (w : Int), ((n / 2 : Nat) : Int)⟩ with
              | false => exact fail (q1 hgg) (io' _ (impWrong _ _ u _ rfl hbu (by simp; omega) (by rw [goods_app, hgg]; simp)))
              | true =>
                obtain ⟨r, r1, r2, r3, r4⟩ := ih u.length (by omega) u (acc ++ [⟨1, ⟨#[]⟩, (w : Int), ((n / 2 : Nat) : Int)⟩]) rfl hbu (by omega) (by rw [goods_app, hg, hgg]; rfl) (by simp; omega) (by
                  rw [enc_app, hf, h3]
                  have e1 : enc [⟨1, ⟨#[]⟩, (w : Int), ((n / 2 : Nat) : Int)⟩] = dg n ++ dg w := by
                    simp only [enc, List.append_nil]
                    rw [te_ref]
                    congr 2
                    omega
                  rw [e1, g3]
                  simp)
                exact ⟨r, q2 hgg r r1, io' r r2, r3, r4⟩
/-- Tokens out of bytes: alike, and their text is what they were read from. -/
theorem getTokens (l : List Int) (hl : Byt l) (hll : l.length ≤ 1048576) : ∃ r : List GToken × Bool, Ev (fun k => spec_GetTokens.f k l) r ∧ Ev (fun k => impl_readTokens.f k (std.strOf l)) r ∧ (r.2 = false → r = t0) ∧ (r.2 = true → goods r.1 = true ∧ r.1.length ≤ 20000 ∧ l = enc r.1 ++ [0]) := by
  obtain ⟨r, h1, h2, h3, h4⟩ := tokJ l hl l.length l [] rfl hl hll rfl (by simp) rfl
  exact ⟨r, h1, Ev.bind (number l hl) h2, h3, h4⟩
end Go.I

/-! IP7 -/
set_option linter.unusedVariables false
set_option linter.unusedSimpArgs false
set_option maxRecDepth 100000
set_option maxHeartbeats 4000000
namespace Go.I
open Go
/-! ### messages -/
def gs0 : GSig := ⟨0, 0, [], []⟩
def z0 : GMsg × Bool := (⟨0, 0, ⟨0, 0, [], []⟩, [], ⟨#[]⟩⟩, false)
def pk (p : Int) : Bool := decide (0 ≤ p ∧ p ≤ 1000)
theorem in_spec (p : Int) : spec_l01In.f p 0 1000 = some (pk p) := by
  simp only [spec_l01In.f, pk]
  by_cases h : 0 ≤ p
  · rw [if_pos h]; simp [h]
  · rw [if_neg h]; simp [h]
theorem in_impl (p : Int) : impl_within.f p 0 1000 = some (pk p) := in_spec p
theorem seq_nil : std.seq (⟨#[]⟩ : ByteArray) (⟨#[]⟩ : ByteArray) = true := by simp [std]
theorem ok_sig_spec (p : Int) (s : GSig) (hs : sok s = true) (hl : s.Strong.length ≤ 4611686018427387904) : Ev (fun k => spec_MsgOk.f k ⟨0, p, s, [], ⟨#[]⟩⟩) (pk p) := by
  have h := specOk s hl
  rw [hs] at h
  simp only [spec_MsgOk.f, in_spec, bnd]
  cases pk p with
  | false => exact Ev.ret fun k => rfl
  | true =>
    simp only [if_true]
    exact Ev.bind h (Ev.ret fun k => by simp [seq_nil])
theorem ok_sig_impl (p : Int) (s : GSig) (hs : sok s = true) (hl : s.Strong.length ≤ 4611686018427387904) : Ev (fun k => impl_MsgOk.f k ⟨0, p, s, [], ⟨#[]⟩⟩) (pk p) := by
  have h := implOk s hl
  rw [hs] at h
  have e0 : (([] : List GToken).length : Int) = 0 := rfl
  simp only [impl_MsgOk.f, in_impl, bnd]
  cases pk p with
  | false => exact Ev.ret fun k => rfl
  | true =>
    simp only [if_true, if_pos e0]
    exact Ev.bind h (Ev.ret fun k => by simp [seq_nil])
theorem nosig_spec : spec_l18NoSig.f gs0 = some true := by simp [spec_l18NoSig.f, gs0]
theorem nosig_impl : impl_Sig_isNone.f gs0 = some true := by simp [impl_Sig_isNone.f, gs0]
theorem ok_tok_spec (p : Int) (ts : List GToken) (sum : ByteArray) (hg : goods ts = true) (hl : ts.length ≤ 20000) (hs : sum.size = 16) : Ev (fun k => spec_MsgOk.f k ⟨1, p, gs0, ts, sum⟩) (pk p) := by
  have h := putTok ts hl hg
  have c1 : ¬ (1 : Int) = 0 := by decide
  simp only [spec_MsgOk.f, in_spec, bnd, if_neg c1, nosig_spec]
  cases pk p with
  | false => exact Ev.ret fun k => rfl
  | true =>
    simp only [if_true]
    refine Ev.bind h (Ev.ret fun k => ?_)
    have h0 : 0 < (enc ts ++ [0]).length := by simp
    rw [if_pos (by omega)]
    simp [hs]
theorem ok_tok_impl (p : Int) (ts : List GToken) (sum : ByteArray) (hg : goods ts = true) (hl : ts.length ≤ 20000) (hs : sum.size = 16) : Ev (fun k => impl_MsgOk.f k ⟨1, p, gs0, ts, sum⟩) (pk p) := by
  have h := tokText ts (by omega)
  have htx : txt ts = (std.strOf (enc ts ++ [0]), true) := by unfold txt; rw [if_pos ⟨hl, hg⟩]
  rw [htx] at h
  have c1 : ¬ (1 : Int) = 0 := by decide
  simp only [impl_MsgOk.f, in_impl, bnd, if_neg c1, nosig_impl]
  cases pk p with
  | false => exact Ev.ret fun k => rfl
  | true =>
    simp only [if_true]
    by_cases h0 : (ts.length : Int) = 0
    · simp only [if_pos h0]
      exact Ev.bind h (Ev.ret fun k => by simp [hs])
    · simp only [if_neg h0]
      exact Ev.bind h (Ev.ret fun k => by simp [hs])
theorem ok_two_spec (p : Int) (k : Nat) : spec_MsgOk.f k ⟨2, p, gs0, [], ⟨#[]⟩⟩ = some (pk p) := by
  have c1 : ¬ (2 : Int) = 0 := by decide
  have c2 : ¬ (2 : Int) = 1 := by decide
  simp only [spec_MsgOk.f, in_spec, bnd, if_neg c1, if_neg c2, nosig_spec]
  cases pk p with
  | false => rfl
  | true => simp [seq_nil]
theorem ok_two_impl (p : Int) (k : Nat) : impl_MsgOk.f k ⟨2, p, gs0, [], ⟨#[]⟩⟩ = some (pk p) := by
  have c1 : ¬ (2 : Int) = 0 := by decide
  have c2 : ¬ (2 : Int) = 1 := by decide
  simp only [impl_MsgOk.f, in_impl, bnd, if_neg c1, if_neg c2, nosig_impl]
  cases pk p with
  | false => rfl
  | true => simp [seq_nil]
theorem ok_no_impl (n p : Int) (k : Nat) (h0 : ¬ n = 0) (h1 : ¬ n = 1) (h2 : ¬ n = 2) : impl_MsgOk.f k ⟨n, p, gs0, [], ⟨#[]⟩⟩ = some false := by
  have e0 : (([] : List GToken).length : Int) = 0 := rfl
  simp only [impl_MsgOk.f, in_impl, bnd, if_pos e0, if_neg h0, if_neg h1, if_neg h2]
  cases pk p <;> rfl
/-- Messages are read alike. -/
theorem getMsg (l : List Int) (hl : Byt l) (hll : l.length ≤ 1048576) : ∃ r : GMsg × Bool, Ev (fun k => spec_GetMsg.f k l) r ∧ Ev (fun k => impl_GetMsg.f k l) r ∧ r.1.Sig.Weak.length ≤ 20000 ∧ r.1.Sig.Strong.length ≤ 20000 ∧ r.1.Tokens.length ≤ 20000 := by
  have fail : Ev (fun k => spec_GetMsg.f k l) z0 → Ev (fun k => impl_GetMsg.f k l) z0 → ∃ r : GMsg × Bool, Ev (fun k => spec_GetMsg.f k l) r ∧ Ev (fun k => impl_GetMsg.f k l) r ∧ r.1.Sig.Weak.length ≤ 20000 ∧ r.1.Sig.Strong.length ≤ 20000 ∧ r.1.Tokens.length ≤ 20000 :=
    fun h1 h2 => ⟨z0, h1, h2, by decide, by decide, by decide⟩
  have v1 := getVar l hl (by omega)
  have n1 := number l hl
  rcases gv_spec l hl with h | ⟨n, t, h1, hn, h3⟩
  · rw [h] at v1
    rw [num_no h] at n1
    refine fail (Ev.bind v1 (Ev.ret fun k => rfl)) ?_
    obtain ⟨r, _, hr, _⟩ := getSig l hl hll
    refine Ev.bind n1 (Ev.bind (number_bad l hl) ?_)
    simp only [if_true]
    exact Ev.bind hr (Ev.ret fun k => rfl)
  · have hbt : Byt t := fun x hx => hl x (by rw [h3]; simp [hx])
    have hp := dg_pos n
    have hlt : l.length = (dg n).length + t.length := by rw [h3]; simp
    have hx : std.ext l ((dg n).length : Int) (l.length : Int) = t := by rw [ext_drop, h3]; simp
    rw [h1] at v1
    rw [num_ok h1 h3] at n1
    have c1 : ¬ (((dg n).length : Nat) : Int) = 0 := by omega
    have c2 : 0 ≤ (((dg n).length : Nat) : Int) := by omega
    have c3 : (((dg n).length : Nat) : Int) ≤ (l.length : Int) := by omega
    have c4 : (l.length : Int) ≤ (l.length : Int) := Int.le_refl _
    have v2 := getVar t hbt (by omega)
    have n2 := number t hbt
    rcases gv_spec t hbt with g | ⟨p, R, g1, gp, g3⟩
    · rw [g] at v2
      rw [num_no g] at n2
      refine fail ?_ ?_
      · refine Ev.bind v1 ?_
        simp only [if_neg c1, if_pos c2, if_pos c3, if_pos c4, hx]
        exact Ev.bind v2 (Ev.ret fun k => rfl)
      · refine Ev.bind n1 (Ev.bind n2 ?_)
        by_cases k0 : (n : Int) = 0
        · simp only [if_pos k0]
          obtain ⟨r, _, hr, _⟩ := getSig t hbt (by omega)
          exact Ev.bind hr (Ev.ret fun k => rfl)
        · by_cases k1 : (n : Int) = 1
          · simp only [if_neg k0, if_pos k1, take_bad, bnd]
            obtain ⟨r, _, hr, _⟩ := getTokens t hbt (by omega)
            exact Ev.bind hr (Ev.ret fun k => rfl)
          · simp only [if_neg k0, if_neg k1, if_true]
            exact Ev.ret fun k => rfl
    · have hbR : Byt R := fun x hx => hbt x (by rw [g3]; simp [hx])
      have hpp := dg_pos p
      have hlR : t.length = (dg p).length + R.length := by rw [g3]; simp
      rw [g1] at v2
      rw [num_ok g1 g3] at n2
      have d1 : ¬ (((dg p).length : Nat) : Int) = 0 := by omega
      have ew : IntKind.wrap .i64 (((dg n).length : Int) + ((dg p).length : Int)) = (((dg n).length + (dg p).length : Nat) : Int) := by rw [w64 (by omega) (by omega)]; omega
      have d2 : 0 ≤ (((dg n).length + (dg p).length : Nat) : Int) := by omega
      have d3 : (((dg n).length + (dg p).length : Nat) : Int) ≤ (l.length : Int) := by omega
      have hx2 : std.ext l (((dg n).length + (dg p).length : Nat) : Int) (l.length : Int) = R := by
        rw [ext_drop, h3, g3, ← List.append_assoc]
        exact List.drop_left' (by simp)
      have ln := dg_len10 n hn
      have lp := dg_len10 p gp
      have zn := str_size (dg n)
      have zp := str_size (dg p)
      have tn := varText n hn
      have tp := varText p gp
      have el : std.strOf l = std.strOf (dg n) ++ std.strOf (dg p) ++ std.strOf R := by rw [← str_app, ← str_app, h3, g3]; simp
      have zR := str_size R
      have zl := str_size l
      have cc : ((std.strOf (dg n)).size : Int) + ((std.strOf (dg p)).size : Int) ≤ 140737488351232 := by omega
      have znp : (std.strOf (dg n) ++ std.strOf (dg p)).size = (dg n).length + (dg p).length := by rw [ByteArray.size_append, zn, zp]
      -- what is left of the spec
      have sp : ∀ v, Ev (fun k => (if (n : Int) = 0 then ((spec_GetSig.f k R).bind fun r2 => (if r2.2 = true then ((spec_MsgOk.f k (⟨n, p, r2.1, ([] : List GToken), (⟨#[]⟩ : ByteArray)⟩ : GMsg)).bind fun r3 => (if r3 = true then (some ((⟨n, p, r2.1, ([] : List GToken), (⟨#[]⟩ : ByteArray)⟩ : GMsg), true)) else (some z0))) else (some z0)))
          else (if (n : Int) = 1 then (if 16 ≤ (R.length : Int) then ((spec_GetTokens.f k (std.ext R 16 (R.length : Int))).bind fun r4 => (if r4.2 = true then ((spec_MsgOk.f k (⟨n, p, gs0, r4.1, (std.strOf (std.ext R 0 16))⟩ : GMsg)).bind fun r5 => (if r5 = true then (some ((⟨n, p, gs0, r4.1, (std.strOf (std.ext R 0 16))⟩ : GMsg), true)) else (some z0))) else (some z0))) else (some z0))
          else (if (n : Int) = 2 then (if (R.length : Int) = 0 then ((spec_MsgOk.f k (⟨n, p, gs0, ([] : List GToken), (⟨#[]⟩ : ByteArray)⟩ : GMsg)).bind fun r8 => (if r8 = true then (some ((⟨n, p, gs0, ([] : List GToken), (⟨#[]⟩ : ByteArray)⟩ : GMsg), true)) else (some z0))) else (some z0)) else (some z0))))) v → Ev (fun k => spec_GetMsg.f k l) v := by
        intro v hv
        refine Ev.bind v1 ?_
        simp only [if_neg c1, if_pos c2, if_pos c3, if_pos c4, hx]
        refine Ev.bind v2 ?_
        simp only [if_neg d1, ew, if_pos d2, if_pos d3, if_pos c4, hx2]
        refine hv.congr fun k => ?_
        by_cases k0 : (n : Int) = 0
        · simp only [if_pos k0]
          rfl
        · simp only [if_neg k0]
          by_cases k1 : (n : Int) = 1
          · simp only [if_pos k1]
            by_cases k16 : 16 ≤ (R.length : Int)
            · have q1 : (0 : Nat) ≤ 0 := Nat.le_refl _
              have q2 : (0 : Nat) ≤ 16 := by decide
              have q3 : (R.length : Int) ≤ (R.length : Int) := Int.le_refl _
              simp only [if_pos k16, if_pos q1, if_pos q2, if_pos q3]
              rfl
            · have k2 : ¬ (n : Int) = 2 := by omega
              simp only [if_neg k16, if_neg k2, Bool.false_eq_true, if_false]
              rfl
          · simp only [if_neg k1]
            by_cases k2 : (n : Int) = 2
            · simp only [if_pos k2]
              rfl
            · simp only [if_neg k2, Bool.false_eq_true, if_false]
              rfl
      have im : ∀ v, Ev (fun k => (if (n : Int) = 0 then ((impl_readSig.f k (std.strOf R)).bind fun r2 => (if r2.2 = true then ((impl_MsgOk.f k (⟨n, p, r2.1, ([] : List GToken), (⟨#[]⟩ : ByteArray)⟩ : GMsg)).bind fun r3 => (if r3 = true then ((impl_msgText.f k (⟨n, p, r2.1, ([] : List GToken), (⟨#[]⟩ : ByteArray)⟩ : GMsg)).bind fun r4 => (if r4 = (std.strOf l) then (some ((⟨n, p, r2.1, ([] : List GToken), (⟨#[]⟩ : ByteArray)⟩ : GMsg), true)) else (some z0))) else (some z0))) else (some z0)))
          else (if (n : Int) = 1 then ((impl_reader_take.f ⟨std.strOf R, false⟩ 16).bind fun r5 => ((impl_readTokens.f k r5.2.Text).bind fun r6 => (if r5.2.Bad = true then (some z0) else (if r6.2 = true then ((impl_MsgOk.f k (⟨n, p, gs0, r6.1, r5.1⟩ : GMsg)).bind fun r7 => (if r7 = true then ((impl_msgText.f k (⟨n, p, gs0, r6.1, r5.1⟩ : GMsg)).bind fun r8 => (if r8 = (std.strOf l) then (some ((⟨n, p, gs0, r6.1, r5.1⟩ : GMsg), true)) else (some z0))) else (some z0))) else (some z0)))))
          else ((impl_MsgOk.f k (⟨n, p, gs0, ([] : List GToken), (⟨#[]⟩ : ByteArray)⟩ : GMsg)).bind fun r9 => (if r9 = true then ((impl_msgText.f k (⟨n, p, gs0, ([] : List GToken), (⟨#[]⟩ : ByteArray)⟩ : GMsg)).bind fun r10 => (if r10 = (std.strOf l) then (some ((⟨n, p, gs0, ([] : List GToken), (⟨#[]⟩ : ByteArray)⟩ : GMsg), true)) else (some z0))) else (some z0)))))) v → Ev (fun k => impl_GetMsg.f k l) v := by
        intro v hv
        refine Ev.bind n1 (Ev.bind n2 (hv.congr fun k => ?_))
        by_cases k0 : (n : Int) = 0
        · simp only [if_pos k0, Bool.false_eq_true, if_false]
          rfl
        · simp only [if_neg k0, Bool.false_eq_true, if_false, if_true]
          by_cases k1 : (n : Int) = 1
          · simp only [if_pos k1]
            rfl
          · simp only [if_neg k1]
            rfl
      by_cases k0 : (n : Int) = 0
      · have hn0 : n = 0 := by omega
        subst hn0
        obtain ⟨r, r1, r2, r3, r4⟩ := getSig R hbR (by omega)
        cases hr : r.2 with
        | false =>
          refine fail (sp _ ?_) (im _ ?_)
          · simp only [if_pos k0]
            exact Ev.bind r1 (Ev.ret fun k => by rw [hr]; rfl)
          · simp only [if_pos k0]
            exact Ev.bind r2 (Ev.ret fun k => by rw [hr]; rfl)
        | true =>
          obtain ⟨q1, q2⟩ := r4 hr
          have hc : cut_ r.1 ∧ r.1.Weak.length = r.1.Strong.length := Classical.byContradiction fun e => by rw [sok_no e] at q1; cases q1
          have hw := hc.1.2.2.2.2
          have o1 := ok_sig_spec (p : Int) r.1 q1 (by omega)
          have o2 := ok_sig_impl (p : Int) r.1 q1 (by omega)
          have mt : Ev (fun k => impl_msgText.f k ⟨((0 : Nat) : Int), p, r.1, [], ⟨#[]⟩⟩) (std.strOf l) := by
            rw [el]
            simp only [impl_msgText.f]
            refine Ev.bind tn (Ev.bind tp ?_)
            simp only [if_pos cc, if_pos k0]
            refine Ev.bind q2 (Ev.ret fun k => ?_)
            rw [if_pos (by omega)]
          cases hpk : pk (p : Int) with
          | false =>
            rw [hpk] at o1 o2
            refine fail (sp _ ?_) (im _ ?_)
            · simp only [if_pos k0]
              refine Ev.bind r1 ?_
              simp only [hr, if_true]
              exact Ev.bind o1 (Ev.ret fun k => rfl)
            · simp only [if_pos k0]
              refine Ev.bind r2 ?_
              simp only [hr, if_true]
              exact Ev.bind o2 (Ev.ret fun k => rfl)
          | true =>
            rw [hpk] at o1 o2
            refine ⟨(⟨((0 : Nat) : Int), p, r.1, [], ⟨#[]⟩⟩, true), sp _ ?_, im _ ?_, by show r.1.Weak.length ≤ _; omega, by show r.1.Strong.length ≤ _; omega, by simp⟩
            · simp only [if_pos k0]
              refine Ev.bind r1 ?_
              simp only [hr, if_true]
              exact Ev.bind o1 (Ev.ret fun k => rfl)
            · simp only [if_pos k0]
              refine Ev.bind r2 ?_
              simp only [hr, if_true]
              refine Ev.bind o2 ?_
              simp only [if_true]
              refine Ev.bind mt ?_
              simp only [if_true]
              exact Ev.ret fun k => rfl
      · by_cases k1 : (n : Int) = 1
        · have hn1 : n = 1 := by omega
          subst hn1
          by_cases k16 : 16 ≤ R.length
          · have ht16 : impl_reader_take.f ⟨std.strOf R, false⟩ 16 = some (std.strOf (R.take 16), ⟨std.strOf (R.drop 16), false⟩) := take_ok R 16 k16
            have x1 : std.ext R 16 (R.length : Int) = R.drop 16 := ext_drop R 16
            have x2 : std.ext R 0 16 = R.take 16 := by
              have h := ext_at R 0 16 (i := 0) (j := 16) rfl rfl
              rw [List.drop_zero] at h
              exact h
            have k16' : 16 ≤ (R.length : Int) := by omega
            have z16 : (std.strOf (R.take 16)).size = 16 := by rw [str_size, List.length_take]; omega
            obtain ⟨r, r1, r2, r3, r4⟩ := getTokens (R.drop 16) (hbR.drop _) (by simp; omega)
            cases hr : r.2 with
            | false =>
              refine fail (sp _ ?_) (im _ ?_)
              · simp only [if_neg k0, if_pos k1, if_pos k16', x1]
                exact Ev.bind r1 (Ev.ret fun k => by rw [hr]; rfl)
              · simp only [if_neg k0, if_pos k1, ht16, bnd, Bool.false_eq_true, if_false]
                exact Ev.bind r2 (Ev.ret fun k => by rw [hr]; rfl)
            | true =>
              obtain ⟨q1, q2, q3⟩ := r4 hr
              have o1 := ok_tok_spec (p : Int) r.1 (std.strOf (R.take 16)) q1 q2 z16
              have o2 := ok_tok_impl (p : Int) r.1 (std.strOf (R.take 16)) q1 q2 z16
              have htx : txt r.1 = (std.strOf (enc r.1 ++ [0]), true) := by unfold txt; rw [if_pos ⟨q2, q1⟩]
              have hte := tokText r.1 (by omega)
              rw [htx, ← q3] at hte
              have eR : std.strOf R = std.strOf (R.take 16) ++ std.strOf (R.drop 16) := by rw [← str_app, List.take_append_drop]
              have zd := str_size (R.drop 16)
              have ld : (R.drop 16).length = R.length - 16 := by simp
              have mt : Ev (fun k => impl_msgText.f k ⟨((1 : Nat) : Int), p, gs0, r.1, std.strOf (R.take 16)⟩) (std.strOf l) := by
                rw [el, eR]
                simp only [impl_msgText.f]
                refine Ev.bind tn (Ev.bind tp ?_)
                simp only [if_pos cc, if_neg k0, if_pos k1]
                refine Ev.bind hte (Ev.ret fun k => ?_)
                simp only
                have z3 : (std.strOf (R.take 16) ++ std.strOf (R.drop 16)).size = 16 + (R.length - 16) := by rw [ByteArray.size_append, z16, zd, ld]
                rw [if_pos (by omega), if_pos (by omega)]
              cases hpk : pk (p : Int) with
              | false =>
                rw [hpk] at o1 o2
                refine fail (sp _ ?_) (im _ ?_)
                · simp only [if_neg k0, if_pos k1, if_pos k16', x1, x2]
                  refine Ev.bind r1 ?_
                  simp only [hr, if_true]
                  exact Ev.bind o1 (Ev.ret fun k => rfl)
                · simp only [if_neg k0, if_pos k1, ht16, bnd, Bool.false_eq_true, if_false]
                  refine Ev.bind r2 ?_
                  simp only [hr, if_true]
                  exact Ev.bind o2 (Ev.ret fun k => rfl)
              | true =>
                rw [hpk] at o1 o2
                refine ⟨(⟨((1 : Nat) : Int), p, gs0, r.1, std.strOf (R.take 16)⟩, true), sp _ ?_, im _ ?_, by simp [gs0], by simp [gs0], q2⟩
                · simp only [if_neg k0, if_pos k1, if_pos k16', x1, x2]
                  refine Ev.bind r1 ?_
                  simp only [hr, if_true]
                  exact Ev.bind o1 (Ev.ret fun k => rfl)
                · simp only [if_neg k0, if_pos k1, ht16, bnd, Bool.false_eq_true, if_false]
                  refine Ev.bind r2 ?_
                  simp only [hr, if_true]
                  refine Ev.bind o2 ?_
                  simp only [if_true]
                  refine Ev.bind mt ?_
                  simp only [if_true]
                  exact Ev.ret fun k => rfl
          · have ht16 := take_short R 16 (by omega)
            obtain ⟨r, _, r2, _⟩ := getTokens R hbR (by omega)
            refine fail (sp _ ?_) (im _ ?_)
            · simp only [if_neg k0, if_pos k1]
              exact Ev.ret fun k => if_neg (by omega)
            · simp only [if_neg k0, if_pos k1, ht16, bnd, if_true]
              exact Ev.bind r2 (Ev.ret fun k => rfl)
        · by_cases k2 : (n : Int) = 2
          · have hn2 : n = 2 := by omega
            subst hn2
            have o1 : ∀ k, spec_MsgOk.f k ⟨((2 : Nat) : Int), p, gs0, [], ⟨#[]⟩⟩ = some (pk p) := ok_two_spec (p : Int)
            have o2 : ∀ k, impl_MsgOk.f k ⟨((2 : Nat) : Int), p, gs0, [], ⟨#[]⟩⟩ = some (pk p) := ok_two_impl (p : Int)
            have mt : Ev (fun k => impl_msgText.f k ⟨((2 : Nat) : Int), p, gs0, [], ⟨#[]⟩⟩) (std.strOf (dg 2) ++ std.strOf (dg p)) := by
              simp only [impl_msgText.f]
              refine Ev.bind tn (Ev.bind tp ?_)
              simp only [if_pos cc, if_neg k0, if_neg k1]
              exact Ev.ret fun k => rfl
            by_cases hR : R = []
            · have cR : (R.length : Int) = 0 := by rw [hR]; rfl
              have el2 : std.strOf l = std.strOf (dg 2) ++ std.strOf (dg p) := by rw [← str_app, h3, g3, hR, List.append_nil]
              rw [← el2] at mt
              cases hpk : pk (p : Int) with
              | false =>
                refine fail (sp _ ?_) (im _ ?_)
                · simp only [if_neg k0, if_neg k1, if_pos k2, if_pos cR, o1, bnd, hpk]
                  exact Ev.ret fun k => rfl
                · simp only [if_neg k0, if_neg k1, o2, bnd, hpk]
                  exact Ev.ret fun k => rfl
              | true =>
                refine ⟨(⟨((2 : Nat) : Int), p, gs0, [], ⟨#[]⟩⟩, true), sp _ ?_, im _ ?_, by simp [gs0], by simp [gs0], by simp⟩
                · simp only [if_neg k0, if_neg k1, if_pos k2, if_pos cR, o1, bnd, hpk, if_true]
                  exact Ev.ret fun k => rfl
                · simp only [if_neg k0, if_neg k1, o2, bnd, hpk, if_true]
                  refine Ev.bind mt ?_
                  simp only [if_true]
                  exact Ev.ret fun k => rfl
            · have cR : ¬ (R.length : Int) = 0 := by have := List.length_pos_iff.2 hR; omega
              have hne : ¬ std.strOf (dg 2) ++ std.strOf (dg p) = std.strOf l := by
                intro e
                have := congrArg ByteArray.size e
                rw [znp, zl] at this
                have := List.length_pos_iff.2 hR
                omega
              refine fail (sp _ ?_) (im _ ?_)
              · simp only [if_neg k0, if_neg k1, if_pos k2, if_neg cR]
                exact Ev.ret fun k => rfl
              · simp only [if_neg k0, if_neg k1, o2, bnd]
                cases pk (p : Int) with
                | false => exact Ev.ret fun k => rfl
                | true =>
                  simp only [if_true]
                  refine Ev.bind mt ?_
                  simp only [if_neg hne]
                  exact Ev.ret fun k => rfl
          · have o2 : ∀ k, impl_MsgOk.f k ⟨(n : Int), p, gs0, [], ⟨#[]⟩⟩ = some false := fun k => ok_no_impl n p k k0 k1 k2
            refine fail (sp _ ?_) (im _ ?_)
            · simp only [if_neg k0, if_neg k1, if_neg k2]
              exact Ev.ret fun k => rfl
            · simp only [if_neg k0, if_neg k1, o2, bnd]
              exact Ev.ret fun k => rfl
/-- The law, in plain Lean. -/
theorem getMsg_law (l : List Int) (hl : Byt l) : ∃ k, laws_FnExactGetMsg.f k l = some true := by
  by_cases hll : 1048576 < (l.length : Int)
  · exact ⟨0, if_pos hll⟩
  · obtain ⟨r, s, i, b1, b2, b3⟩ := getMsg l hl (by omega)
    have cp := toBytes l (by omega)
    have eb := eqBytes l (by omega)
    have em := eqMsg r.1 (by omega) (by omega) (by omega)
    have mb := markB l [] 1 0 rfl (by omega) (by omega) (by simp; omega)
    simp only [List.nil_append] at mb
    have mb : Ev (fun k => laws_markByteS.f k l 1) (1 + (l.length : Int), mkI (IntKind.wrap .u8) 1 l) := mb
    obtain ⟨n, y, hn, mm, hm⟩ := msg_marks r.1 (by omega) (by omega) (by omega)
    have c1 : ¬ 1 + (l.length : Int) < 0 := by omega
    have c2 : ¬ n < 0 := by omega
    have hb : (r.2 == r.2) = true := by simp
    have key : Ev (fun k => laws_FnExactGetMsg.f k l) true := by
      simp only [laws_FnExactGetMsg.f, if_neg hll]
      refine Ev.bind cp (Ev.bind s (Ev.bind cp (Ev.bind i (Ev.bind em ?_))))
      simp only [if_true, hb]
      refine Ev.bind cp (Ev.bind eb ?_)
      simp only [if_true]
      refine Ev.bind mb ?_
      simp only [if_neg c1]
      refine Ev.bind em ?_
      simp only [if_true]
      refine Ev.bind mm (Ev.bind hm ?_)
      simp only [if_neg c2, if_true]
      refine Ev.bind cp (Ev.bind i (Ev.bind em ?_))
      simp only [if_true, hb]
      refine Ev.bind hm ?_
      simp only [if_neg c2, if_true]
      exact Ev.ret fun k => rfl
    obtain ⟨K, hK⟩ := key
    exact ⟨K, hK K (Nat.le_refl _)⟩
end Go.I
