/- The law in plain Lean: what the reference reads out of any bytes is what the program reads out of them. No condition. -/
import Derived.Test.YtogfddilolannaaDoorKIRb
import Derived.Laws.BitsLemmas
import Derived.Lib.SplitLaws
import Derived.Lib.IndexBytes
/-! IP0 -/
set_option linter.unusedVariables false
set_option linter.unusedSimpArgs false
set_option maxRecDepth 100000
set_option maxHeartbeats 4000000
namespace Go.I
open Go
/-- From some fuel on, f answers v. -/
def Ev {α : Type} (f : Nat → Option α) (v : α) : Prop := ∃ K, ∀ k, K ≤ k → f k = some v
section
variable {α β : Type}
theorem Ev.ret {f : Nat → Option α} {v : α} (h : ∀ k, f k = some v) : Ev f v := ⟨0, fun k _ => h k⟩
theorem Ev.at {f : Nat → Option α} {v : α} (h : ∀ k, f (k + 1) = some v) : Ev f v := ⟨1, fun k hk => by
  obtain ⟨j, rfl⟩ : ∃ j, k = j + 1 := ⟨k - 1, by omega⟩
  exact h j⟩
theorem Ev.step {f g : Nat → Option α} {v : α} (h : ∀ k, f (k + 1) = g k) (hg : Ev g v) : Ev f v := by
  obtain ⟨K, hg⟩ := hg
  refine ⟨K + 1, fun k hk => ?_⟩
  obtain ⟨j, rfl⟩ : ∃ j, k = j + 1 := ⟨k - 1, by omega⟩
  rw [h, hg j (by omega)]
theorem Ev.congr {f g : Nat → Option α} {v : α} (h : ∀ k, f k = g k) (hg : Ev g v) : Ev f v := by
  obtain ⟨K, hg⟩ := hg
  exact ⟨K, fun k hk => by rw [h, hg k hk]⟩
theorem Ev.bind {f : Nat → Option α} {g : Nat → α → Option β} {a : α} {v : β} (h1 : Ev f a) (h2 : Ev (fun k => g k a) v) : Ev (fun k => (f k).bind (g k)) v := by
  obtain ⟨K, h1⟩ := h1
  obtain ⟨L, h2⟩ := h2
  refine ⟨K + L, fun k hk => ?_⟩
  show (f k).bind (g k) = some v
  rw [h1 k (by omega), Option.bind_some]
  exact h2 k (by omega)
theorem Ev.det {f : Nat → Option α} {u v : α} (h1 : Ev f u) (h2 : Ev f v) : u = v := by
  obtain ⟨K, h1⟩ := h1
  obtain ⟨L, h2⟩ := h2
  have e1 := h1 (K + L) (by omega)
  rw [h2 (K + L) (by omega)] at e1
  exact (Option.some.inj e1).symm
end
theorem w64 {x : Int} (h0 : -9223372036854775808 ≤ x) (h1 : x ≤ 9223372036854775807) : IntKind.wrap .i64 x = x := by rw [IntKind.wrap_i64]; omega
theorem w8 {x : Int} (h0 : 0 ≤ x) (h1 : x ≤ 255) : IntKind.wrap .u8 x = x := by rw [IntKind.wrap_u8]; omega
theorem w32 {x : Int} (h0 : 0 ≤ x) (h1 : x ≤ 4294967295) : IntKind.wrap .u32 x = x := by rw [IntKind.wrap_u32]; omega
/-- (No unfolding: the kernel goes astray among big conditions.) -/
theorem bnd {α β : Type} (a : α) (f : α → Option β) : (some a).bind f = f a := by
  have h : ∀ o : Option α, o = some a → o.bind f = f a := fun o ho => by subst ho; exact Option.bind_some ..
  exact h _ rfl
/-! ### lists -/
theorem get_mid {α : Type} (pre : List α) (x d : α) (t : List α) {i : Int} (hi : i = pre.length) : (pre ++ x :: t).getD i.toNat d = x := by subst hi; simp
theorem set_mid {α : Type} (pre : List α) (x y : α) (t : List α) {i : Int} (hi : i = pre.length) : (pre ++ x :: t).set i.toNat y = pre ++ y :: t := by subst hi; simp
theorem len_mid {α : Type} (pre : List α) (x : α) (t : List α) : ((pre ++ x :: t).length : Int) = pre.length + t.length + 1 := by simp; omega
theorem len_app {α : Type} (pre t : List α) : ((pre ++ t).length : Int) = pre.length + t.length := by simp
end Go.I

/-! IQ1 -/
set_option linter.unusedVariables false
set_option linter.unusedSimpArgs false
set_option maxRecDepth 100000
set_option maxHeartbeats 4000000
namespace Go.I
open Go
/-! ### texts as lists of bytes -/
def mk (l : List UInt8) : ByteArray := ⟨l.toArray⟩
theorem mk_self (s : ByteArray) : mk s.data.toList = s := by simp [mk]
theorem mk_data (l : List UInt8) : (mk l).data.toList = l := by simp [mk]
theorem mk_size (l : List UInt8) : (mk l).size = l.length := by simp [mk, ByteArray.size]
theorem mk_inj {a b : List UInt8} : mk a = mk b ↔ a = b := ⟨fun h => by have := congrArg (fun s : ByteArray => s.data.toList) h; simpa [mk] using this, fun h => h ▸ rfl⟩
theorem mk_app (a b : List UInt8) : mk a ++ mk b = mk (a ++ b) := by
  apply ByteArray.ext
  simp [mk, ByteArray.data_append]
theorem mk_cut (A p s : List UInt8) {i j : Nat} (hi : i = A.length) (hj : j = A.length + p.length) : (mk (A ++ p ++ s)).extract i j = mk p := by
  subst hi; subst hj
  apply ByteArray.ext
  simp [mk, ByteArray.data_extract]
theorem mk_get (A : List UInt8) (c : UInt8) (t : List UInt8) {i : Int} (hi : i = A.length) : std.sget (mk (A ++ c :: t)) i = c.toNat := by
  subst hi
  have h : (A.length : Int).toNat < (mk (A ++ c :: t)).size := by rw [mk_size]; simp
  show (if h : (A.length : Int).toNat < (mk (A ++ c :: t)).size then (((mk (A ++ c :: t))[(A.length : Int).toNat]'h).toNat : Int) else 0) = _
  rw [dif_pos h]
  congr 1
  simp [mk, ByteArray.getElem_eq_getElem_data]
theorem u8_ne {c q : UInt8} (h : c ≠ q) : (c.toNat : Int) ≠ q.toNat := fun e => h (UInt8.toNat_inj.1 (by omega))
/-! ### pieces between separators -/
def pcs (q : UInt8) : List UInt8 → List UInt8 → List ByteArray
  | pre, [] => [mk pre]
  | pre, c :: t => if c = q then mk pre :: pcs q [] t else pcs q (pre ++ [c]) t
theorem pcs_len (q : UInt8) : ∀ suf pre, (pcs q pre suf).length ≤ suf.length + 1 ∧ 0 < (pcs q pre suf).length
  | [], pre => by simp [pcs]
  | c :: t, pre => by
    unfold pcs
    split
    · have := pcs_len q t []; simp; omega
    · have := pcs_len q t (pre ++ [c]); simp; omega
def szs (l : List ByteArray) : Nat := (l.map ByteArray.size).sum
theorem pcs_size (q : UInt8) : ∀ suf pre, szs (pcs q pre suf) + (pcs q pre suf).length = pre.length + suf.length + 1
  | [], pre => by simp [pcs, szs, mk_size]
  | c :: t, pre => by
    unfold pcs
    split
    · have := pcs_size q t []
      simp [szs, mk_size] at this ⊢
      omega
    · have := pcs_size q t (pre ++ [c])
      simp [szs] at this ⊢
      omega
theorem count_mk (q : UInt8) (l : List UInt8) : Lib.countB (mk l) (mk [q]) = l.count q := by
  show Lib.count (mk l).data.toList (mk [q]).data.toList = _
  rw [mk_data, mk_data, Lib.count_one]
theorem index_mk (q : UInt8) (l : List UInt8) : Lib.indexB (mk l) (mk [q]) = Lib.indexByte l q := by
  show Lib.index (mk l).data.toList (mk [q]).data.toList = _
  rw [mk_data, mk_data, Lib.index_one]
theorem indexByte_hit (q : UInt8) (t : List UInt8) : ∀ pre : List UInt8, q ∉ pre → Lib.indexByte (pre ++ q :: t) q = pre.length
  | [], _ => by simp [Lib.indexByte]
  | b :: l, h => by
    have h1 : ¬ b = q := fun e => h (by simp [e])
    have h2 := indexByte_hit q t l (fun hm => h (by simp [hm]))
    have h3 : ¬ ((l.length : Int) == -1) = true := by simp
    show (if b == q then 0 else if Lib.indexByte (l ++ q :: t) q == -1 then -1 else Lib.indexByte (l ++ q :: t) q + 1) = _
    rw [h2, if_neg (by simpa using h1), if_neg h3]
    simp
theorem indexByte_pos (q : UInt8) : ∀ l : List UInt8, 0 ≤ Lib.indexByte l q ↔ q ∈ l
  | [] => by simp [Lib.indexByte]
  | b :: l => by
    have ih := indexByte_pos q l
    unfold Lib.indexByte
    by_cases h : b = q
    · subst h; simp
    · have h' : ¬ q = b := fun e => h e.symm
      rw [if_neg (by simpa using h)]
      simp only [List.mem_cons, h', false_or]
      by_cases h2 : Lib.indexByte l q = -1
      · rw [if_pos (by simp [h2]), ← ih, h2]
      · rw [if_neg (by simpa using h2), ← ih]
        have := Lib.indexByte_ge l q
        omega
theorem split_pcs (q : UInt8) : ∀ suf pre : List UInt8, q ∉ pre → Lib.splitB (mk [q]) 0 (Lib.countB (mk (pre ++ suf)) (mk [q])) (mk (pre ++ suf)) = pcs q pre suf
  | [], pre, h => by
    rw [List.append_nil, count_mk, List.count_eq_zero.2 h]
    rfl
  | c :: t, pre, h => by
    by_cases hc : c = q
    · subst hc
      have ih := split_pcs c t [] (by simp)
      rw [List.nil_append] at ih
      rw [count_mk, List.count_append, List.count_eq_zero.2 h, List.count_cons_self, Nat.zero_add, Lib.splitB_hit _ _ _ _ pre.length (by rw [index_mk, indexByte_hit c t pre h])]
      have e1 : (mk (pre ++ c :: t)).extract 0 (pre.length + 0) = mk pre := by
        have := mk_cut [] pre (c :: t) (i := 0) (j := pre.length + 0) rfl (by simp)
        simpa using this
      have e2 : (mk (pre ++ c :: t)).extract (pre.length + (mk [c]).size) (mk (pre ++ c :: t)).size = mk t := by
        have := mk_cut (pre ++ [c]) t [] (i := pre.length + (mk [c]).size) (j := (mk (pre ++ c :: t)).size) (by simp [mk_size]) (by simp [mk_size]; omega)
        simpa using this
      rw [e1, e2, ← count_mk, ih]
      simp [pcs]
    · have ih := split_pcs q t (pre ++ [c]) (by simp [h]; exact fun e => hc e.symm)
      simp only [List.append_assoc, List.singleton_append] at ih
      rw [ih]
      simp [pcs, hc]
theorem Split_mk (q : UInt8) (l : List UInt8) (h : l.length < 4294967281) : strings_Split.f (mk l) (mk [q]) = some (pcs q [] l) := by
  have := split_pcs q l [] (by simp)
  simp only [List.nil_append] at this
  unfold strings_Split.f
  rw [if_pos ⟨by rw [mk_size]; exact h, by rw [mk_size]; rfl⟩, this]
theorem Contains_mk (q : UInt8) (l : List UInt8) : strings_Contains.f (mk l) (mk [q]) = some (decide (q ∈ l)) := by
  unfold strings_Contains.f
  rw [if_pos (by rw [mk_size]; rfl), mk_data, mk_data]
  congr 1
  exact decide_eq_decide.2 (indexByte_pos q l)
/-- The reference's pieces. -/
theorem l02Names_l0 (a : ByteArray) (ha : a.size ≤ 1000) (suf : List UInt8) : ∀ (A pre : List UInt8) (out : List ByteArray) (f i : Int), a = mk (A ++ pre ++ suf) → f = A.length → i = A.length + pre.length → out.length + suf.length ≤ 2000 →
    Ev (fun k => spec_l02Names.l0 k a out f i) (out ++ pcs 47 pre suf) := by
  induction suf with
  | nil =>
    intro A pre out f i h hf hi ho
    have hs : (a.size : Int) = A.length + pre.length := by rw [h, mk_size]; simp
    have hx : a.extract f.toNat (a.size : Int).toNat = mk pre := by rw [h]; exact mk_cut A pre [] (by omega) (by rw [mk_size]; simp; omega)
    simp only [List.length_nil] at ho
    refine Ev.at fun k => ?_
    simp (disch := omega) only [spec_l02Names.l0, if_neg, if_pos, hx, List.length_cons, List.length_nil]
    rfl
  | cons c t ih =>
    intro A pre out f i h hf hi ho
    have hs : (a.size : Int) = A.length + pre.length + t.length + 1 := by rw [h, mk_size]; simp; omega
    simp only [List.length_cons] at ho
    have hg : std.sget a i = c.toNat := by
      rw [h, List.append_assoc, ← List.append_assoc A pre]
      exact mk_get (A ++ pre) c t (by simp; omega)
    by_cases hc : c = 47
    · subst hc
      have hx : a.extract f.toNat i.toNat = mk pre := by rw [h]; exact mk_cut A pre (47 :: t) (by omega) (by omega)
      have hg' : std.sget a i = 47 := hg
      have hi2 := ih (A ++ pre ++ [47]) [] (out ++ [mk pre]) (i + 1) (i + 1) (by rw [h]; simp) (by simp; omega) (by simp; omega) (by simp; omega)
      refine Ev.step (fun k => ?_) (by simpa [pcs] using hi2)
      simp (disch := omega) only [spec_l02Names.l0, if_pos, hx, w64, List.length_cons, List.length_nil]
    · have hg' : std.sget a i ≠ 47 := by rw [hg]; exact u8_ne hc
      have hi2 := ih A (pre ++ [c]) out f (i + 1) (by rw [h]; simp) hf (by simp; omega) (by omega)
      refine Ev.step (fun k => ?_) (by simpa [pcs, hc] using hi2)
      simp (disch := omega) only [spec_l02Names.l0, if_pos, if_neg, w64]
theorem l02Names_ev (l : List UInt8) (h : l.length ≤ 1000) : Ev (fun k => spec_l02Names.f k (mk l)) (pcs 47 [] l) :=
  (l02Names_l0 (mk l) (by rw [mk_size]; exact h) l [] [] [] 0 0 rfl rfl rfl (by simp; omega)).congr fun k => rfl
end Go.I

/-! IQ2 -/
set_option linter.unusedVariables false
set_option linter.unusedSimpArgs false
set_option maxRecDepth 100000
set_option maxHeartbeats 4000000
namespace Go.I
open Go
theorem l01In_eq (x a b : Int) : spec_l01In.f x a b = some (decide (a ≤ x ∧ x ≤ b)) := by
  unfold spec_l01In.f
  by_cases h : a ≤ x <;> simp [h]
theorem within_eq (x a b : Int) : impl_within.f x a b = some (decide (a ≤ x ∧ x ≤ b)) := by
  unfold impl_within.f
  by_cases h : a ≤ x <;> simp [h]
/-! ### names -/
def nc (x : Int) : Bool := decide ((97 ≤ x ∧ x ≤ 122) ∨ (65 ≤ x ∧ x ≤ 90) ∨ (48 ≤ x ∧ x ≤ 57) ∨ x = 46 ∨ x = 95 ∨ x = 45)
def ncs (l : List UInt8) : Bool := l.all fun c => nc c.toNat
def nmRest (l : List UInt8) : Bool := decide (1 ≤ (l.length : Int) ∧ (l.length : Int) ≤ 20) && (decide (¬ mk l = (⟨#[46]⟩ : ByteArray)) && decide (¬ mk l = (⟨#[46, 46]⟩ : ByteArray)))
def nm (l : List UInt8) : Bool := ncs l && nmRest l
theorem u8_lt (c : UInt8) : (0 : Int) ≤ c.toNat ∧ (c.toNat : Int) ≤ 255 := by have := c.toNat_lt; omega
theorem spec_Name_l0 (suf : List UInt8) : ∀ (A : List UInt8) (a : ByteArray) (i : Int), a = mk (A ++ suf) → i = A.length → (A ++ suf).length ≤ 1000000000 → Ev (fun k => spec_NameOk.l0 k a i) (ncs suf) := by
  induction suf with
  | nil =>
    intro A a i h hi hl
    have hs : (a.size : Int) = A.length := by rw [h, mk_size]; simp
    refine Ev.at fun k => ?_
    simp (disch := omega) only [spec_NameOk.l0, if_neg]
    rfl
  | cons c t ih =>
    intro A a i h hi hl
    have hs : (a.size : Int) = A.length + t.length + 1 := by rw [h, mk_size]; simp; omega
    have hl' : A.length + t.length + 1 ≤ 1000000000 := by simp at hl; omega
    have hg : std.sget a i = c.toNat := by rw [h]; exact mk_get A c t hi
    obtain ⟨b0, b1⟩ := u8_lt c
    have hn := ih (A ++ [c]) a (i + 1) (by rw [h]; simp) (by simp; omega) (by simpa using hl)
    have hall : ncs (c :: t) = (nc c.toNat && ncs t) := rfl
    rw [hall]
    generalize hx : (c.toNat : Int) = x at hg b0 b1
    by_cases h1 : nc x = true
    · rw [h1, Bool.true_and]
      refine Ev.step (fun k => ?_) hn
      have h1 := of_decide_eq_true h1
      by_cases c1 : 97 ≤ x ∧ x ≤ 122
      · simp (disch := omega) only [spec_NameOk.l0, l01In_eq, bnd, decide_eq_true_eq, hg, if_pos, if_neg, w64]
      by_cases c2 : 65 ≤ x ∧ x ≤ 90
      · simp (disch := omega) only [spec_NameOk.l0, l01In_eq, bnd, decide_eq_true_eq, hg, if_pos, if_neg, w64]
      by_cases c3 : 48 ≤ x ∧ x ≤ 57
      · simp (disch := omega) only [spec_NameOk.l0, l01In_eq, bnd, decide_eq_true_eq, hg, if_pos, if_neg, w64]
      by_cases c4 : x = 46
      · simp (disch := omega) only [spec_NameOk.l0, l01In_eq, bnd, decide_eq_true_eq, hg, if_pos, if_neg, w64]
      by_cases c5 : x = 95
      · simp (disch := omega) only [spec_NameOk.l0, l01In_eq, bnd, decide_eq_true_eq, hg, if_pos, if_neg, w64]
      have c6 : x = 45 := by omega
      simp (disch := omega) only [spec_NameOk.l0, l01In_eq, bnd, decide_eq_true_eq, hg, if_pos, if_neg, w64]
    · have h2 := h1
      unfold nc at h2
      rw [decide_eq_true_eq] at h2
      rw [Bool.eq_false_iff.2 h1, Bool.false_and]
      refine Ev.at fun k => ?_
      simp (disch := omega) only [spec_NameOk.l0, l01In_eq, bnd, decide_eq_true_eq, hg, if_pos, if_neg, w64]
theorem spec_Name (l : List UInt8) (hl : l.length ≤ 1000000000) : Ev (fun k => spec_NameOk.f k (mk l)) (nm l) := by
  have hs : ((mk l).size : Int) = l.length := by rw [mk_size]
  have h0 := spec_Name_l0 l [] (mk l) 0 rfl rfl hl
  simp only [spec_NameOk.f, l01In_eq, bnd, hs, decide_eq_true_eq]
  unfold nm nmRest
  by_cases h1 : 1 ≤ (l.length : Int) ∧ (l.length : Int) ≤ 20
  · by_cases h2 : mk l = (⟨#[46]⟩ : ByteArray)
    · exact Ev.ret fun k => by rw [if_pos h1, if_pos h2]; simp [h2]
    · by_cases h3 : mk l = (⟨#[46, 46]⟩ : ByteArray)
      · exact Ev.ret fun k => by rw [if_pos h1, if_neg h2, if_pos h3]; simp [h3]
      · have e : (ncs l && (decide (1 ≤ (l.length : Int) ∧ (l.length : Int) ≤ 20) && (decide (¬ mk l = (⟨#[46]⟩ : ByteArray)) && decide (¬ mk l = (⟨#[46, 46]⟩ : ByteArray))))) = ncs l := by simp [h1, h2, h3]
        rw [e]
        exact h0.congr fun k => by rw [if_pos h1, if_neg h2, if_neg h3]
  · exact Ev.ret fun k => by rw [if_neg h1]; simp [h1]
theorem impl_Name_l0 (l : List UInt8) (hl : l.length ≤ 1000000000) (suf : List UInt8) : ∀ (A : List UInt8) (i : Int), l = A ++ suf → i = A.length → Ev (fun k => impl_NameOk.l0 k (mk l) i) (ncs suf && nmRest l) := by
  have hs : ((mk l).size : Int) = l.length := by rw [mk_size]
  induction suf with
  | nil =>
    intro A i h hi
    have hA : (l.length : Int) = A.length := by rw [h]; simp
    have hc : ncs [] = true := rfl
    rw [hc, Bool.true_and]
    refine Ev.at fun k => ?_
    have hlt : ¬ i < (l.length : Int) := by omega
    simp only [impl_NameOk.l0, hs, if_neg hlt, within_eq, bnd, decide_eq_true_eq]
    unfold nmRest
    have hq : std.seq (mk l) (⟨#[46, 46]⟩ : ByteArray) = decide (mk l = (⟨#[46, 46]⟩ : ByteArray)) := (seq_dec _ _).symm
    rw [hq]
    by_cases h1 : 1 ≤ (l.length : Int) ∧ (l.length : Int) ≤ 20
    · by_cases h2 : mk l = (⟨#[46]⟩ : ByteArray)
      · rw [if_pos h1, if_pos h2]; simp [h2]
      · rw [if_pos h1, if_neg h2]; simp [h1, h2]
    · rw [if_neg h1]; simp [h1]
  | cons c t ih =>
    intro A i h hi
    have hA : (l.length : Int) = A.length + t.length + 1 := by rw [h]; simp; omega
    have hg : std.sget (mk l) i = c.toNat := by rw [h]; exact mk_get A c t hi
    obtain ⟨b0, b1⟩ := u8_lt c
    have hn := ih (A ++ [c]) (i + 1) (by rw [h]; simp) (by simp; omega)
    have hall : ncs (c :: t) = (nc c.toNat && ncs t) := rfl
    rw [hall]
    generalize hx : (c.toNat : Int) = x at hg b0 b1
    by_cases h1 : nc x = true
    · rw [h1, Bool.true_and]
      refine Ev.step (fun k => ?_) hn
      have h1 := of_decide_eq_true h1
      by_cases c1 : 97 ≤ x ∧ x ≤ 122
      · simp (disch := omega) only [impl_NameOk.l0, hg, if_pos, if_neg, w64, if_true]
      by_cases c2 : 65 ≤ x ∧ x ≤ 90
      · simp (disch := omega) only [impl_NameOk.l0, hg, if_pos, if_neg, w64, if_true]
      by_cases c3 : 48 ≤ x ∧ x ≤ 57
      · simp (disch := omega) only [impl_NameOk.l0, hg, if_pos, if_neg, w64, if_true]
      have c46 : x = 46 ∨ x = 95 ∨ x = 45 := by omega
      rcases c46 with rfl | rfl | rfl
      · simp (disch := omega) only [impl_NameOk.l0, hg, if_pos, if_neg, w64, if_true]
      · simp (disch := omega) only [impl_NameOk.l0, hg, if_pos, if_neg, w64, if_true]
      · simp (disch := omega) only [impl_NameOk.l0, hg, if_pos, if_neg, w64, if_true]
    · have h2 := h1
      unfold nc at h2
      rw [decide_eq_true_eq] at h2
      rw [Bool.eq_false_iff.2 h1, Bool.false_and, Bool.false_and]
      refine Ev.at fun k => ?_
      by_cases d1 : 97 ≤ x
      · simp (disch := omega) only [impl_NameOk.l0, hg, if_pos, if_neg, w64, if_true]
      by_cases d2 : 65 ≤ x
      · simp (disch := omega) only [impl_NameOk.l0, hg, if_pos, if_neg, w64, if_true]
      by_cases d3 : 48 ≤ x
      · simp (disch := omega) only [impl_NameOk.l0, hg, if_pos, if_neg, w64, if_true]
      · simp (disch := omega) only [impl_NameOk.l0, hg, if_pos, if_neg, w64, if_true]
theorem impl_Name (l : List UInt8) (hl : l.length ≤ 1000000000) : Ev (fun k => impl_NameOk.f k (mk l)) (nm l) := impl_Name_l0 l hl l [] 0 rfl rfl
end Go.I

/-! IQ3 -/
set_option linter.unusedVariables false
set_option linter.unusedSimpArgs false
set_option maxRecDepth 100000
set_option maxHeartbeats 4000000
namespace Go.I
open Go
/-! ### paths -/
theorem ba_len (b : ByteArray) : b.data.toList.length = b.size := Array.length_toList
def nmB (b : ByteArray) : Bool := nm b.data.toList
theorem spec_NameB (b : ByteArray) (h : b.size ≤ 1000000000) : Ev (fun k => spec_NameOk.f k b) (nmB b) := by
  have := spec_Name b.data.toList (by rw [ba_len]; exact h)
  rwa [mk_self] at this
theorem impl_NameB (b : ByteArray) (h : b.size ≤ 1000000000) : Ev (fun k => impl_NameOk.f k b) (nmB b) := by
  have := impl_Name b.data.toList (by rw [ba_len]; exact h)
  rwa [mk_self] at this
theorem nmB_size {b : ByteArray} (h : nmB b = true) : b.size ≤ 20 := by
  unfold nmB nm nmRest at h
  simp only [Bool.and_eq_true, decide_eq_true_eq] at h
  have := h.2.1.2
  have e := ba_len b
  omega
def pOk (l : List ByteArray) : Bool := l.all nmB && decide ((l.length : Int) ≤ 8)
theorem sz_mem {l : List ByteArray} {b : ByteArray} (h : b ∈ l) : b.size ≤ szs l := by
  induction l with
  | nil => cases h
  | cons x t ih =>
    simp only [szs, List.map_cons, List.sum_cons] at ih ⊢
    rcases List.mem_cons.1 h with rfl | h
    · omega
    · have := ih h; omega
theorem spec_Path_l0 (L : List ByteArray) (hL : szs L ≤ 1000000000) (hn : L.length ≤ 1000000000) (suf : List ByteArray) : ∀ (A : List ByteArray) (i : Int), L = A ++ suf → i = A.length → Ev (fun k => spec_PathOk.l0 k L i) (suf.all nmB && decide ((L.length : Int) ≤ 8)) := by
  induction suf with
  | nil =>
    intro A i h hi
    have hA : (L.length : Int) = A.length := by rw [h]; simp
    refine Ev.at fun k => ?_
    simp (disch := omega) only [spec_PathOk.l0, if_neg]
    simp
  | cons b t ih =>
    intro A i h hi
    have hA : (L.length : Int) = A.length + t.length + 1 := by rw [h]; simp; omega
    have hg : L.getD i.toNat (⟨#[]⟩ : ByteArray) = b := by rw [h]; exact get_mid A b _ t hi
    have hb := spec_NameB b (Nat.le_trans (sz_mem (l := L) (by rw [h]; simp)) hL)
    have hi2 := ih (A ++ [b]) (i + 1) (by rw [h]; simp) (by simp; omega)
    refine Ev.step (g := fun k => (spec_NameOk.f k b).bind fun r5 => if r5 = true then spec_PathOk.l0 k L (i + 1) else some false) (fun k => ?_) (Ev.bind hb ?_)
    · simp (disch := omega) only [spec_PathOk.l0, if_pos, hg, w64]
    · rw [List.all_cons]
      by_cases h1 : nmB b = true
      · rw [h1, Bool.true_and]; exact hi2.congr fun k => by rw [if_pos rfl]
      · rw [Bool.eq_false_iff.2 h1, Bool.false_and, Bool.false_and]; exact Ev.ret fun k => by rw [if_neg (by decide)]
theorem spec_Path (l : List UInt8) : Ev (fun k => spec_PathOk.f k (mk l)) (decide ((l.length : Int) ≤ 200) && pOk (pcs 47 [] l)) := by
  have hs : ((mk l).size : Int) = l.length := by rw [mk_size]
  simp only [spec_PathOk.f, hs]
  by_cases h : 200 < (l.length : Int)
  · exact Ev.ret fun k => by rw [if_pos h]; simp; omega
  · have h1 := l02Names_ev l (by omega)
    have h2 := pcs_size 47 l []
    have h3 := (pcs_len 47 l []).1
    simp only [List.length_nil] at h2
    have e : (decide ((l.length : Int) ≤ 200) && pOk (pcs 47 [] l)) = pOk (pcs 47 [] l) := by rw [decide_eq_true (by omega), Bool.true_and]
    rw [e]
    simp only [if_neg h]
    exact Ev.bind h1 (spec_Path_l0 (pcs 47 [] l) (by omega) (by omega) (pcs 47 [] l) [] 0 rfl rfl)
theorem impl_Names_l0 (L : List ByteArray) (hL : szs L ≤ 1000000000) (hn : L.length ≤ 1000000000) (suf : List ByteArray) : ∀ (A : List ByteArray) (i : Int), L = A ++ suf → i = A.length → Ev (fun k => impl_Names.l0 k L i) (if suf.all nmB = true then L else []) := by
  induction suf with
  | nil =>
    intro A i h hi
    have hA : (L.length : Int) = A.length := by rw [h]; simp
    refine Ev.at fun k => ?_
    simp (disch := omega) only [impl_Names.l0, if_neg]
    simp
  | cons b t ih =>
    intro A i h hi
    have hA : (L.length : Int) = A.length + t.length + 1 := by rw [h]; simp; omega
    have hg : L.getD i.toNat (⟨#[]⟩ : ByteArray) = b := by rw [h]; exact get_mid A b _ t hi
    have hb := impl_NameB b (Nat.le_trans (sz_mem (l := L) (by rw [h]; simp)) hL)
    have hi2 := ih (A ++ [b]) (i + 1) (by rw [h]; simp) (by simp; omega)
    refine Ev.step (g := fun k => (impl_NameOk.f k b).bind fun r5 => if r5 = true then impl_Names.l0 k L (i + 1) else some []) (fun k => ?_) (Ev.bind hb ?_)
    · simp (disch := omega) only [impl_Names.l0, if_pos, hg, w64]
    · rw [List.all_cons]
      by_cases h1 : nmB b = true
      · rw [h1, Bool.true_and]; exact hi2.congr fun k => by rw [if_pos rfl]
      · rw [Bool.eq_false_iff.2 h1, Bool.false_and]; exact Ev.ret fun k => by rw [if_neg (by decide), if_neg (by decide)]
theorem szs_all {l : List ByteArray} (h : l.all nmB = true) : szs l ≤ 20 * l.length := by
  induction l with
  | nil => simp [szs]
  | cons b t ih =>
    simp only [List.all_cons, Bool.and_eq_true] at h
    have h1 := nmB_size h.1
    have h2 := ih h.2
    simp only [szs, List.map_cons, List.sum_cons, List.length_cons] at h2 ⊢
    omega
/-- A path that is right, for both. -/
def pth (l : List UInt8) : Bool := decide ((l.length : Int) ≤ 200) && pOk (pcs 47 [] l)
theorem pth_small {l : List UInt8} (h : pth l = true) : l.length ≤ 168 := by
  unfold pth pOk at h
  simp only [Bool.and_eq_true, decide_eq_true_eq] at h
  have h1 := szs_all h.2.1
  have h2 := pcs_size 47 l []
  simp only [List.length_nil] at h2
  have := h.2.2
  omega
theorem impl_Names_ev (l : List UInt8) : Ev (fun k => impl_Names.f k (mk l)) (if pth l = true then pcs 47 [] l else []) := by
  have hs : ((mk l).size : Int) = l.length := by rw [mk_size]
  simp only [impl_Names.f, hs]
  by_cases h : 168 < (l.length : Int)
  · have : ¬ pth l = true := fun e => by have := pth_small e; omega
    rw [if_neg this]
    exact Ev.ret fun k => by rw [if_pos h]
  · have h2 := pcs_size 47 l []
    have h3 := (pcs_len 47 l []).1
    simp only [List.length_nil] at h2
    have hS : strings_Split.f (mk l) (⟨#[47]⟩ : ByteArray) = some (pcs 47 [] l) := Split_mk 47 l (by omega)
    simp only [if_neg h, hS, bnd]
    unfold pth pOk
    rw [decide_eq_true (by omega : (l.length : Int) ≤ 200), Bool.true_and]
    by_cases h4 : 8 < ((pcs 47 [] l).length : Int)
    · rw [decide_eq_false (by omega), Bool.and_false, if_neg (by decide)]
      exact Ev.ret fun k => by rw [if_pos h4]
    · rw [decide_eq_true (by omega), Bool.and_true]
      exact (impl_Names_l0 (pcs 47 [] l) (by omega) (by omega) (pcs 47 [] l) [] 0 rfl rfl).congr fun k => by rw [if_neg h4]
theorem impl_Path (l : List UInt8) : Ev (fun k => impl_PathOk.f k (mk l)) (pth l) := by
  simp only [impl_PathOk.f]
  refine Ev.bind (impl_Names_ev l) (Ev.ret fun k => ?_)
  have := (pcs_len 47 l []).2
  by_cases h : pth l = true
  · rw [if_pos h, h]; simp; omega
  · rw [if_neg h, Bool.eq_false_iff.2 h]; simp
theorem spec_Path' (l : List UInt8) : Ev (fun k => spec_PathOk.f k (mk l)) (pth l) := spec_Path l
/-! ### nodes -/
theorem nl_l1 (n : GNode) (l : List UInt8) (hl : l.length ≤ 1000000000) (hT : n.Target = mk l) (suf : List UInt8) : ∀ (A : List UInt8) (i : Int), l = A ++ suf → i = A.length → Ev (fun k => spec_NodeOk.l1 k n i) (!decide ((10 : UInt8) ∈ suf)) := by
  have hs : (n.Target.size : Int) = l.length := by rw [hT, mk_size]
  induction suf with
  | nil =>
    intro A i h hi
    have hA : (l.length : Int) = A.length := by rw [h]; simp
    refine Ev.at fun k => ?_
    simp (disch := omega) only [spec_NodeOk.l1, if_neg]
    simp
  | cons c t ih =>
    intro A i h hi
    have hA : (l.length : Int) = A.length + t.length + 1 := by rw [h]; simp; omega
    have hg : std.sget n.Target i = c.toNat := by rw [hT, h]; exact mk_get A c t hi
    by_cases hc : c = 10
    · subst hc
      have hg' : std.sget n.Target i = 10 := hg
      refine Ev.at fun k => ?_
      simp (disch := omega) only [spec_NodeOk.l1, if_pos]
      simp
    · have hg' : std.sget n.Target i ≠ 10 := by rw [hg]; exact u8_ne hc
      have hi2 := ih (A ++ [c]) (i + 1) (by rw [h]; simp) (by simp; omega)
      have e : (!decide ((10 : UInt8) ∈ c :: t)) = !decide ((10 : UInt8) ∈ t) := by
        have : ¬ (10 : UInt8) = c := fun e => hc e.symm
        simp [this]
      rw [e]
      refine Ev.step (fun k => ?_) hi2
      simp (disch := omega) only [spec_NodeOk.l1, if_pos, if_neg, w64]
/-- A node that is right, for both. -/
def nOk (n : GNode) : Bool := pth n.Path.data.toList && (decide (0 ≤ n.Mode ∧ n.Mode ≤ 511) && (decide (0 ≤ n.Time ∧ n.Time ≤ 1000000000) &&
  (if n.Kind = 0 then decide (n.Data = (⟨#[]⟩ : ByteArray)) && (decide (n.Target = (⟨#[]⟩ : ByteArray)) && decide (n.Group = 0))
   else if n.Kind = 1 then decide ((n.Data.size : Int) ≤ 20000) && (decide (n.Target = (⟨#[]⟩ : ByteArray)) && decide (0 ≤ n.Group ∧ n.Group ≤ 200))
   else if n.Kind = 2 then decide (n.Data = (⟨#[]⟩ : ByteArray)) && (decide (n.Mode = 0) && (decide (n.Group = 0) && (decide (1 ≤ (n.Target.size : Int) ∧ (n.Target.size : Int) ≤ 60) && !decide ((10 : UInt8) ∈ n.Target.data.toList))))
   else false)))
theorem Ev.iteB {α : Type} {b : Bool} {f g : Nat → Option α} {v : α} (h1 : b = true → Ev f v) (h2 : b = false → Ev g v) : Ev (fun k => if b = true then f k else g k) v := by
  cases b with
  | true => exact (h1 rfl).congr fun k => by rw [if_pos rfl]
  | false => exact (h2 rfl).congr fun k => by rw [if_neg (by decide)]
theorem Ev.iteP {α : Type} {c : Prop} [Decidable c] {f g : Nat → Option α} {v : α} (h1 : c → Ev f v) (h2 : ¬ c → Ev g v) : Ev (fun k => if c then f k else g k) v := by
  by_cases h : c
  · exact (h1 h).congr fun k => by rw [if_pos h]
  · exact (h2 h).congr fun k => by rw [if_neg h]
theorem Ev.bool {c : Prop} [Decidable c] {b : Bool} {f g : Nat → Option Bool} (h1 : c → Ev f b) (h2 : ¬ c → Ev g false) : Ev (fun k => if c then f k else g k) (decide c && b) := by
  by_cases h : c
  · rw [decide_eq_true h, Bool.true_and]; exact (h1 h).congr fun k => by rw [if_pos h]
  · rw [decide_eq_false h, Bool.false_and]; exact (h2 h).congr fun k => by rw [if_neg h]
theorem Ev.boolB {a b : Bool} {f g : Nat → Option Bool} (h1 : a = true → Ev f b) (h2 : a = false → Ev g false) : Ev (fun k => if a = true then f k else g k) (a && b) := by
  cases a with
  | true => exact (h1 rfl).congr fun k => by rw [if_pos rfl]
  | false => exact (h2 rfl).congr fun k => by rw [if_neg (by decide)]
theorem Ev.sm {α : Type} {v : α} : Ev (fun _ => some v) v := Ev.ret fun _ => rfl
theorem spec_Node (n : GNode) : Ev (fun k => spec_NodeOk.f k n) (nOk n) := by
  have hp := spec_Path' n.Path.data.toList
  rw [mk_self] at hp
  simp only [spec_NodeOk.f, l01In_eq, bnd]
  refine Ev.bind hp (Ev.boolB (fun _ => ?_) fun _ => Ev.sm)
  refine Ev.boolB (fun _ => ?_) fun _ => Ev.sm
  refine Ev.boolB (fun _ => ?_) fun _ => Ev.sm
  by_cases k0 : n.Kind = 0
  · simp only [if_pos k0]
    exact Ev.bool (fun _ => Ev.bool (fun _ => Ev.sm) fun _ => Ev.sm) fun _ => Ev.sm
  · simp only [if_neg k0]
    by_cases k1 : n.Kind = 1
    · simp only [if_pos k1]
      exact Ev.bool (fun _ => Ev.bool (fun _ => Ev.sm) fun _ => Ev.sm) fun _ => Ev.sm
    · simp only [if_neg k1]
      by_cases k2 : n.Kind = 2
      · simp only [if_pos k2]
        refine Ev.bool (fun _ => Ev.bool (fun _ => Ev.bool (fun _ => Ev.boolB (fun ht => ?_) fun _ => Ev.sm) fun _ => Ev.sm) fun _ => Ev.sm) fun _ => Ev.sm
        have ht := of_decide_eq_true ht
        have e := ba_len n.Target
        exact nl_l1 n n.Target.data.toList (by omega) (mk_self _).symm n.Target.data.toList [] 0 rfl rfl
      · simp only [if_neg k2]
        exact Ev.sm
theorem impl_Node (n : GNode) : Ev (fun k => impl_NodeOk.f k n) (nOk n) := by
  have hp := impl_Path n.Path.data.toList
  rw [mk_self] at hp
  have hC : strings_Contains.f n.Target (⟨#[10]⟩ : ByteArray) = some (decide ((10 : UInt8) ∈ n.Target.data.toList)) := by
    have := Contains_mk 10 n.Target.data.toList
    rwa [mk_self] at this
  simp only [impl_NodeOk.f, within_eq, bnd, hC]
  refine Ev.bind hp (Ev.boolB (fun _ => ?_) fun _ => Ev.sm)
  refine Ev.boolB (fun _ => ?_) fun _ => Ev.sm
  refine Ev.boolB (fun _ => ?_) fun _ => Ev.sm
  by_cases k0 : n.Kind = 0
  · simp only [if_pos k0]
    exact Ev.bool (fun _ => Ev.bool (fun _ => Ev.sm) fun _ => Ev.sm) fun _ => Ev.sm
  · simp only [if_neg k0]
    by_cases k1 : n.Kind = 1
    · simp only [if_pos k1]
      exact Ev.bool (fun _ => Ev.bool (fun _ => Ev.sm) fun _ => Ev.sm) fun _ => Ev.sm
    · simp only [if_neg k1]
      by_cases k2 : n.Kind = 2
      · simp only [if_pos k2]
        exact Ev.bool (fun _ => Ev.bool (fun _ => Ev.bool (fun _ => Ev.boolB (fun _ => Ev.sm) fun _ => Ev.sm) fun _ => Ev.sm) fun _ => Ev.sm) fun _ => Ev.sm
      · simp only [if_neg k2]
        exact Ev.sm
end Go.I

/-! IQ4 -/
set_option linter.unusedVariables false
set_option linter.unusedSimpArgs false
set_option maxRecDepth 100000
set_option maxHeartbeats 4000000
namespace Go.I
open Go
/-! ### decimal numerals -/
def dgt (m : Nat) : List UInt8 := if m = 0 then [] else Lib.decDigits m
theorem dgt_step (m : Nat) (h : m ≠ 0) : dgt m = dgt (m / 10) ++ [UInt8.ofNat (48 + m % 10)] := by
  unfold dgt
  rw [if_neg h, Lib.decDigits]
  by_cases h1 : m < 10
  · rw [dif_pos h1, if_pos (by omega), Nat.mod_eq_of_lt h1]; rfl
  · rw [dif_neg h1, if_neg (by omega)]
theorem dgt_len (d : Nat) : ∀ m : Nat, m < 10 ^ d → (dgt m).length ≤ d := by
  induction d with
  | zero => intro m h; simp at h; subst h; simp [dgt]
  | succ d ih =>
    intro m h
    by_cases h0 : m = 0
    · subst h0; simp [dgt]
    · have := ih (m / 10) (by rw [Nat.pow_succ] at h; omega)
      rw [dgt_step m h0]
      simp
      omega
theorem digs (d : Nat) (h : d < 10) : (⟨#[48, 49, 50, 51, 52, 53, 54, 55, 56, 57]⟩ : ByteArray).extract d (d + 1) = mk [UInt8.ofNat (48 + d)] := by
  have : d = 0 ∨ d = 1 ∨ d = 2 ∨ d = 3 ∨ d = 4 ∨ d = 5 ∨ d = 6 ∨ d = 7 ∨ d = 8 ∨ d = 9 := by omega
  rcases this with rfl | rfl | rfl | rfl | rfl | rfl | rfl | rfl | rfl | rfl <;> (apply ByteArray.ext; simp [mk, ByteArray.data_extract])
theorem dec_l0 (n : Int) (hn : 0 ≤ n) (d : Nat) : ∀ (m : Nat) (xl : List UInt8), m < 10 ^ d → m ≤ 9000000000000000000 → xl.length + d ≤ 1000 → Ev (fun k => spec_DecText.l0 k n (mk xl) m) (mk (dgt m ++ xl)) := by
  induction d with
  | zero =>
    intro m xl hm _ hx
    simp at hm
    subst hm
    refine Ev.at fun k => ?_
    simp (disch := omega) only [spec_DecText.l0, if_pos, if_neg]
    rfl
  | succ d ih =>
    intro m xl hm hb hx
    by_cases h0 : m = 0
    · subst h0
      refine Ev.at fun k => ?_
      simp (disch := omega) only [spec_DecText.l0, if_pos, if_neg]
      rfl
    · have t1 : Int.tmod (m : Int) 10 = ((m % 10 : Nat) : Int) := by rw [Int.tmod_eq_emod_of_nonneg (by omega)]; omega
      have t2 : Int.tdiv (m : Int) 10 = ((m / 10 : Nat) : Int) := by rw [Int.tdiv_eq_ediv_of_nonneg (by omega)]; omega
      have hw : IntKind.wrap .i64 ((m % 10 : Nat) + 1 : Int) = (m % 10 : Nat) + 1 := w64 (by omega) (by omega)
      have hw2 : IntKind.wrap .i64 ((m / 10 : Nat) : Int) = (m / 10 : Nat) := w64 (by omega) (by omega)
      have e1 : (⟨#[48, 49, 50, 51, 52, 53, 54, 55, 56, 57]⟩ : ByteArray).extract (Int.toNat ((m % 10 : Nat) : Int)) (Int.toNat ((m % 10 : Nat) + 1 : Int)) = mk [UInt8.ofNat (48 + m % 10)] := digs (m % 10) (by omega)
      have hz : ((⟨#[48, 49, 50, 51, 52, 53, 54, 55, 56, 57]⟩ : ByteArray).size : Int) = 10 := rfl
      have z1 : ((mk [UInt8.ofNat (48 + m % 10)]).size : Int) = 1 := by rw [mk_size]; rfl
      have z2 : ((mk xl).size : Int) = xl.length := by rw [mk_size]
      have hi := ih (m / 10) ([UInt8.ofNat (48 + m % 10)] ++ xl) (by rw [Nat.pow_succ] at hm; omega) (by omega) (by simp; omega)
      rw [dgt_step m h0, List.append_assoc]
      refine Ev.step (fun k => ?_) hi
      rw [← mk_app]
      simp (disch := omega) only [spec_DecText.l0, t1, t2, hw, hw2, e1, hz, z1, z2, if_pos, if_neg]
def dec (n : Int) : List UInt8 := Lib.itoa n
theorem itoa_dd (m : Nat) (h : m ≠ 0) : Lib.itoa m = dgt m := by
  unfold Lib.itoa dgt
  rw [if_neg (by omega), if_neg h]
  rfl
theorem spec_Dec (n : Int) (h0 : 0 ≤ n) (h1 : n ≤ 1000000000) : Ev (fun k => spec_DecText.f k n) (mk (Lib.itoa n)) := by
  obtain ⟨m, rfl⟩ := Int.eq_ofNat_of_zero_le h0
  by_cases h : m = 0
  · subst h
    refine Ev.ret fun k => ?_
    have e : Lib.itoa ((0 : Nat) : Int) = [48] := by unfold Lib.itoa; rw [if_neg (by decide)]; show Lib.decDigits 0 = _; rw [Lib.decDigits, dif_pos (by decide)]; rfl
    rw [e]
    simp (disch := omega) only [spec_DecText.f, if_pos]
    rfl
  · have hd := dec_l0 m h0 10 m [] (by omega) (by omega) (by simp)
    rw [List.append_nil] at hd
    rw [itoa_dd m h]
    refine hd.congr fun k => ?_
    simp (disch := omega) only [spec_DecText.f, if_neg]
    rfl
theorem itoa_len (n : Int) (h0 : 0 ≤ n) (h1 : n ≤ 1000000000) : (Lib.itoa n).length ≤ 10 := by
  obtain ⟨m, rfl⟩ := Int.eq_ofNat_of_zero_le h0
  by_cases h : m = 0
  · subst h
    have e : Lib.itoa ((0 : Nat) : Int) = [48] := by unfold Lib.itoa; rw [if_neg (by decide)]; show Lib.decDigits 0 = _; rw [Lib.decDigits, dif_pos (by decide)]; rfl
    rw [e]; simp
  · rw [itoa_dd m h]; exact dgt_len 10 m (by omega)
theorem impl_Dec (n : Int) (h0 : 0 ≤ n) (h1 : n ≤ 1000000000) : impl_DecText.f n = some (mk (Lib.itoa n)) := by
  unfold impl_DecText.f strconv_Itoa.f
  rw [if_pos ⟨by omega, by omega⟩]
  rfl
/-! ### hexadecimal digits -/
abbrev HX : ByteArray := ⟨#[48, 49, 50, 51, 52, 53, 54, 55, 56, 57, 97, 98, 99, 100, 101, 102]⟩
def hp (x : Int) : List Int := [std.sget HX (x / 16), std.sget HX (x % 16)]
theorem hx_size : ((⟨#[48, 49, 50, 51, 52, 53, 54, 55, 56, 57, 97, 98, 99, 100, 101, 102]⟩ : ByteArray).size : Int) = 16 := rfl
theorem td16 {x : Int} (h0 : 0 ≤ x) : Int.tdiv x 16 = x / 16 := Int.tdiv_eq_ediv_of_nonneg h0
theorem tm16 {x : Int} (h0 : 0 ≤ x) : Int.tmod x 16 = x % 16 := Int.tmod_eq_emod_of_nonneg h0
theorem spec_hex_l0 (xs : List Int) (hb : ∀ x ∈ xs, 0 ≤ x ∧ x ≤ 255) (suf : List Int) : ∀ (A out : List Int) (i : Int), xs = A ++ suf → i = A.length → out.length + 2 * suf.length ≤ 1000000 → A.length + suf.length ≤ 1000000 → Ev (fun k => spec_HexText.l0 k xs out i) (std.strOf (out ++ suf.flatMap hp)) := by
  induction suf with
  | nil =>
    intro A out i h hi ho hA
    have hl : (xs.length : Int) = A.length := by rw [h]; simp
    refine Ev.at fun k => ?_
    simp (disch := omega) only [spec_HexText.l0, if_neg]
    simp
  | cons x t ih =>
    intro A out i h hi ho hA
    simp only [List.length_cons] at ho hA
    have hl : (xs.length : Int) = A.length + t.length + 1 := by rw [h]; simp; omega
    have hg : xs.getD i.toNat 0 = x := by rw [h]; exact get_mid A x 0 t hi
    obtain ⟨b0, b1⟩ := hb x (by rw [h]; simp)
    have hi2 := ih (A ++ [x]) (out ++ hp x) (i + 1) (by rw [h]; simp) (by simp; omega) (by simp [hp]; omega) (by simp; omega)
    rw [List.flatMap_cons, ← List.append_assoc]
    have q1 : IntKind.wrap .u8 (x / 16) = x / 16 := w8 (by omega) (by omega)
    refine Ev.step (fun k => ?_) hi2
    simp (disch := omega) only [spec_HexText.l0, hg, td16 b0, tm16 b0, q1, hx_size, if_pos, if_neg, w64, List.length_cons, List.length_nil]
    rfl
theorem impl_hex_l0 (l : List UInt8) (suf : List UInt8) : ∀ (A : List UInt8) (out : List Int) (i : Int), l = A ++ suf → i = A.length → out.length + 2 * suf.length ≤ 1000000 → A.length + suf.length ≤ 1000000 → Ev (fun k => impl_hexText.l0 k (mk l) out i) (std.strOf (out ++ suf.flatMap fun c => hp c.toNat)) := by
  have hs : ((mk l).size : Int) = l.length := by rw [mk_size]
  induction suf with
  | nil =>
    intro A out i h hi ho hA
    have hl : (l.length : Int) = A.length := by rw [h]; simp
    refine Ev.at fun k => ?_
    simp (disch := omega) only [impl_hexText.l0, if_neg]
    simp
  | cons c t ih =>
    intro A out i h hi ho hA
    simp only [List.length_cons] at ho hA
    have hl : (l.length : Int) = A.length + t.length + 1 := by rw [h]; simp; omega
    have hg : std.sget (mk l) i = c.toNat := by rw [h]; exact mk_get A c t hi
    obtain ⟨b0, b1⟩ := u8_lt c
    have hi2 := ih (A ++ [c]) (out ++ hp c.toNat) (i + 1) (by rw [h]; simp) (by simp; omega) (by simp [hp]; omega) (by simp; omega)
    rw [List.flatMap_cons, ← List.append_assoc]
    generalize (c.toNat : Int) = x at hg b0 b1 hi2
    have q1 : IntKind.wrap .u8 (x / 16) = x / 16 := w8 (by omega) (by omega)
    refine Ev.step (fun k => ?_) hi2
    simp (disch := omega) only [impl_hexText.l0, hg, td16 b0, tm16 b0, q1, hx_size, if_pos, if_neg, w64, List.length_cons, List.length_nil]
    rfl
/-- The digits of a text, or a sign for none. -/
def hex (l : List UInt8) : ByteArray := if l = [] then ⟨#[45]⟩ else std.strOf (l.flatMap fun c => hp c.toNat)
theorem mk_nil (l : List UInt8) : mk l = (⟨#[]⟩ : ByteArray) ↔ l = [] := ⟨fun h => (mk_inj (a := l) (b := [])).1 h, fun h => by subst h; rfl⟩
theorem strOf_size (l : List Int) : (std.strOf l).size = l.length := strOfNums_size l
theorem fm_len {α : Type} (l : List α) (f : α → Int) : (l.flatMap fun c => hp (f c)).length = 2 * l.length := by
  induction l with
  | nil => rfl
  | cons a t ih => rw [List.flatMap_cons, List.length_append, ih]; simp [hp]; omega
theorem hex_size (l : List UInt8) (h : l.length ≤ 20000) : ((hex l).size : Int) ≤ 40000 := by
  unfold hex
  split
  · decide
  · rw [strOf_size, fm_len l (fun c => (c.toNat : Int))]; omega
theorem spec_hex (l : List UInt8) (h : l.length ≤ 20000) : Ev (fun k => spec_l20Hex.f k (mk l)) (hex l) := by
  have hs : ((mk l).size : Int) = l.length := by rw [mk_size]
  unfold hex
  by_cases h0 : l = []
  · subst h0
    exact Ev.ret fun k => by unfold spec_l20Hex.f; rw [if_pos rfl]; rfl
  · have h1 : ¬ mk l = (⟨#[]⟩ : ByteArray) := fun e => h0 ((mk_nil l).1 e)
    have e : std.bytesOf (mk l) = l.map fun c => (c.toNat : Int) := by show (mk l).data.toList.map _ = _; rw [mk_data]
    have hb : ∀ x ∈ std.bytesOf (mk l), 0 ≤ x ∧ x ≤ 255 := fun x hx => by
      rw [e] at hx
      obtain ⟨c, _, rfl⟩ := List.mem_map.1 hx
      exact u8_lt c
    have hl := spec_hex_l0 (std.bytesOf (mk l)) hb (std.bytesOf (mk l)) [] [] 0 rfl rfl (by rw [e]; simp; omega) (by rw [e]; simp; omega)
    have hlen : ((std.bytesOf (mk l)).length : Int) = l.length := by rw [e]; simp
    rw [if_neg h0]
    have e2 : std.strOf ([] ++ (std.bytesOf (mk l)).flatMap hp) = std.strOf (l.flatMap fun c => hp c.toNat) := by rw [e, List.flatMap_map]; rfl
    rw [e2] at hl
    simp (disch := omega) only [spec_l20Hex.f, if_neg h1, if_pos]
    refine Ev.bind (hl.congr fun k => ?_) Ev.sm
    simp (disch := omega) only [spec_HexText.f, if_neg]
theorem impl_hex (l : List UInt8) (h : l.length ≤ 20000) : Ev (fun k => impl_hexOf.f k (mk l)) (hex l) := by
  have hs : ((mk l).size : Int) = l.length := by rw [mk_size]
  unfold hex
  by_cases h0 : l = []
  · subst h0
    exact Ev.ret fun k => by unfold impl_hexOf.f; rw [if_pos rfl]; rfl
  · have h1 : ¬ mk l = (⟨#[]⟩ : ByteArray) := fun e => h0 ((mk_nil l).1 e)
    have hl := impl_hex_l0 l l [] [] 0 rfl rfl (by simp; omega) (by simp; omega)
    rw [if_neg h0]
    simp only [impl_hexOf.f, if_neg h1]
    refine Ev.bind (hl.congr fun k => ?_) Ev.sm
    have hw : IntKind.wrap .i64 (2 * ((mk l).size : Int)) = 2 * ((mk l).size : Int) := w64 (by omega) (by omega)
    simp (disch := omega) only [impl_hexText.f, hw, if_pos]
    rfl
/-! ### a node's line -/
theorem join_mk (l : List (List UInt8)) (q : UInt8) (h1 : l.length ≤ 1000) (h : (Lib.join l [q]).length ≤ 140737488355328) : strings_Join.f (l.map mk) (mk [q]) = some (mk (Lib.join l [q])) := by
  have e : (l.map mk).map (fun s => s.data.toList) = l := by rw [List.map_map]; conv => rhs; rw [← List.map_id l]
                                                             exact List.map_congr_left fun a _ => mk_data a
  unfold strings_Join.f
  rw [e, mk_data, if_pos ⟨by simp; omega, h⟩]
  rfl
/-- The words of a node's line, and the line. -/
def lw (n : GNode) : List (List UInt8) :=
  if n.Kind = 0 then [[100], n.Path.data.toList, Lib.itoa n.Mode, Lib.itoa n.Time]
  else if n.Kind = 1 then [[102], n.Path.data.toList, Lib.itoa n.Mode, Lib.itoa n.Time, Lib.itoa n.Group, (hex n.Data.data.toList).data.toList]
  else [[108], n.Path.data.toList, Lib.itoa n.Time, (hex n.Target.data.toList).data.toList]
def line (n : GNode) : ByteArray := mk (Lib.join (lw n) [32])
/-- What a right node is of. -/
theorem nOk_facts {n : GNode} (h : nOk n = true) : n.Path.size ≤ 168 ∧ (0 ≤ n.Mode ∧ n.Mode ≤ 511) ∧ (0 ≤ n.Time ∧ n.Time ≤ 1000000000) ∧ (0 ≤ n.Group ∧ n.Group ≤ 200) ∧ n.Data.size ≤ 20000 ∧ n.Target.size ≤ 60 ∧ (n.Kind = 0 ∨ n.Kind = 1 ∨ n.Kind = 2) := by
  unfold nOk at h
  simp only [Bool.and_eq_true, decide_eq_true_eq] at h
  obtain ⟨h1, h2, h3, h4⟩ := h
  have h1 := pth_small h1
  rw [ba_len] at h1
  refine ⟨h1, h2, h3, ?_⟩
  have hz : (⟨#[]⟩ : ByteArray).size = 0 := rfl
  split at h4
  · simp only [Bool.and_eq_true, decide_eq_true_eq] at h4
    obtain ⟨a, b, c⟩ := h4
    rw [a, b, c, hz]
    omega
  · split at h4
    · simp only [Bool.and_eq_true, decide_eq_true_eq] at h4
      obtain ⟨a, b, c⟩ := h4
      rw [b, hz]
      omega
    · split at h4
      · simp only [Bool.and_eq_true, decide_eq_true_eq] at h4
        obtain ⟨a, b, c, d, _⟩ := h4
        rw [a, c, hz]
        omega
      · cases h4
end Go.I

/-! IQ5 -/
set_option linter.unusedVariables false
set_option linter.unusedSimpArgs false
set_option maxRecDepth 100000
set_option maxHeartbeats 4000000
namespace Go.I
open Go
theorem Ev.guard {α : Type} {c : Prop} [Decidable c] {f : Nat → Option α} {v : α} (hc : c) (h : Ev f v) : Ev (fun k => if c then f k else none) v := h.congr fun k => by rw [if_pos hc]
theorem Ev.some {α β : Type} {o : Option α} {a : α} {g : Nat → α → Option β} {v : β} (h : o = some a) (h2 : Ev (fun k => g k a) v) : Ev (fun k => o.bind (g k)) v := h2.congr fun k => by rw [h, bnd]
theorem join4 (a b c d : List UInt8) : Lib.join [a, b, c, d] [32] = a ++ [32] ++ b ++ [32] ++ c ++ [32] ++ d := by simp [Lib.join, List.intercalate, List.intersperse]
theorem join6 (a b c d e f : List UInt8) : Lib.join [a, b, c, d, e, f] [32] = a ++ [32] ++ b ++ [32] ++ c ++ [32] ++ d ++ [32] ++ e ++ [32] ++ f := by simp [Lib.join, List.intercalate, List.intersperse]
theorem sz1 (x : UInt8) : (⟨#[x]⟩ : ByteArray).size = 1 := rfl
theorem sz2 (x y : UInt8) : (⟨#[x, y]⟩ : ByteArray).size = 2 := rfl
theorem mk1 (x : UInt8) : (⟨#[x]⟩ : ByteArray) = mk [x] := rfl
theorem mk2 (x y : UInt8) : (⟨#[x, y]⟩ : ByteArray) = mk [x, y] := rfl
theorem mk_of (s : ByteArray) : s = mk s.data.toList := (mk_self s).symm
theorem hexB_size (l : List UInt8) (h : l.length ≤ 20000) : (hex l).size ≤ 40000 := by have := hex_size l h; omega
theorem spec_Show (n : GNode) : Ev (fun k => spec_ShowNode.f k n) (if nOk n = true then line n else ⟨#[]⟩) := by
  simp only [spec_ShowNode.f]
  refine Ev.bind (spec_Node n) ?_
  by_cases h : nOk n = true
  · obtain ⟨hP, ⟨m0, m1⟩, ⟨t0, t1⟩, ⟨g0, g1⟩, hD, hT, hK⟩ := nOk_facts h
    simp only [if_pos h]
    have hM := spec_Dec n.Mode m0 (by omega)
    have hTm := spec_Dec n.Time t0 t1
    have hG := spec_Dec n.Group g0 (by omega)
    have lM : (mk (Lib.itoa n.Mode)).size ≤ 10 := by rw [mk_size]; exact itoa_len _ m0 (by omega)
    have lT : (mk (Lib.itoa n.Time)).size ≤ 10 := by rw [mk_size]; exact itoa_len _ t0 t1
    have lG : (mk (Lib.itoa n.Group)).size ≤ 10 := by rw [mk_size]; exact itoa_len _ g0 (by omega)
    have eD := ba_len n.Data
    have eT := ba_len n.Target
    have hxD := spec_hex n.Data.data.toList (by omega)
    have hxT := spec_hex n.Target.data.toList (by omega)
    rw [mk_self] at hxD hxT
    have lxD := hexB_size n.Data.data.toList (by omega)
    have lxT := hexB_size n.Target.data.toList (by omega)
    unfold line lw
    by_cases k0 : n.Kind = 0
    · simp only [if_pos k0]
      refine Ev.guard (by simp only [sz1, sz2, ByteArray.size_append]; omega) (Ev.guard (by simp only [sz1, sz2, ByteArray.size_append]; omega) (Ev.bind hM ?_))
      refine Ev.guard (by simp only [sz1, sz2, ByteArray.size_append]; omega) (Ev.guard (by simp only [sz1, sz2, ByteArray.size_append]; omega) (Ev.bind hTm ?_))
      refine Ev.guard (by simp only [sz1, sz2, ByteArray.size_append]; omega) (Ev.ret fun k => ?_)
      rw [join4, mk_of n.Path, mk_data]
      simp only [mk1, mk2, mk_app]
      simp
    · simp only [if_neg k0]
      by_cases k1 : n.Kind = 1
      · simp only [if_pos k1]
        refine Ev.guard (by simp only [sz1, sz2, ByteArray.size_append]; omega) (Ev.guard (by simp only [sz1, sz2, ByteArray.size_append]; omega) (Ev.bind hM ?_))
        refine Ev.guard (by simp only [sz1, sz2, ByteArray.size_append]; omega) (Ev.guard (by simp only [sz1, sz2, ByteArray.size_append]; omega) (Ev.bind hTm ?_))
        refine Ev.guard (by simp only [sz1, sz2, ByteArray.size_append]; omega) (Ev.guard (by simp only [sz1, sz2, ByteArray.size_append]; omega) (Ev.bind hG ?_))
        refine Ev.guard (by simp only [sz1, sz2, ByteArray.size_append]; omega) (Ev.guard (by simp only [sz1, sz2, ByteArray.size_append]; omega) (Ev.bind hxD ?_))
        refine Ev.guard (by simp only [sz1, sz2, ByteArray.size_append]; omega) (Ev.ret fun k => ?_)
        rw [join6, mk_of n.Path, mk_data, mk_of (hex n.Data.data.toList), mk_data]
        simp only [mk1, mk2, mk_app]
        simp
      · simp only [if_neg k1]
        refine Ev.guard (by simp only [sz1, sz2, ByteArray.size_append]; omega) (Ev.guard (by simp only [sz1, sz2, ByteArray.size_append]; omega) (Ev.bind hTm ?_))
        refine Ev.guard (by simp only [sz1, sz2, ByteArray.size_append]; omega) (Ev.guard (by simp only [sz1, sz2, ByteArray.size_append]; omega) (Ev.bind hxT ?_))
        refine Ev.guard (by simp only [sz1, sz2, ByteArray.size_append]; omega) (Ev.ret fun k => ?_)
        rw [join4, mk_of n.Path, mk_data, mk_of (hex n.Target.data.toList), mk_data]
        simp only [mk1, mk2, mk_app]
        simp
  · simp only [if_neg h]
    exact Ev.ret fun k => rfl
theorem join_of (l : List (List UInt8)) (l' : List ByteArray) (hl : l' = l.map mk) (h1 : l.length ≤ 1000) (h : (Lib.join l [32]).length ≤ 140737488355328) : strings_Join.f l' (⟨#[32]⟩ : ByteArray) = some (mk (Lib.join l [32])) := by
  subst hl
  exact join_mk l 32 h1 h
theorem impl_show (n : GNode) (h : nOk n = true) : Ev (fun k => impl_showNode.f k n) (line n) := by
  obtain ⟨hP, ⟨m0, m1⟩, ⟨t0, t1⟩, ⟨g0, g1⟩, hD, hT, hK⟩ := nOk_facts h
  have hM := impl_Dec n.Mode m0 (by omega)
  have hTm := impl_Dec n.Time t0 t1
  have hG := impl_Dec n.Group g0 (by omega)
  have lM : (Lib.itoa n.Mode).length ≤ 10 := itoa_len _ m0 (by omega)
  have lT : (Lib.itoa n.Time).length ≤ 10 := itoa_len _ t0 t1
  have lG : (Lib.itoa n.Group).length ≤ 10 := itoa_len _ g0 (by omega)
  have eD := ba_len n.Data
  have eT := ba_len n.Target
  have eP := ba_len n.Path
  have hxD := impl_hex n.Data.data.toList (by omega)
  have hxT := impl_hex n.Target.data.toList (by omega)
  rw [mk_self] at hxD hxT
  have lxD := hexB_size n.Data.data.toList (by omega)
  have lxT := hexB_size n.Target.data.toList (by omega)
  have exD := ba_len (hex n.Data.data.toList)
  have exT := ba_len (hex n.Target.data.toList)
  simp only [impl_showNode.f]
  unfold line lw
  by_cases k0 : n.Kind = 0
  · simp only [if_pos k0]
    refine Ev.some hM (Ev.some hTm ?_)
    rw [join_of [[100], n.Path.data.toList, Lib.itoa n.Mode, Lib.itoa n.Time] _ (by simp only [List.map_cons, List.map_nil, mk_self]; rfl) (by simp) (by rw [join4]; simp; omega)]
    exact Ev.ret fun k => rfl
  · simp only [if_neg k0]
    by_cases k1 : n.Kind = 1
    · simp only [if_pos k1]
      refine Ev.some hM (Ev.some hTm (Ev.some hG (Ev.bind hxD ?_)))
      rw [join_of [[102], n.Path.data.toList, Lib.itoa n.Mode, Lib.itoa n.Time, Lib.itoa n.Group, (hex n.Data.data.toList).data.toList] _ (by simp only [List.map_cons, List.map_nil, mk_self]; rfl) (by simp) (by rw [join6]; simp; omega)]
      exact Ev.ret fun k => rfl
    · simp only [if_neg k1]
      refine Ev.some hTm (Ev.bind hxT ?_)
      rw [join_of [[108], n.Path.data.toList, Lib.itoa n.Time, (hex n.Target.data.toList).data.toList] _ (by simp only [List.map_cons, List.map_nil, mk_self]; rfl) (by simp) (by rw [join4]; simp; omega)]
      exact Ev.ret fun k => rfl
theorem impl_Show (n : GNode) : Ev (fun k => impl_ShowNode.f k n) (if nOk n = true then line n else ⟨#[]⟩) := by
  simp only [impl_ShowNode.f]
  refine Ev.bind (impl_Node n) ?_
  by_cases h : nOk n = true
  · simp only [if_pos h]
    exact Ev.bind (impl_show n h) (Ev.ret fun k => rfl)
  · simp only [if_neg h]
    exact Ev.ret fun k => rfl
end Go.I

/-! IQShow -/
set_option linter.unusedVariables false
set_option maxRecDepth 100000
set_option maxHeartbeats 4000000
namespace Go.I
open Go
theorem szNode_some (n : GNode) (x : Int) : ∃ r, laws_szNode.f n x = some r := by
  unfold laws_szNode.f
  split
  · exact ⟨_, rfl⟩
  · split
    · exact ⟨_, rfl⟩
    · split <;> exact ⟨_, rfl⟩
/-- The law. -/
theorem showNode_law (n : GNode) {h : Prop} (_ : h) : ∃ k, laws_FnExactShowNode.f k n = some true := by
  obtain ⟨r, hr⟩ := szNode_some n 1048576
  have key : Ev (fun k => laws_FnExactShowNode.f k n) true := by
    simp only [laws_FnExactShowNode.f, laws_toNode.f, bnd]
    refine Ev.some hr ?_
    by_cases h : r < 0
    · simp only [if_pos h]; exact Ev.sm
    · simp only [if_neg h]
      exact Ev.bind (spec_Show n) (Ev.bind (impl_Show n) (Ev.ret fun k => by rw [if_pos rfl]))
  obtain ⟨K, hK⟩ := key
  exact ⟨K, hK K (Nat.le_refl _)⟩
end Go.I
