/- The law in plain Lean: what the reference reads out of any bytes is what the program reads out of them. No condition. -/
import Derived.Test.YtogfddilolannaaDoorKEIRb
import Derived.Laws.BitsLemmas
import Derived.Lib.SplitLaws
import Derived.Lib.IndexBytes
import Derived.Lib.AtoiTie
/-! EIP0 -/
set_option linter.unusedVariables false
set_option linter.unusedSimpArgs false
set_option maxRecDepth 100000
set_option maxHeartbeats 4000000
namespace Go.I
open Go
/-- From some fuel on, f answers v. -/
def Ev {α : Type} (f : Nat → Option α) (v : α) : Prop := ∃ K, ∀ k, K ≤ k → f k = some v
section
variable {α β : Type}
theorem Ev.ret {f : Nat → Option α} {v : α} (h : ∀ k, f k = some v) : Ev f v := ⟨0, fun k _ => h k⟩
theorem Ev.at {f : Nat → Option α} {v : α} (h : ∀ k, f (k + 1) = some v) : Ev f v := ⟨1, fun k hk => by
  obtain ⟨j, rfl⟩ : ∃ j, k = j + 1 := ⟨k - 1, by omega⟩
  exact h j⟩
theorem Ev.step {f g : Nat → Option α} {v : α} (h : ∀ k, f (k + 1) = g k) (hg : Ev g v) : Ev f v := by
  obtain ⟨K, hg⟩ := hg
  refine ⟨K + 1, fun k hk => ?_⟩
  obtain ⟨j, rfl⟩ : ∃ j, k = j + 1 := ⟨k - 1, by omega⟩
  rw [h, hg j (by omega)]
theorem Ev.congr {f g : Nat → Option α} {v : α} (h : ∀ k, f k = g k) (hg : Ev g v) : Ev f v := by
  obtain ⟨K, hg⟩ := hg
  exact ⟨K, fun k hk => by rw [h, hg k hk]⟩
theorem Ev.bind {f : Nat → Option α} {g : Nat → α → Option β} {a : α} {v : β} (h1 : Ev f a) (h2 : Ev (fun k => g k a) v) : Ev (fun k => (f k).bind (g k)) v := by
  obtain ⟨K, h1⟩ := h1
  obtain ⟨L, h2⟩ := h2
  refine ⟨K + L, fun k hk => ?_⟩
  show (f k).bind (g k) = some v
  rw [h1 k (by omega), Option.bind_some]
  exact h2 k (by omega)
theorem Ev.det {f : Nat → Option α} {u v : α} (h1 : Ev f u) (h2 : Ev f v) : u = v := by
  obtain ⟨K, h1⟩ := h1
  obtain ⟨L, h2⟩ := h2
  have e1 := h1 (K + L) (by omega)
  rw [h2 (K + L) (by omega)] at e1
  exact (Option.some.inj e1).symm
end
theorem w64 {x : Int} (h0 : -9223372036854775808 ≤ x) (h1 : x ≤ 9223372036854775807) : IntKind.wrap .i64 x = x := by rw [IntKind.wrap_i64]; omega
theorem w8 {x : Int} (h0 : 0 ≤ x) (h1 : x ≤ 255) : IntKind.wrap .u8 x = x := by rw [IntKind.wrap_u8]; omega
theorem w32 {x : Int} (h0 : 0 ≤ x) (h1 : x ≤ 4294967295) : IntKind.wrap .u32 x = x := by rw [IntKind.wrap_u32]; omega
/-- (No unfolding: the kernel goes astray among big conditions.) -/
theorem bnd {α β : Type} (a : α) (f : α → Option β) : (some a).bind f = f a := by
  have h : ∀ o : Option α, o = some a → o.bind f = f a := fun o ho => by subst ho; exact Option.bind_some ..
  exact h _ rfl
/-! ### lists -/
theorem get_mid {α : Type} (pre : List α) (x d : α) (t : List α) {i : Int} (hi : i = pre.length) : (pre ++ x :: t).getD i.toNat d = x := by subst hi; simp
theorem set_mid {α : Type} (pre : List α) (x y : α) (t : List α) {i : Int} (hi : i = pre.length) : (pre ++ x :: t).set i.toNat y = pre ++ y :: t := by subst hi; simp
theorem len_mid {α : Type} (pre : List α) (x : α) (t : List α) : ((pre ++ x :: t).length : Int) = pre.length + t.length + 1 := by simp; omega
theorem len_app {α : Type} (pre t : List α) : ((pre ++ t).length : Int) = pre.length + t.length := by simp
end Go.I

/-! EIQ1 -/
set_option linter.unusedVariables false
set_option linter.unusedSimpArgs false
set_option maxRecDepth 100000
set_option maxHeartbeats 4000000
namespace Go.I
open Go
/-! ### texts as lists of bytes -/
def mk (l : List UInt8) : ByteArray := ⟨l.toArray⟩
theorem mk_self (s : ByteArray) : mk s.data.toList = s := by simp [mk]
theorem mk_data (l : List UInt8) : (mk l).data.toList = l := by simp [mk]
theorem mk_size (l : List UInt8) : (mk l).size = l.length := by simp [mk, ByteArray.size]
theorem mk_inj {a b : List UInt8} : mk a = mk b ↔ a = b := ⟨fun h => by have := congrArg (fun s : ByteArray => s.data.toList) h; simpa [mk] using this, fun h => h ▸ rfl⟩
theorem mk_app (a b : List UInt8) : mk a ++ mk b = mk (a ++ b) := by
  apply ByteArray.ext
  simp [mk, ByteArray.data_append]
theorem mk_cut (A p s : List UInt8) {i j : Nat} (hi : i = A.length) (hj : j = A.length + p.length) : (mk (A ++ p ++ s)).extract i j = mk p := by
  subst hi; subst hj
  apply ByteArray.ext
  simp [mk, ByteArray.data_extract]
theorem mk_get (A : List UInt8) (c : UInt8) (t : List UInt8) {i : Int} (hi : i = A.length) : std.sget (mk (A ++ c :: t)) i = c.toNat := by
  subst hi
  have h : (A.length : Int).toNat < (mk (A ++ c :: t)).size := by rw [mk_size]; simp
  show (if h : (A.length : Int).toNat < (mk (A ++ c :: t)).size then (((mk (A ++ c :: t))[(A.length : Int).toNat]'h).toNat : Int) else 0) = _
  rw [dif_pos h]
  congr 1
  simp [mk, ByteArray.getElem_eq_getElem_data]
theorem u8_ne {c q : UInt8} (h : c ≠ q) : (c.toNat : Int) ≠ q.toNat := fun e => h (UInt8.toNat_inj.1 (by omega))
/-! ### pieces between separators -/
def pcs (q : UInt8) : List UInt8 → List UInt8 → List ByteArray
  | pre, [] => [mk pre]
  | pre, c :: t => if c = q then mk pre :: pcs q [] t else pcs q (pre ++ [c]) t
theorem pcs_len (q : UInt8) : ∀ suf pre, (pcs q pre suf).length ≤ suf.length + 1 ∧ 0 < (pcs q pre suf).length
  | [], pre => by simp [pcs]
  | c :: t, pre => by
    unfold pcs
    split
    · have := pcs_len q t []; simp; omega
    · have := pcs_len q t (pre ++ [c]); simp; omega
def szs (l : List ByteArray) : Nat := (l.map ByteArray.size).sum
theorem pcs_size (q : UInt8) : ∀ suf pre, szs (pcs q pre suf) + (pcs q pre suf).length = pre.length + suf.length + 1
  | [], pre => by simp [pcs, szs, mk_size]
  | c :: t, pre => by
    unfold pcs
    split
    · have := pcs_size q t []
      simp [szs, mk_size] at this ⊢
      omega
    · have := pcs_size q t (pre ++ [c])
      simp [szs] at this ⊢
      omega
theorem count_mk (q : UInt8) (l : List UInt8) : Lib.countB (mk l) (mk [q]) = l.count q := by
  show Lib.count (mk l).data.toList (mk [q]).data.toList = _
  rw [mk_data, mk_data, Lib.count_one]
theorem index_mk (q : UInt8) (l : List UInt8) : Lib.indexB (mk l) (mk [q]) = Lib.indexByte l q := by
  show Lib.index (mk l).data.toList (mk [q]).data.toList = _
  rw [mk_data, mk_data, Lib.index_one]
theorem indexByte_hit (q : UInt8) (t : List UInt8) : ∀ pre : List UInt8, q ∉ pre → Lib.indexByte (pre ++ q :: t) q = pre.length
  | [], _ => by simp [Lib.indexByte]
  | b :: l, h => by
    have h1 : ¬ b = q := fun e => h (by simp [e])
    have h2 := indexByte_hit q t l (fun hm => h (by simp [hm]))
    have h3 : ¬ ((l.length : Int) == -1) = true := by simp
    show (if b == q then 0 else if Lib.indexByte (l ++ q :: t) q == -1 then -1 else Lib.indexByte (l ++ q :: t) q + 1) = _
    rw [h2, if_neg (by simpa using h1), if_neg h3]
    simp
theorem indexByte_pos (q : UInt8) : ∀ l : List UInt8, 0 ≤ Lib.indexByte l q ↔ q ∈ l
  | [] => by simp [Lib.indexByte]
  | b :: l => by
    have ih := indexByte_pos q l
    unfold Lib.indexByte
    by_cases h : b = q
    · subst h; simp
    · have h' : ¬ q = b := fun e => h e.symm
      rw [if_neg (by simpa using h)]
      simp only [List.mem_cons, h', false_or]
      by_cases h2 : Lib.indexByte l q = -1
      · rw [if_pos (by simp [h2]), ← ih, h2]
      · rw [if_neg (by simpa using h2), ← ih]
        have := Lib.indexByte_ge l q
        omega
theorem split_pcs (q : UInt8) : ∀ suf pre : List UInt8, q ∉ pre → Lib.splitB (mk [q]) 0 (Lib.countB (mk (pre ++ suf)) (mk [q])) (mk (pre ++ suf)) = pcs q pre suf
  | [], pre, h => by
    rw [List.append_nil, count_mk, List.count_eq_zero.2 h]
    rfl
  | c :: t, pre, h => by
    by_cases hc : c = q
    · subst hc
      have ih := split_pcs c t [] (by simp)
      rw [List.nil_append] at ih
      rw [count_mk, List.count_append, List.count_eq_zero.2 h, List.count_cons_self, Nat.zero_add, Lib.splitB_hit _ _ _ _ pre.length (by rw [index_mk, indexByte_hit c t pre h])]
      have e1 : (mk (pre ++ c :: t)).extract 0 (pre.length + 0) = mk pre := by
        have := mk_cut [] pre (c :: t) (i := 0) (j := pre.length + 0) rfl (by simp)
        simpa using this
      have e2 : (mk (pre ++ c :: t)).extract (pre.length + (mk [c]).size) (mk (pre ++ c :: t)).size = mk t := by
        have := mk_cut (pre ++ [c]) t [] (i := pre.length + (mk [c]).size) (j := (mk (pre ++ c :: t)).size) (by simp [mk_size]) (by simp [mk_size]; omega)
        simpa using this
      rw [e1, e2, ← count_mk, ih]
      simp [pcs]
    · have ih := split_pcs q t (pre ++ [c]) (by simp [h]; exact fun e => hc e.symm)
      simp only [List.append_assoc, List.singleton_append] at ih
      rw [ih]
      simp [pcs, hc]
theorem Split_mk (q : UInt8) (l : List UInt8) (h : l.length < 4294967281) : strings_Split.f (mk l) (mk [q]) = some (pcs q [] l) := by
  have := split_pcs q l [] (by simp)
  simp only [List.nil_append] at this
  unfold strings_Split.f
  rw [if_pos ⟨by rw [mk_size]; exact h, by rw [mk_size]; rfl⟩, this]
theorem Contains_mk (q : UInt8) (l : List UInt8) : strings_Contains.f (mk l) (mk [q]) = some (decide (q ∈ l)) := by
  unfold strings_Contains.f
  rw [if_pos (by rw [mk_size]; rfl), mk_data, mk_data]
  congr 1
  exact decide_eq_decide.2 (indexByte_pos q l)
/-- The reference's pieces. -/
theorem l02Names_l0 (a : ByteArray) (ha : a.size ≤ 1000) (suf : List UInt8) : ∀ (A pre : List UInt8) (out : List ByteArray) (f i : Int), a = mk (A ++ pre ++ suf) → f = A.length → i = A.length + pre.length → out.length + suf.length ≤ 2000 →
    Ev (fun k => spec_l02Names.l0 k a out f i) (out ++ pcs 47 pre suf) := by
  induction suf with
  | nil =>
    intro A pre out f i h hf hi ho
    have hs : (a.size : Int) = A.length + pre.length := by rw [h, mk_size]; simp
    have hx : a.extract f.toNat (a.size : Int).toNat = mk pre := by rw [h]; exact mk_cut A pre [] (by omega) (by rw [mk_size]; simp; omega)
    simp only [List.length_nil] at ho
    refine Ev.at fun k => ?_
    simp (disch := omega) only [spec_l02Names.l0, if_neg, if_pos, hx, List.length_cons, List.length_nil]
    rfl
  | cons c t ih =>
    intro A pre out f i h hf hi ho
    have hs : (a.size : Int) = A.length + pre.length + t.length + 1 := by rw [h, mk_size]; simp; omega
    simp only [List.length_cons] at ho
    have hg : std.sget a i = c.toNat := by
      rw [h, List.append_assoc, ← List.append_assoc A pre]
      exact mk_get (A ++ pre) c t (by simp; omega)
    by_cases hc : c = 47
    · subst hc
      have hx : a.extract f.toNat i.toNat = mk pre := by rw [h]; exact mk_cut A pre (47 :: t) (by omega) (by omega)
      have hg' : std.sget a i = 47 := hg
      have hi2 := ih (A ++ pre ++ [47]) [] (out ++ [mk pre]) (i + 1) (i + 1) (by rw [h]; simp) (by simp; omega) (by simp; omega) (by simp; omega)
      refine Ev.step (fun k => ?_) (by simpa [pcs] using hi2)
      simp (disch := omega) only [spec_l02Names.l0, if_pos, hx, w64, List.length_cons, List.length_nil]
    · have hg' : std.sget a i ≠ 47 := by rw [hg]; exact u8_ne hc
      have hi2 := ih A (pre ++ [c]) out f (i + 1) (by rw [h]; simp) hf (by simp; omega) (by omega)
      refine Ev.step (fun k => ?_) (by simpa [pcs, hc] using hi2)
      simp (disch := omega) only [spec_l02Names.l0, if_pos, if_neg, w64]
theorem l02Names_ev (l : List UInt8) (h : l.length ≤ 1000) : Ev (fun k => spec_l02Names.f k (mk l)) (pcs 47 [] l) :=
  (l02Names_l0 (mk l) (by rw [mk_size]; exact h) l [] [] [] 0 0 rfl rfl rfl (by simp; omega)).congr fun k => rfl
end Go.I

/-! EIQ2 -/
set_option linter.unusedVariables false
set_option linter.unusedSimpArgs false
set_option maxRecDepth 100000
set_option maxHeartbeats 4000000
namespace Go.I
open Go
theorem l01In_eq (x a b : Int) : spec_l01In.f x a b = some (decide (a ≤ x ∧ x ≤ b)) := by
  unfold spec_l01In.f
  by_cases h : a ≤ x <;> simp [h]
theorem within_eq (x a b : Int) : impl_within.f x a b = some (decide (a ≤ x ∧ x ≤ b)) := by
  unfold impl_within.f
  by_cases h : a ≤ x <;> simp [h]
/-! ### names -/
def nc (x : Int) : Bool := decide ((97 ≤ x ∧ x ≤ 122) ∨ (65 ≤ x ∧ x ≤ 90) ∨ (48 ≤ x ∧ x ≤ 57) ∨ x = 46 ∨ x = 95 ∨ x = 45)
def ncs (l : List UInt8) : Bool := l.all fun c => nc c.toNat
def nmRest (l : List UInt8) : Bool := decide (1 ≤ (l.length : Int) ∧ (l.length : Int) ≤ 20) && (decide (¬ mk l = (⟨#[46]⟩ : ByteArray)) && decide (¬ mk l = (⟨#[46, 46]⟩ : ByteArray)))
def nm (l : List UInt8) : Bool := ncs l && nmRest l
theorem u8_lt (c : UInt8) : (0 : Int) ≤ c.toNat ∧ (c.toNat : Int) ≤ 255 := by have := c.toNat_lt; omega
theorem spec_Name_l0 (suf : List UInt8) : ∀ (A : List UInt8) (a : ByteArray) (i : Int), a = mk (A ++ suf) → i = A.length → (A ++ suf).length ≤ 1000000000 → Ev (fun k => spec_NameOk.l0 k a i) (ncs suf) := by
  induction suf with
  | nil =>
    intro A a i h hi hl
    have hs : (a.size : Int) = A.length := by rw [h, mk_size]; simp
    refine Ev.at fun k => ?_
    simp (disch := omega) only [spec_NameOk.l0, if_neg]
    rfl
  | cons c t ih =>
    intro A a i h hi hl
    have hs : (a.size : Int) = A.length + t.length + 1 := by rw [h, mk_size]; simp; omega
    have hl' : A.length + t.length + 1 ≤ 1000000000 := by simp at hl; omega
    have hg : std.sget a i = c.toNat := by rw [h]; exact mk_get A c t hi
    obtain ⟨b0, b1⟩ := u8_lt c
    have hn := ih (A ++ [c]) a (i + 1) (by rw [h]; simp) (by simp; omega) (by simpa using hl)
    have hall : ncs (c :: t) = (nc c.toNat && ncs t) := rfl
    rw [hall]
    generalize hx : (c.toNat : Int) = x at hg b0 b1
    by_cases h1 : nc x = true
    · rw [h1, Bool.true_and]
      refine Ev.step (fun k => ?_) hn
      have h1 := of_decide_eq_true h1
      by_cases c1 : 97 ≤ x ∧ x ≤ 122
      · simp (disch := omega) only [spec_NameOk.l0, l01In_eq, bnd, decide_eq_true_eq, hg, if_pos, if_neg, w64]
      by_cases c2 : 65 ≤ x ∧ x ≤ 90
      · simp (disch := omega) only [spec_NameOk.l0, l01In_eq, bnd, decide_eq_true_eq, hg, if_pos, if_neg, w64]
      by_cases c3 : 48 ≤ x ∧ x ≤ 57
      · simp (disch := omega) only [spec_NameOk.l0, l01In_eq, bnd, decide_eq_true_eq, hg, if_pos, if_neg, w64]
      by_cases c4 : x = 46
      · simp (disch := omega) only [spec_NameOk.l0, l01In_eq, bnd, decide_eq_true_eq, hg, if_pos, if_neg, w64]
      by_cases c5 : x = 95
      · simp (disch := omega) only [spec_NameOk.l0, l01In_eq, bnd, decide_eq_true_eq, hg, if_pos, if_neg, w64]
      have c6 : x = 45 := by omega
      simp (disch := omega) only [spec_NameOk.l0, l01In_eq, bnd, decide_eq_true_eq, hg, if_pos, if_neg, w64]
    · have h2 := h1
      unfold nc at h2
      rw [decide_eq_true_eq] at h2
      rw [Bool.eq_false_iff.2 h1, Bool.false_and]
      refine Ev.at fun k => ?_
      simp (disch := omega) only [spec_NameOk.l0, l01In_eq, bnd, decide_eq_true_eq, hg, if_pos, if_neg, w64]
theorem spec_Name (l : List UInt8) (hl : l.length ≤ 1000000000) : Ev (fun k => spec_NameOk.f k (mk l)) (nm l) := by
  have hs : ((mk l).size : Int) = l.length := by rw [mk_size]
  have h0 := spec_Name_l0 l [] (mk l) 0 rfl rfl hl
  simp only [spec_NameOk.f, l01In_eq, bnd, hs, decide_eq_true_eq]
  unfold nm nmRest
  by_cases h1 : 1 ≤ (l.length : Int) ∧ (l.length : Int) ≤ 20
  · by_cases h2 : mk l = (⟨#[46]⟩ : ByteArray)
    · exact Ev.ret fun k => by rw [if_pos h1, if_pos h2]; simp [h2]
    · by_cases h3 : mk l = (⟨#[46, 46]⟩ : ByteArray)
      · exact Ev.ret fun k => by rw [if_pos h1, if_neg h2, if_pos h3]; simp [h3]
      · have e : (ncs l && (decide (1 ≤ (l.length : Int) ∧ (l.length : Int) ≤ 20) && (decide (¬ mk l = (⟨#[46]⟩ : ByteArray)) && decide (¬ mk l = (⟨#[46, 46]⟩ : ByteArray))))) = ncs l := by simp [h1, h2, h3]
        rw [e]
        exact h0.congr fun k => by rw [if_pos h1, if_neg h2, if_neg h3]
  · exact Ev.ret fun k => by rw [if_neg h1]; simp [h1]
theorem impl_Name_l0 (l : List UInt8) (hl : l.length ≤ 1000000000) (suf : List UInt8) : ∀ (A : List UInt8) (i : Int), l = A ++ suf → i = A.length → Ev (fun k => impl_NameOk.l0 k (mk l) i) (ncs suf && nmRest l) := by
  have hs : ((mk l).size : Int) = l.length := by rw [mk_size]
  induction suf with
  | nil =>
    intro A i h hi
    have hA : (l.length : Int) = A.length := by rw [h]; simp
    have hc : ncs [] = true := rfl
    rw [hc, Bool.true_and]
    refine Ev.at fun k => ?_
    have hlt : ¬ i < (l.length : Int) := by omega
    simp only [impl_NameOk.l0, hs, if_neg hlt, within_eq, bnd, decide_eq_true_eq]
    unfold nmRest
    have hq : std.seq (mk l) (⟨#[46, 46]⟩ : ByteArray) = decide (mk l = (⟨#[46, 46]⟩ : ByteArray)) := (seq_dec _ _).symm
    rw [hq]
    by_cases h1 : 1 ≤ (l.length : Int) ∧ (l.length : Int) ≤ 20
    · by_cases h2 : mk l = (⟨#[46]⟩ : ByteArray)
      · rw [if_pos h1, if_pos h2]; simp [h2]
      · rw [if_pos h1, if_neg h2]; simp [h1, h2]
    · rw [if_neg h1]; simp [h1]
  | cons c t ih =>
    intro A i h hi
    have hA : (l.length : Int) = A.length + t.length + 1 := by rw [h]; simp; omega
    have hg : std.sget (mk l) i = c.toNat := by rw [h]; exact mk_get A c t hi
    obtain ⟨b0, b1⟩ := u8_lt c
    have hn := ih (A ++ [c]) (i + 1) (by rw [h]; simp) (by simp; omega)
    have hall : ncs (c :: t) = (nc c.toNat && ncs t) := rfl
    rw [hall]
    generalize hx : (c.toNat : Int) = x at hg b0 b1
    by_cases h1 : nc x = true
    · rw [h1, Bool.true_and]
      refine Ev.step (fun k => ?_) hn
      have h1 := of_decide_eq_true h1
      by_cases c1 : 97 ≤ x ∧ x ≤ 122
      · simp (disch := omega) only [impl_NameOk.l0, hg, if_pos, if_neg, w64, if_true]
      by_cases c2 : 65 ≤ x ∧ x ≤ 90
      · simp (disch := omega) only [impl_NameOk.l0, hg, if_pos, if_neg, w64, if_true]
      by_cases c3 : 48 ≤ x ∧ x ≤ 57
      · simp (disch := omega) only [impl_NameOk.l0, hg, if_pos, if_neg, w64, if_true]
      have c46 : x = 46 ∨ x = 95 ∨ x = 45 := by omega
      rcases c46 with rfl | rfl | rfl
      · simp (disch := omega) only [impl_NameOk.l0, hg, if_pos, if_neg, w64, if_true]
      · simp (disch := omega) only [impl_NameOk.l0, hg, if_pos, if_neg, w64, if_true]
      · simp (disch := omega) only [impl_NameOk.l0, hg, if_pos, if_neg, w64, if_true]
    · have h2 := h1
      unfold nc at h2
      rw [decide_eq_true_eq] at h2
      rw [Bool.eq_false_iff.2 h1, Bool.false_and, Bool.false_and]
      refine Ev.at fun k => ?_
      by_cases d1 : 97 ≤ x
      · simp (disch := omega) only [impl_NameOk.l0, hg, if_pos, if_neg, w64, if_true]
      by_cases d2 : 65 ≤ x
      · simp (disch := omega) only [impl_NameOk.l0, hg, if_pos, if_neg, w64, if_true]
      by_cases d3 : 48 ≤ x
      · simp (disch := omega) only [impl_NameOk.l0, hg, if_pos, if_neg, w64, if_true]
      · simp (disch := omega) only [impl_NameOk.l0, hg, if_pos, if_neg, w64, if_true]
theorem impl_Name (l : List UInt8) (hl : l.length ≤ 1000000000) : Ev (fun k => impl_NameOk.f k (mk l)) (nm l) := impl_Name_l0 l hl l [] 0 rfl rfl
end Go.I

/-! EIQ3 -/
set_option linter.unusedVariables false
set_option linter.unusedSimpArgs false
set_option maxRecDepth 100000
set_option maxHeartbeats 4000000
namespace Go.I
open Go
/-! ### paths -/
theorem ba_len (b : ByteArray) : b.data.toList.length = b.size := Array.length_toList
def nmB (b : ByteArray) : Bool := nm b.data.toList
theorem spec_NameB (b : ByteArray) (h : b.size ≤ 1000000000) : Ev (fun k => spec_NameOk.f k b) (nmB b) := by
  have := spec_Name b.data.toList (by rw [ba_len]; exact h)
  rwa [mk_self] at this
theorem impl_NameB (b : ByteArray) (h : b.size ≤ 1000000000) : Ev (fun k => impl_NameOk.f k b) (nmB b) := by
  have := impl_Name b.data.toList (by rw [ba_len]; exact h)
  rwa [mk_self] at this
theorem nmB_size {b : ByteArray} (h : nmB b = true) : b.size ≤ 20 := by
  unfold nmB nm nmRest at h
  simp only [Bool.and_eq_true, decide_eq_true_eq] at h
  have := h.2.1.2
  have e := ba_len b
  omega
def pOk (l : List ByteArray) : Bool := l.all nmB && decide ((l.length : Int) ≤ 8)
theorem sz_mem {l : List ByteArray} {b : ByteArray} (h : b ∈ l) : b.size ≤ szs l := by
  induction l with
  | nil => cases h
  | cons x t ih =>
    simp only [szs, List.map_cons, List.sum_cons] at ih ⊢
    rcases List.mem_cons.1 h with rfl | h
    · omega
    · have := ih h; omega
theorem spec_Path_l0 (L : List ByteArray) (hL : szs L ≤ 1000000000) (hn : L.length ≤ 1000000000) (suf : List ByteArray) : ∀ (A : List ByteArray) (i : Int), L = A ++ suf → i = A.length → Ev (fun k => spec_PathOk.l0 k L i) (suf.all nmB && decide ((L.length : Int) ≤ 8)) := by
  induction suf with
  | nil =>
    intro A i h hi
    have hA : (L.length : Int) = A.length := by rw [h]; simp
    refine Ev.at fun k => ?_
    simp (disch := omega) only [spec_PathOk.l0, if_neg]
    simp
  | cons b t ih =>
    intro A i h hi
    have hA : (L.length : Int) = A.length + t.length + 1 := by rw [h]; simp; omega
    have hg : L.getD i.toNat (⟨#[]⟩ : ByteArray) = b := by rw [h]; exact get_mid A b _ t hi
    have hb := spec_NameB b (Nat.le_trans (sz_mem (l := L) (by rw [h]; simp)) hL)
    have hi2 := ih (A ++ [b]) (i + 1) (by rw [h]; simp) (by simp; omega)
    refine Ev.step (g := fun k => (spec_NameOk.f k b).bind fun r5 => if r5 = true then spec_PathOk.l0 k L (i + 1) else some false) (fun k => ?_) (Ev.bind hb ?_)
    · simp (disch := omega) only [spec_PathOk.l0, if_pos, hg, w64]
    · rw [List.all_cons]
      by_cases h1 : nmB b = true
      · rw [h1, Bool.true_and]; exact hi2.congr fun k => by rw [if_pos rfl]
      · rw [Bool.eq_false_iff.2 h1, Bool.false_and, Bool.false_and]; exact Ev.ret fun k => by rw [if_neg (by decide)]
theorem spec_Path (l : List UInt8) : Ev (fun k => spec_PathOk.f k (mk l)) (decide ((l.length : Int) ≤ 200) && pOk (pcs 47 [] l)) := by
  have hs : ((mk l).size : Int) = l.length := by rw [mk_size]
  simp only [spec_PathOk.f, hs]
  by_cases h : 200 < (l.length : Int)
  · exact Ev.ret fun k => by rw [if_pos h]; simp; omega
  · have h1 := l02Names_ev l (by omega)
    have h2 := pcs_size 47 l []
    have h3 := (pcs_len 47 l []).1
    simp only [List.length_nil] at h2
    have e : (decide ((l.length : Int) ≤ 200) && pOk (pcs 47 [] l)) = pOk (pcs 47 [] l) := by rw [decide_eq_true (by omega), Bool.true_and]
    rw [e]
    simp only [if_neg h]
    exact Ev.bind h1 (spec_Path_l0 (pcs 47 [] l) (by omega) (by omega) (pcs 47 [] l) [] 0 rfl rfl)
theorem impl_Names_l0 (L : List ByteArray) (hL : szs L ≤ 1000000000) (hn : L.length ≤ 1000000000) (suf : List ByteArray) : ∀ (A : List ByteArray) (i : Int), L = A ++ suf → i = A.length → Ev (fun k => impl_Names.l0 k L i) (if suf.all nmB = true then L else []) := by
  induction suf with
  | nil =>
    intro A i h hi
    have hA : (L.length : Int) = A.length := by rw [h]; simp
    refine Ev.at fun k => ?_
    simp (disch := omega) only [impl_Names.l0, if_neg]
    simp
  | cons b t ih =>
    intro A i h hi
    have hA : (L.length : Int) = A.length + t.length + 1 := by rw [h]; simp; omega
    have hg : L.getD i.toNat (⟨#[]⟩ : ByteArray) = b := by rw [h]; exact get_mid A b _ t hi
    have hb := impl_NameB b (Nat.le_trans (sz_mem (l := L) (by rw [h]; simp)) hL)
    have hi2 := ih (A ++ [b]) (i + 1) (by rw [h]; simp) (by simp; omega)
    refine Ev.step (g := fun k => (impl_NameOk.f k b).bind fun r5 => if r5 = true then impl_Names.l0 k L (i + 1) else some []) (fun k => ?_) (Ev.bind hb ?_)
    · simp (disch := omega) only [impl_Names.l0, if_pos, hg, w64]
    · rw [List.all_cons]
      by_cases h1 : nmB b = true
      · rw [h1, Bool.true_and]; exact hi2.congr fun k => by rw [if_pos rfl]
      · rw [Bool.eq_false_iff.2 h1, Bool.false_and]; exact Ev.ret fun k => by rw [if_neg (by decide), if_neg (by decide)]
theorem szs_all {l : List ByteArray} (h : l.all nmB = true) : szs l ≤ 20 * l.length := by
  induction l with
  | nil => simp [szs]
  | cons b t ih =>
    simp only [List.all_cons, Bool.and_eq_true] at h
    have h1 := nmB_size h.1
    have h2 := ih h.2
    simp only [szs, List.map_cons, List.sum_cons, List.length_cons] at h2 ⊢
    omega
/-- A path that is right, for both. -/
def pth (l : List UInt8) : Bool := decide ((l.length : Int) ≤ 200) && pOk (pcs 47 [] l)
theorem pth_small {l : List UInt8} (h : pth l = true) : l.length ≤ 168 := by
  unfold pth pOk at h
  simp only [Bool.and_eq_true, decide_eq_true_eq] at h
  have h1 := szs_all h.2.1
  have h2 := pcs_size 47 l []
  simp only [List.length_nil] at h2
  have := h.2.2
  omega
theorem impl_Names_ev (l : List UInt8) : Ev (fun k => impl_Names.f k (mk l)) (if pth l = true then pcs 47 [] l else []) := by
  have hs : ((mk l).size : Int) = l.length := by rw [mk_size]
  simp only [impl_Names.f, hs]
  by_cases h : 168 < (l.length : Int)
  · have : ¬ pth l = true := fun e => by have := pth_small e; omega
    rw [if_neg this]
    exact Ev.ret fun k => by rw [if_pos h]
  · have h2 := pcs_size 47 l []
    have h3 := (pcs_len 47 l []).1
    simp only [List.length_nil] at h2
    have hS : strings_Split.f (mk l) (⟨#[47]⟩ : ByteArray) = some (pcs 47 [] l) := Split_mk 47 l (by omega)
    simp only [if_neg h, hS, bnd]
    unfold pth pOk
    rw [decide_eq_true (by omega : (l.length : Int) ≤ 200), Bool.true_and]
    by_cases h4 : 8 < ((pcs 47 [] l).length : Int)
    · rw [decide_eq_false (by omega), Bool.and_false, if_neg (by decide)]
      exact Ev.ret fun k => by rw [if_pos h4]
    · rw [decide_eq_true (by omega), Bool.and_true]
      exact (impl_Names_l0 (pcs 47 [] l) (by omega) (by omega) (pcs 47 [] l) [] 0 rfl rfl).congr fun k => by rw [if_neg h4]
theorem impl_Path (l : List UInt8) : Ev (fun k => impl_PathOk.f k (mk l)) (pth l) := by
  simp only [impl_PathOk.f]
  refine Ev.bind (impl_Names_ev l) (Ev.ret fun k => ?_)
  have := (pcs_len 47 l []).2
  by_cases h : pth l = true
  · rw [if_pos h, h]; simp; omega
  · rw [if_neg h, Bool.eq_false_iff.2 h]; simp
theorem spec_Path' (l : List UInt8) : Ev (fun k => spec_PathOk.f k (mk l)) (pth l) := spec_Path l
/-! ### nodes -/
theorem nl_l1 (n : GNode) (l : List UInt8) (hl : l.length ≤ 1000000000) (hT : n.Target = mk l) (suf : List UInt8) : ∀ (A : List UInt8) (i : Int), l = A ++ suf → i = A.length → Ev (fun k => spec_NodeOk.l1 k n i) (!decide ((10 : UInt8) ∈ suf)) := by
  have hs : (n.Target.size : Int) = l.length := by rw [hT, mk_size]
  induction suf with
  | nil =>
    intro A i h hi
    have hA : (l.length : Int) = A.length := by rw [h]; simp
    refine Ev.at fun k => ?_
    simp (disch := omega) only [spec_NodeOk.l1, if_neg]
    simp
  | cons c t ih =>
    intro A i h hi
    have hA : (l.length : Int) = A.length + t.length + 1 := by rw [h]; simp; omega
    have hg : std.sget n.Target i = c.toNat := by rw [hT, h]; exact mk_get A c t hi
    by_cases hc : c = 10
    · subst hc
      have hg' : std.sget n.Target i = 10 := hg
      refine Ev.at fun k => ?_
      simp (disch := omega) only [spec_NodeOk.l1, if_pos]
      simp
    · have hg' : std.sget n.Target i ≠ 10 := by rw [hg]; exact u8_ne hc
      have hi2 := ih (A ++ [c]) (i + 1) (by rw [h]; simp) (by simp; omega)
      have e : (!decide ((10 : UInt8) ∈ c :: t)) = !decide ((10 : UInt8) ∈ t) := by
        have : ¬ (10 : UInt8) = c := fun e => hc e.symm
        simp [this]
      rw [e]
      refine Ev.step (fun k => ?_) hi2
      simp (disch := omega) only [spec_NodeOk.l1, if_pos, if_neg, w64]
/-- A node that is right, for both. -/
def nOk (n : GNode) : Bool := pth n.Path.data.toList && (decide (0 ≤ n.Mode ∧ n.Mode ≤ 511) && (decide (0 ≤ n.Time ∧ n.Time ≤ 1000000000) &&
  (if n.Kind = 0 then decide (n.Data = (⟨#[]⟩ : ByteArray)) && (decide (n.Target = (⟨#[]⟩ : ByteArray)) && decide (n.Group = 0))
   else if n.Kind = 1 then decide ((n.Data.size : Int) ≤ 20000) && (decide (n.Target = (⟨#[]⟩ : ByteArray)) && decide (0 ≤ n.Group ∧ n.Group ≤ 200))
   else if n.Kind = 2 then decide (n.Data = (⟨#[]⟩ : ByteArray)) && (decide (n.Mode = 0) && (decide (n.Group = 0) && (decide (1 ≤ (n.Target.size : Int) ∧ (n.Target.size : Int) ≤ 60) && !decide ((10 : UInt8) ∈ n.Target.data.toList))))
   else false)))
theorem Ev.iteB {α : Type} {b : Bool} {f g : Nat → Option α} {v : α} (h1 : b = true → Ev f v) (h2 : b = false → Ev g v) : Ev (fun k => if b = true then f k else g k) v := by
  cases b with
  | true => exact (h1 rfl).congr fun k => by rw [if_pos rfl]
  | false => exact (h2 rfl).congr fun k => by rw [if_neg (by decide)]
theorem Ev.iteP {α : Type} {c : Prop} [Decidable c] {f g : Nat → Option α} {v : α} (h1 : c → Ev f v) (h2 : ¬ c → Ev g v) : Ev (fun k => if c then f k else g k) v := by
  by_cases h : c
  · exact (h1 h).congr fun k => by rw [if_pos h]
  · exact (h2 h).congr fun k => by rw [if_neg h]
theorem Ev.bool {c : Prop} [Decidable c] {b : Bool} {f g : Nat → Option Bool} (h1 : c → Ev f b) (h2 : ¬ c → Ev g false) : Ev (fun k => if c then f k else g k) (decide c && b) := by
  by_cases h : c
  · rw [decide_eq_true h, Bool.true_and]; exact (h1 h).congr fun k => by rw [if_pos h]
  · rw [decide_eq_false h, Bool.false_and]; exact (h2 h).congr fun k => by rw [if_neg h]
theorem Ev.boolB {a b : Bool} {f g : Nat → Option Bool} (h1 : a = true → Ev f b) (h2 : a = false → Ev g false) : Ev (fun k => if a = true then f k else g k) (a && b) := by
  cases a with
  | true => exact (h1 rfl).congr fun k => by rw [if_pos rfl]
  | false => exact (h2 rfl).congr fun k => by rw [if_neg (by decide)]
theorem Ev.sm {α : Type} {v : α} : Ev (fun _ => some v) v := Ev.ret fun _ => rfl
theorem spec_Node (n : GNode) : Ev (fun k => spec_NodeOk.f k n) (nOk n) := by
  have hp := spec_Path' n.Path.data.toList
  rw [mk_self] at hp
  simp only [spec_NodeOk.f, l01In_eq, bnd]
  refine Ev.bind hp (Ev.boolB (fun _ => ?_) fun _ => Ev.sm)
  refine Ev.boolB (fun _ => ?_) fun _ => Ev.sm
  refine Ev.boolB (fun _ => ?_) fun _ => Ev.sm
  by_cases k0 : n.Kind = 0
  · simp only [if_pos k0]
    exact Ev.bool (fun _ => Ev.bool (fun _ => Ev.sm) fun _ => Ev.sm) fun _ => Ev.sm
  · simp only [if_neg k0]
    by_cases k1 : n.Kind = 1
    · simp only [if_pos k1]
      exact Ev.bool (fun _ => Ev.bool (fun _ => Ev.sm) fun _ => Ev.sm) fun _ => Ev.sm
    · simp only [if_neg k1]
      by_cases k2 : n.Kind = 2
      · simp only [if_pos k2]
        refine Ev.bool (fun _ => Ev.bool (fun _ => Ev.bool (fun _ => Ev.boolB (fun ht => ?_) fun _ => Ev.sm) fun _ => Ev.sm) fun _ => Ev.sm) fun _ => Ev.sm
        have ht := of_decide_eq_true ht
        have e := ba_len n.Target
        exact nl_l1 n n.Target.data.toList (by omega) (mk_self _).symm n.Target.data.toList [] 0 rfl rfl
      · simp only [if_neg k2]
        exact Ev.sm
theorem impl_Node (n : GNode) : Ev (fun k => impl_NodeOk.f k n) (nOk n) := by
  have hp := impl_Path n.Path.data.toList
  rw [mk_self] at hp
  have hC : strings_Contains.f n.Target (⟨#[10]⟩ : ByteArray) = some (decide ((10 : UInt8) ∈ n.Target.data.toList)) := by
    have := Contains_mk 10 n.Target.data.toList
    rwa [mk_self] at this
  simp only [impl_NodeOk.f, within_eq, bnd, hC]
  refine Ev.bind hp (Ev.boolB (fun _ => ?_) fun _ => Ev.sm)
  refine Ev.boolB (fun _ => ?_) fun _ => Ev.sm
  refine Ev.boolB (fun _ => ?_) fun _ => Ev.sm
  by_cases k0 : n.Kind = 0
  · simp only [if_pos k0]
    exact Ev.bool (fun _ => Ev.bool (fun _ => Ev.sm) fun _ => Ev.sm) fun _ => Ev.sm
  · simp only [if_neg k0]
    by_cases k1 : n.Kind = 1
    · simp only [if_pos k1]
      exact Ev.bool (fun _ => Ev.bool (fun _ => Ev.sm) fun _ => Ev.sm) fun _ => Ev.sm
    · simp only [if_neg k1]
      by_cases k2 : n.Kind = 2
      · simp only [if_pos k2]
        exact Ev.bool (fun _ => Ev.bool (fun _ => Ev.bool (fun _ => Ev.boolB (fun _ => Ev.sm) fun _ => Ev.sm) fun _ => Ev.sm) fun _ => Ev.sm) fun _ => Ev.sm
      · simp only [if_neg k2]
        exact Ev.sm
end Go.I

/-! EIQ4 -/
set_option linter.unusedVariables false
set_option linter.unusedSimpArgs false
set_option maxRecDepth 100000
set_option maxHeartbeats 4000000
namespace Go.I
open Go
/-! ### decimal numerals -/
def dgt (m : Nat) : List UInt8 := if m = 0 then [] else Lib.decDigits m
theorem dgt_step (m : Nat) (h : m ≠ 0) : dgt m = dgt (m / 10) ++ [UInt8.ofNat (48 + m % 10)] := by
  unfold dgt
  rw [if_neg h, Lib.decDigits]
  by_cases h1 : m < 10
  · rw [dif_pos h1, if_pos (by omega), Nat.mod_eq_of_lt h1]; rfl
  · rw [dif_neg h1, if_neg (by omega)]
theorem dgt_len (d : Nat) : ∀ m : Nat, m < 10 ^ d → (dgt m).length ≤ d := by
  induction d with
  | zero => intro m h; simp at h; subst h; simp [dgt]
  | succ d ih =>
    intro m h
    by_cases h0 : m = 0
    · subst h0; simp [dgt]
    · have := ih (m / 10) (by rw [Nat.pow_succ] at h; omega)
      rw [dgt_step m h0]
      simp
      omega
theorem digs (d : Nat) (h : d < 10) : (⟨#[48, 49, 50, 51, 52, 53, 54, 55, 56, 57]⟩ : ByteArray).extract d (d + 1) = mk [UInt8.ofNat (48 + d)] := by
  have : d = 0 ∨ d = 1 ∨ d = 2 ∨ d = 3 ∨ d = 4 ∨ d = 5 ∨ d = 6 ∨ d = 7 ∨ d = 8 ∨ d = 9 := by omega
  rcases this with rfl | rfl | rfl | rfl | rfl | rfl | rfl | rfl | rfl | rfl <;> (apply ByteArray.ext; simp [mk, ByteArray.data_extract])
theorem dec_l0 (n : Int) (hn : 0 ≤ n) (d : Nat) : ∀ (m : Nat) (xl : List UInt8), m < 10 ^ d → m ≤ 9000000000000000000 → xl.length + d ≤ 1000 → Ev (fun k => spec_DecText.l0 k n (mk xl) m) (mk (dgt m ++ xl)) := by
  induction d with
  | zero =>
    intro m xl hm _ hx
    simp at hm
    subst hm
    refine Ev.at fun k => ?_
    simp (disch := omega) only [spec_DecText.l0, if_pos, if_neg]
    rfl
  | succ d ih =>
    intro m xl hm hb hx
    by_cases h0 : m = 0
    · subst h0
      refine Ev.at fun k => ?_
      simp (disch := omega) only [spec_DecText.l0, if_pos, if_neg]
      rfl
    · have t1 : Int.tmod (m : Int) 10 = ((m % 10 : Nat) : Int) := by rw [Int.tmod_eq_emod_of_nonneg (by omega)]; omega
      have t2 : Int.tdiv (m : Int) 10 = ((m / 10 : Nat) : Int) := by rw [Int.tdiv_eq_ediv_of_nonneg (by omega)]; omega
      have hw : IntKind.wrap .i64 ((m % 10 : Nat) + 1 : Int) = (m % 10 : Nat) + 1 := w64 (by omega) (by omega)
      have hw2 : IntKind.wrap .i64 ((m / 10 : Nat) : Int) = (m / 10 : Nat) := w64 (by omega) (by omega)
      have e1 : (⟨#[48, 49, 50, 51, 52, 53, 54, 55, 56, 57]⟩ : ByteArray).extract (Int.toNat ((m % 10 : Nat) : Int)) (Int.toNat ((m % 10 : Nat) + 1 : Int)) = mk [UInt8.ofNat (48 + m % 10)] := digs (m % 10) (by omega)
      have hz : ((⟨#[48, 49, 50, 51, 52, 53, 54, 55, 56, 57]⟩ : ByteArray).size : Int) = 10 := rfl
      have z1 : ((mk [UInt8.ofNat (48 + m % 10)]).size : Int) = 1 := by rw [mk_size]; rfl
      have z2 : ((mk xl).size : Int) = xl.length := by rw [mk_size]
      have hi := ih (m / 10) ([UInt8.ofNat (48 + m % 10)] ++ xl) (by rw [Nat.pow_succ] at hm; omega) (by omega) (by simp; omega)
      rw [dgt_step m h0, List.append_assoc]
      refine Ev.step (fun k => ?_) hi
      rw [← mk_app]
      simp (disch := omega) only [spec_DecText.l0, t1, t2, hw, hw2, e1, hz, z1, z2, if_pos, if_neg]
def dec (n : Int) : List UInt8 := Lib.itoa n
theorem itoa_dd (m : Nat) (h : m ≠ 0) : Lib.itoa m = dgt m := by
  unfold Lib.itoa dgt
  rw [if_neg (by omega), if_neg h]
  rfl
theorem spec_Dec (n : Int) (h0 : 0 ≤ n) (h1 : n ≤ 1000000000) : Ev (fun k => spec_DecText.f k n) (mk (Lib.itoa n)) := by
  obtain ⟨m, rfl⟩ := Int.eq_ofNat_of_zero_le h0
  by_cases h : m = 0
  · subst h
    refine Ev.ret fun k => ?_
    have e : Lib.itoa ((0 : Nat) : Int) = [48] := by unfold Lib.itoa; rw [if_neg (by decide)]; show Lib.decDigits 0 = _; rw [Lib.decDigits, dif_pos (by decide)]; rfl
    rw [e]
    simp (disch := omega) only [spec_DecText.f, if_pos]
    rfl
  · have hd := dec_l0 m h0 10 m [] (by omega) (by omega) (by simp)
    rw [List.append_nil] at hd
    rw [itoa_dd m h]
    refine hd.congr fun k => ?_
    simp (disch := omega) only [spec_DecText.f, if_neg]
    rfl
theorem itoa_len (n : Int) (h0 : 0 ≤ n) (h1 : n ≤ 1000000000) : (Lib.itoa n).length ≤ 10 := by
  obtain ⟨m, rfl⟩ := Int.eq_ofNat_of_zero_le h0
  by_cases h : m = 0
  · subst h
    have e : Lib.itoa ((0 : Nat) : Int) = [48] := by unfold Lib.itoa; rw [if_neg (by decide)]; show Lib.decDigits 0 = _; rw [Lib.decDigits, dif_pos (by decide)]; rfl
    rw [e]; simp
  · rw [itoa_dd m h]; exact dgt_len 10 m (by omega)
theorem impl_Dec (n : Int) (h0 : 0 ≤ n) (h1 : n ≤ 1000000000) : impl_DecText.f n = some (mk (Lib.itoa n)) := by
  unfold impl_DecText.f strconv_Itoa.f
  rw [if_pos ⟨by omega, by omega⟩]
  rfl
/-! ### hexadecimal digits -/
abbrev HX : ByteArray := ⟨#[48, 49, 50, 51, 52, 53, 54, 55, 56, 57, 97, 98, 99, 100, 101, 102]⟩
def hp (x : Int) : List Int := [std.sget HX (x / 16), std.sget HX (x % 16)]
theorem hx_size : ((⟨#[48, 49, 50, 51, 52, 53, 54, 55, 56, 57, 97, 98, 99, 100, 101, 102]⟩ : ByteArray).size : Int) = 16 := rfl
theorem td16 {x : Int} (h0 : 0 ≤ x) : Int.tdiv x 16 = x / 16 := Int.tdiv_eq_ediv_of_nonneg h0
theorem tm16 {x : Int} (h0 : 0 ≤ x) : Int.tmod x 16 = x % 16 := Int.tmod_eq_emod_of_nonneg h0
theorem spec_hex_l0 (xs : List Int) (hb : ∀ x ∈ xs, 0 ≤ x ∧ x ≤ 255) (suf : List Int) : ∀ (A out : List Int) (i : Int), xs = A ++ suf → i = A.length → out.length + 2 * suf.length ≤ 1000000 → A.length + suf.length ≤ 1000000 → Ev (fun k => spec_HexText.l0 k xs out i) (std.strOf (out ++ suf.flatMap hp)) := by
  induction suf with
  | nil =>
    intro A out i h hi ho hA
    have hl : (xs.length : Int) = A.length := by rw [h]; simp
    refine Ev.at fun k => ?_
    simp (disch := omega) only [spec_HexText.l0, if_neg]
    simp
  | cons x t ih =>
    intro A out i h hi ho hA
    simp only [List.length_cons] at ho hA
    have hl : (xs.length : Int) = A.length + t.length + 1 := by rw [h]; simp; omega
    have hg : xs.getD i.toNat 0 = x := by rw [h]; exact get_mid A x 0 t hi
    obtain ⟨b0, b1⟩ := hb x (by rw [h]; simp)
    have hi2 := ih (A ++ [x]) (out ++ hp x) (i + 1) (by rw [h]; simp) (by simp; omega) (by simp [hp]; omega) (by simp; omega)
    rw [List.flatMap_cons, ← List.append_assoc]
    have q1 : IntKind.wrap .u8 (x / 16) = x / 16 := w8 (by omega) (by omega)
    refine Ev.step (fun k => ?_) hi2
    simp (disch := omega) only [spec_HexText.l0, hg, td16 b0, tm16 b0, q1, hx_size, if_pos, if_neg, w64, List.length_cons, List.length_nil]
    rfl
theorem impl_hex_l0 (l : List UInt8) (suf : List UInt8) : ∀ (A : List UInt8) (out : List Int) (i : Int), l = A ++ suf → i = A.length → out.length + 2 * suf.length ≤ 1000000 → A.length + suf.length ≤ 1000000 → Ev (fun k => impl_hexText.l0 k (mk l) out i) (std.strOf (out ++ suf.flatMap fun c => hp c.toNat)) := by
  have hs : ((mk l).size : Int) = l.length := by rw [mk_size]
  induction suf with
  | nil =>
    intro A out i h hi ho hA
    have hl : (l.length : Int) = A.length := by rw [h]; simp
    refine Ev.at fun k => ?_
    simp (disch := omega) only [impl_hexText.l0, if_neg]
    simp
  | cons c t ih =>
    intro A out i h hi ho hA
    simp only [List.length_cons] at ho hA
    have hl : (l.length : Int) = A.length + t.length + 1 := by rw [h]; simp; omega
    have hg : std.sget (mk l) i = c.toNat := by rw [h]; exact mk_get A c t hi
    obtain ⟨b0, b1⟩ := u8_lt c
    have hi2 := ih (A ++ [c]) (out ++ hp c.toNat) (i + 1) (by rw [h]; simp) (by simp; omega) (by simp [hp]; omega) (by simp; omega)
    rw [List.flatMap_cons, ← List.append_assoc]
    generalize (c.toNat : Int) = x at hg b0 b1 hi2
    have q1 : IntKind.wrap .u8 (x / 16) = x / 16 := w8 (by omega) (by omega)
    refine Ev.step (fun k => ?_) hi2
    simp (disch := omega) only [impl_hexText.l0, hg, td16 b0, tm16 b0, q1, hx_size, if_pos, if_neg, w64, List.length_cons, List.length_nil]
    rfl
/-- The digits of a text, or a sign for none. -/
def hex (l : List UInt8) : ByteArray := if l = [] then ⟨#[45]⟩ else std.strOf (l.flatMap fun c => hp c.toNat)
theorem mk_nil (l : List UInt8) : mk l = (⟨#[]⟩ : ByteArray) ↔ l = [] := ⟨fun h => (mk_inj (a := l) (b := [])).1 h, fun h => by subst h; rfl⟩
theorem strOf_size (l : List Int) : (std.strOf l).size = l.length := strOfNums_size l
theorem fm_len {α : Type} (l : List α) (f : α → Int) : (l.flatMap fun c => hp (f c)).length = 2 * l.length := by
  induction l with
  | nil => rfl
  | cons a t ih => rw [List.flatMap_cons, List.length_append, ih]; simp [hp]; omega
theorem hex_size (l : List UInt8) (h : l.length ≤ 20000) : ((hex l).size : Int) ≤ 40000 := by
  unfold hex
  split
  · decide
  · rw [strOf_size, fm_len l (fun c => (c.toNat : Int))]; omega
theorem spec_hex (l : List UInt8) (h : l.length ≤ 20000) : Ev (fun k => spec_l20Hex.f k (mk l)) (hex l) := by
  have hs : ((mk l).size : Int) = l.length := by rw [mk_size]
  unfold hex
  by_cases h0 : l = []
  · subst h0
    exact Ev.ret fun k => by unfold spec_l20Hex.f; rw [if_pos rfl]; rfl
  · have h1 : ¬ mk l = (⟨#[]⟩ : ByteArray) := fun e => h0 ((mk_nil l).1 e)
    have e : std.bytesOf (mk l) = l.map fun c => (c.toNat : Int) := by show (mk l).data.toList.map _ = _; rw [mk_data]
    have hb : ∀ x ∈ std.bytesOf (mk l), 0 ≤ x ∧ x ≤ 255 := fun x hx => by
      rw [e] at hx
      obtain ⟨c, _, rfl⟩ := List.mem_map.1 hx
      exact u8_lt c
    have hl := spec_hex_l0 (std.bytesOf (mk l)) hb (std.bytesOf (mk l)) [] [] 0 rfl rfl (by rw [e]; simp; omega) (by rw [e]; simp; omega)
    have hlen : ((std.bytesOf (mk l)).length : Int) = l.length := by rw [e]; simp
    rw [if_neg h0]
    have e2 : std.strOf ([] ++ (std.bytesOf (mk l)).flatMap hp) = std.strOf (l.flatMap fun c => hp c.toNat) := by rw [e, List.flatMap_map]; rfl
    rw [e2] at hl
    simp (disch := omega) only [spec_l20Hex.f, if_neg h1, if_pos]
    refine Ev.bind (hl.congr fun k => ?_) Ev.sm
    simp (disch := omega) only [spec_HexText.f, if_neg]
theorem impl_hex (l : List UInt8) (h : l.length ≤ 20000) : Ev (fun k => impl_hexOf.f k (mk l)) (hex l) := by
  have hs : ((mk l).size : Int) = l.length := by rw [mk_size]
  unfold hex
  by_cases h0 : l = []
  · subst h0
    exact Ev.ret fun k => by unfold impl_hexOf.f; rw [if_pos rfl]; rfl
  · have h1 : ¬ mk l = (⟨#[]⟩ : ByteArray) := fun e => h0 ((mk_nil l).1 e)
    have hl := impl_hex_l0 l l [] [] 0 rfl rfl (by simp; omega) (by simp; omega)
    rw [if_neg h0]
    simp only [impl_hexOf.f, if_neg h1]
    refine Ev.bind (hl.congr fun k => ?_) Ev.sm
    have hw : IntKind.wrap .i64 (2 * ((mk l).size : Int)) = 2 * ((mk l).size : Int) := w64 (by omega) (by omega)
    simp (disch := omega) only [impl_hexText.f, hw, if_pos]
    rfl
/-! ### a node's line -/
theorem join_mk (l : List (List UInt8)) (q : UInt8) (h1 : l.length ≤ 1000) (h : (Lib.join l [q]).length ≤ 140737488355328) : strings_Join.f (l.map mk) (mk [q]) = some (mk (Lib.join l [q])) := by
  have e : (l.map mk).map (fun s => s.data.toList) = l := by rw [List.map_map]; conv => rhs; rw [← List.map_id l]
                                                             exact List.map_congr_left fun a _ => mk_data a
  unfold strings_Join.f
  rw [e, mk_data, if_pos ⟨by simp; omega, h⟩]
  rfl
/-- The words of a node's line, and the line. -/
def lw (n : GNode) : List (List UInt8) :=
  if n.Kind = 0 then [[100], n.Path.data.toList, Lib.itoa n.Mode, Lib.itoa n.Time]
  else if n.Kind = 1 then [[102], n.Path.data.toList, Lib.itoa n.Mode, Lib.itoa n.Time, Lib.itoa n.Group, (hex n.Data.data.toList).data.toList]
  else [[108], n.Path.data.toList, Lib.itoa n.Time, (hex n.Target.data.toList).data.toList]
def line (n : GNode) : ByteArray := mk (Lib.join (lw n) [32])
/-- What a right node is of. -/
theorem nOk_facts {n : GNode} (h : nOk n = true) : n.Path.size ≤ 168 ∧ (0 ≤ n.Mode ∧ n.Mode ≤ 511) ∧ (0 ≤ n.Time ∧ n.Time ≤ 1000000000) ∧ (0 ≤ n.Group ∧ n.Group ≤ 200) ∧ n.Data.size ≤ 20000 ∧ n.Target.size ≤ 60 ∧ (n.Kind = 0 ∨ n.Kind = 1 ∨ n.Kind = 2) := by
  unfold nOk at h
  simp only [Bool.and_eq_true, decide_eq_true_eq] at h
  obtain ⟨h1, h2, h3, h4⟩ := h
  have h1 := pth_small h1
  rw [ba_len] at h1
  refine ⟨h1, h2, h3, ?_⟩
  have hz : (⟨#[]⟩ : ByteArray).size = 0 := rfl
  split at h4
  · simp only [Bool.and_eq_true, decide_eq_true_eq] at h4
    obtain ⟨a, b, c⟩ := h4
    rw [a, b, c, hz]
    omega
  · split at h4
    · simp only [Bool.and_eq_true, decide_eq_true_eq] at h4
      obtain ⟨a, b, c⟩ := h4
      rw [b, hz]
      omega
    · split at h4
      · simp only [Bool.and_eq_true, decide_eq_true_eq] at h4
        obtain ⟨a, b, c, d, _⟩ := h4
        rw [a, c, hz]
        omega
      · cases h4
end Go.I

/-! EIQ5 -/
set_option linter.unusedVariables false
set_option linter.unusedSimpArgs false
set_option maxRecDepth 100000
set_option maxHeartbeats 4000000
namespace Go.I
open Go
theorem Ev.guard {α : Type} {c : Prop} [Decidable c] {f : Nat → Option α} {v : α} (hc : c) (h : Ev f v) : Ev (fun k => if c then f k else none) v := h.congr fun k => by rw [if_pos hc]
theorem Ev.some {α β : Type} {o : Option α} {a : α} {g : Nat → α → Option β} {v : β} (h : o = some a) (h2 : Ev (fun k => g k a) v) : Ev (fun k => o.bind (g k)) v := h2.congr fun k => by rw [h, bnd]
theorem join4 (a b c d : List UInt8) : Lib.join [a, b, c, d] [32] = a ++ [32] ++ b ++ [32] ++ c ++ [32] ++ d := by simp [Lib.join, List.intercalate, List.intersperse]
theorem join6 (a b c d e f : List UInt8) : Lib.join [a, b, c, d, e, f] [32] = a ++ [32] ++ b ++ [32] ++ c ++ [32] ++ d ++ [32] ++ e ++ [32] ++ f := by simp [Lib.join, List.intercalate, List.intersperse]
theorem sz1 (x : UInt8) : (⟨#[x]⟩ : ByteArray).size = 1 := rfl
theorem sz2 (x y : UInt8) : (⟨#[x, y]⟩ : ByteArray).size = 2 := rfl
theorem mk1 (x : UInt8) : (⟨#[x]⟩ : ByteArray) = mk [x] := rfl
theorem mk2 (x y : UInt8) : (⟨#[x, y]⟩ : ByteArray) = mk [x, y] := rfl
theorem mk_of (s : ByteArray) : s = mk s.data.toList := (mk_self s).symm
theorem hexB_size (l : List UInt8) (h : l.length ≤ 20000) : (hex l).size ≤ 40000 := by have := hex_size l h; omega
theorem spec_Show (n : GNode) : Ev (fun k => spec_ShowNode.f k n) (if nOk n = true then line n else ⟨#[]⟩) := by
  simp only [spec_ShowNode.f]
  refine Ev.bind (spec_Node n) ?_
  by_cases h : nOk n = true
  · obtain ⟨hP, ⟨m0, m1⟩, ⟨t0, t1⟩, ⟨g0, g1⟩, hD, hT, hK⟩ := nOk_facts h
    simp only [if_pos h]
    have hM := spec_Dec n.Mode m0 (by omega)
    have hTm := spec_Dec n.Time t0 t1
    have hG := spec_Dec n.Group g0 (by omega)
    have lM : (mk (Lib.itoa n.Mode)).size ≤ 10 := by rw [mk_size]; exact itoa_len _ m0 (by omega)
    have lT : (mk (Lib.itoa n.Time)).size ≤ 10 := by rw [mk_size]; exact itoa_len _ t0 t1
    have lG : (mk (Lib.itoa n.Group)).size ≤ 10 := by rw [mk_size]; exact itoa_len _ g0 (by omega)
    have eD := ba_len n.Data
    have eT := ba_len n.Target
    have hxD := spec_hex n.Data.data.toList (by omega)
    have hxT := spec_hex n.Target.data.toList (by omega)
    rw [mk_self] at hxD hxT
    have lxD := hexB_size n.Data.data.toList (by omega)
    have lxT := hexB_size n.Target.data.toList (by omega)
    unfold line lw
    by_cases k0 : n.Kind = 0
    · simp only [if_pos k0]
      refine Ev.guard (by simp only [sz1, sz2, ByteArray.size_append]; omega) (Ev.guard (by simp only [sz1, sz2, ByteArray.size_append]; omega) (Ev.bind hM ?_))
      refine Ev.guard (by simp only [sz1, sz2, ByteArray.size_append]; omega) (Ev.guard (by simp only [sz1, sz2, ByteArray.size_append]; omega) (Ev.bind hTm ?_))
      refine Ev.guard (by simp only [sz1, sz2, ByteArray.size_append]; omega) (Ev.ret fun k => ?_)
      rw [join4, mk_of n.Path, mk_data]
      simp only [mk1, mk2, mk_app]
      simp
    · simp only [if_neg k0]
      by_cases k1 : n.Kind = 1
      · simp only [if_pos k1]
        refine Ev.guard (by simp only [sz1, sz2, ByteArray.size_append]; omega) (Ev.guard (by simp only [sz1, sz2, ByteArray.size_append]; omega) (Ev.bind hM ?_))
        refine Ev.guard (by simp only [sz1, sz2, ByteArray.size_append]; omega) (Ev.guard (by simp only [sz1, sz2, ByteArray.size_append]; omega) (Ev.bind hTm ?_))
        refine Ev.guard (by simp only [sz1, sz2, ByteArray.size_append]; omega) (Ev.guard (by simp only [sz1, sz2, ByteArray.size_append]; omega) (Ev.bind hG ?_))
        refine Ev.guard (by simp only [sz1, sz2, ByteArray.size_append]; omega) (Ev.guard (by simp only [sz1, sz2, ByteArray.size_append]; omega) (Ev.bind hxD ?_))
        refine Ev.guard (by simp only [sz1, sz2, ByteArray.size_append]; omega) (Ev.ret fun k => ?_)
        rw [join6, mk_of n.Path, mk_data, mk_of (hex n.Data.data.toList), mk_data]
        simp only [mk1, mk2, mk_app]
        simp
      · simp only [if_neg k1]
        refine Ev.guard (by simp only [sz1, sz2, ByteArray.size_append]; omega) (Ev.guard (by simp only [sz1, sz2, ByteArray.size_append]; omega) (Ev.bind hTm ?_))
        refine Ev.guard (by simp only [sz1, sz2, ByteArray.size_append]; omega) (Ev.guard (by simp only [sz1, sz2, ByteArray.size_append]; omega) (Ev.bind hxT ?_))
        refine Ev.guard (by simp only [sz1, sz2, ByteArray.size_append]; omega) (Ev.ret fun k => ?_)
        rw [join4, mk_of n.Path, mk_data, mk_of (hex n.Target.data.toList), mk_data]
        simp only [mk1, mk2, mk_app]
        simp
  · simp only [if_neg h]
    exact Ev.ret fun k => rfl
theorem join_of (l : List (List UInt8)) (l' : List ByteArray) (hl : l' = l.map mk) (h1 : l.length ≤ 1000) (h : (Lib.join l [32]).length ≤ 140737488355328) : strings_Join.f l' (⟨#[32]⟩ : ByteArray) = some (mk (Lib.join l [32])) := by
  subst hl
  exact join_mk l 32 h1 h
theorem impl_show (n : GNode) (h : nOk n = true) : Ev (fun k => impl_showNode.f k n) (line n) := by
  obtain ⟨hP, ⟨m0, m1⟩, ⟨t0, t1⟩, ⟨g0, g1⟩, hD, hT, hK⟩ := nOk_facts h
  have hM := impl_Dec n.Mode m0 (by omega)
  have hTm := impl_Dec n.Time t0 t1
  have hG := impl_Dec n.Group g0 (by omega)
  have lM : (Lib.itoa n.Mode).length ≤ 10 := itoa_len _ m0 (by omega)
  have lT : (Lib.itoa n.Time).length ≤ 10 := itoa_len _ t0 t1
  have lG : (Lib.itoa n.Group).length ≤ 10 := itoa_len _ g0 (by omega)
  have eD := ba_len n.Data
  have eT := ba_len n.Target
  have eP := ba_len n.Path
  have hxD := impl_hex n.Data.data.toList (by omega)
  have hxT := impl_hex n.Target.data.toList (by omega)
  rw [mk_self] at hxD hxT
  have lxD := hexB_size n.Data.data.toList (by omega)
  have lxT := hexB_size n.Target.data.toList (by omega)
  have exD := ba_len (hex n.Data.data.toList)
  have exT := ba_len (hex n.Target.data.toList)
  simp only [impl_showNode.f]
  unfold line lw
  by_cases k0 : n.Kind = 0
  · simp only [if_pos k0]
    refine Ev.some hM (Ev.some hTm ?_)
    rw [join_of [[100], n.Path.data.toList, Lib.itoa n.Mode, Lib.itoa n.Time] _ (by simp only [List.map_cons, List.map_nil, mk_self]; rfl) (by simp) (by rw [join4]; simp; omega)]
    exact Ev.ret fun k => rfl
  · simp only [if_neg k0]
    by_cases k1 : n.Kind = 1
    · simp only [if_pos k1]
      refine Ev.some hM (Ev.some hTm (Ev.some hG (Ev.bind hxD ?_)))
      rw [join_of [[102], n.Path.data.toList, Lib.itoa n.Mode, Lib.itoa n.Time, Lib.itoa n.Group, (hex n.Data.data.toList).data.toList] _ (by simp only [List.map_cons, List.map_nil, mk_self]; rfl) (by simp) (by rw [join6]; simp; omega)]
      exact Ev.ret fun k => rfl
    · simp only [if_neg k1]
      refine Ev.some hTm (Ev.bind hxT ?_)
      rw [join_of [[108], n.Path.data.toList, Lib.itoa n.Time, (hex n.Target.data.toList).data.toList] _ (by simp only [List.map_cons, List.map_nil, mk_self]; rfl) (by simp) (by rw [join4]; simp; omega)]
      exact Ev.ret fun k => rfl
end Go.I

/-! EIQN1 -/
set_option linter.unusedVariables false
set_option linter.unusedSimpArgs false
set_option maxRecDepth 100000
set_option maxHeartbeats 4000000
namespace Go.I
open Go
/-! ### decimal numerals, read back -/
theorem decFrom_app : ∀ (a b : List UInt8) (acc : Nat), Lib.decFrom acc (a ++ b) = (Lib.decFrom acc a).bind fun x => Lib.decFrom x b
  | [], b, acc => rfl
  | c :: a, b, acc => by
    simp only [List.cons_append, Lib.decFrom]
    cases Lib.digitVal c with
    | none => rfl
    | some d => exact decFrom_app a b _
theorem digitVal_of (u : Nat) (h : u < 10) : Lib.digitVal (UInt8.ofNat (48 + u)) = some u := by
  have : u = 0 ∨ u = 1 ∨ u = 2 ∨ u = 3 ∨ u = 4 ∨ u = 5 ∨ u = 6 ∨ u = 7 ∨ u = 8 ∨ u = 9 := by omega
  rcases this with rfl | rfl | rfl | rfl | rfl | rfl | rfl | rfl | rfl | rfl <;> rfl
theorem decFrom_digits : ∀ u : Nat, Lib.decFrom 0 (Lib.decDigits u) = some u := by
  intro u
  induction u using Nat.strongRecOn with
  | _ u ih =>
    rw [Lib.decDigits]
    by_cases h : u < 10
    · rw [dif_pos h]
      simp only [Lib.decFrom, digitVal_of u h]
      simp
    · rw [dif_neg h, decFrom_app, ih (u / 10) (by omega)]
      show Lib.decFrom (u / 10) [UInt8.ofNat (48 + u % 10)] = some u
      simp only [Lib.decFrom, digitVal_of (u % 10) (by omega), Option.some.injEq]
      omega
theorem digits_char : ∀ (u : Nat) (c : UInt8), c ∈ Lib.decDigits u → 48 ≤ c.toNat ∧ c.toNat ≤ 57 := by
  intro u
  induction u using Nat.strongRecOn with
  | _ u ih =>
    intro c hc
    rw [Lib.decDigits] at hc
    have one : ∀ v : Nat, v < 10 → c = UInt8.ofNat (48 + v) → 48 ≤ c.toNat ∧ c.toNat ≤ 57 := by
      rintro v hv rfl
      have : v = 0 ∨ v = 1 ∨ v = 2 ∨ v = 3 ∨ v = 4 ∨ v = 5 ∨ v = 6 ∨ v = 7 ∨ v = 8 ∨ v = 9 := by omega
      rcases this with rfl | rfl | rfl | rfl | rfl | rfl | rfl | rfl | rfl | rfl <;> decide
    by_cases h : u < 10
    · rw [dif_pos h, List.mem_singleton] at hc
      exact one u h hc
    · rw [dif_neg h, List.mem_append, List.mem_singleton] at hc
      rcases hc with hc | hc
      · exact ih (u / 10) (by omega) c hc
      · exact one _ (by omega) hc
theorem digits_ne (u : Nat) : Lib.decDigits u ≠ [] := by
  rw [Lib.decDigits]
  split <;> simp
theorem itoa_nat (n : Int) (h : 0 ≤ n) : Lib.itoa n = Lib.decDigits n.toNat := by
  unfold Lib.itoa
  rw [if_neg (by omega)]
theorem atoi_itoa (n : Int) (h : 0 ≤ n) : Lib.atoi (Lib.itoa n) = some n := by
  rw [itoa_nat n h]
  have h1 := decFrom_digits n.toNat
  have h2 := digits_ne n.toNat
  have h3 := digits_char n.toNat
  cases hd : Lib.decDigits n.toNat with
  | nil => exact absurd hd h2
  | cons c t =>
    rw [hd] at h1 h3
    obtain ⟨c0, c1⟩ := h3 c (by simp)
    have e45 : (c == 45) = false := by
      rw [beq_eq_false_iff_ne]; rintro rfl; exact absurd c0 (by decide)
    have e43 : (c == 43) = false := by
      rw [beq_eq_false_iff_ne]; rintro rfl; exact absurd c0 (by decide)
    simp only [Lib.atoi, e45, e43, Bool.false_eq_true, if_false, Lib.decNat, List.isEmpty_cons, h1, Option.map_some, Option.some.injEq]
    omega
theorem atoiAll_itoa (n : Int) (h : 0 ≤ n) (h1 : n ≤ 1000000000) : Lib.atoiAll (Lib.itoa n) = .ok n := by
  rw [Lib.atoiAll_short _ (by have := itoa_len n h h1; omega), atoi_itoa n h]
  rfl
theorem decimal_itoa (n : Int) (h : 0 ≤ n) (h1 : n ≤ 1000000000) : impl_decimal.f (mk (Lib.itoa n)) = some (n, true) := by
  have hl := itoa_len n h h1
  unfold impl_decimal.f dval dok
  rw [if_pos (by rw [mk_size]; omega), mk_data, atoiAll_itoa n h h1]
  simp
theorem decimal_tot (s : ByteArray) (h : s.size ≤ 281474976710656) : ∃ v, impl_decimal.f s = some v := ⟨_, by unfold impl_decimal.f; rw [if_pos h]⟩
/-! ### words -/
theorem pcs_join (q : UInt8) : ∀ (ws : List (List UInt8)) (w pre : List UInt8), q ∉ w → (∀ x ∈ ws, q ∉ x) → pcs q pre (Lib.join (w :: ws) [q]) = mk (pre ++ w) :: ws.map mk := by
  have skip : ∀ (w rest pre : List UInt8), q ∉ w → pcs q pre (w ++ rest) = pcs q (pre ++ w) rest := by
    intro w
    induction w with
    | nil => intro rest pre _; simp
    | cons c w ih =>
      intro rest pre h
      have hc : ¬ c = q := fun e => h (by simp [e])
      have hw : q ∉ w := fun e => h (by simp [e])
      rw [List.cons_append, pcs, if_neg hc, ih rest (pre ++ [c]) hw]
      simp
  intro ws
  induction ws with
  | nil =>
    intro w pre h _
    rw [Lib.join_one]
    have := skip w [] pre h
    rw [List.append_nil] at this
    rw [this]
    rfl
  | cons x ws ih =>
    intro w pre h hx
    have e : Lib.join (w :: x :: ws) [q] = w ++ q :: Lib.join (x :: ws) [q] := by
      rw [Lib.join_cons, Lib.join_cons]
      simp [Lib.joinTail]
    rw [e, skip w _ pre h, pcs, if_pos rfl, ih x [] (hx x (by simp)) (fun y hy => hx y (by simp [hy]))]
    simp
end Go.I

/-! EIQN2 -/
set_option linter.unusedVariables false
set_option linter.unusedSimpArgs false
set_option maxRecDepth 100000
set_option maxHeartbeats 4000000
namespace Go.I
open Go
/-- It answers. -/
def Tot {α : Type} (f : Nat → Option α) : Prop := ∃ v, Ev f v
theorem Ev.tot {α : Type} {f : Nat → Option α} {v : α} (h : Ev f v) : Tot f := ⟨v, h⟩
theorem Tot.sm {α : Type} {v : α} : Tot (fun _ => some v) := ⟨v, Ev.sm⟩
theorem Tot.bind {α β : Type} {f : Nat → Option α} {g : Nat → α → Option β} (h1 : Tot f) (h2 : ∀ a, Tot (fun k => g k a)) : Tot (fun k => (f k).bind (g k)) := by
  obtain ⟨a, ha⟩ := h1
  obtain ⟨b, hb⟩ := h2 a
  exact ⟨b, Ev.bind ha hb⟩
theorem Tot.ite {α : Type} {c : Prop} [Decidable c] {f g : Nat → Option α} (h1 : c → Tot f) (h2 : ¬ c → Tot g) : Tot (fun k => if c then f k else g k) := by
  by_cases h : c
  · obtain ⟨v, hv⟩ := h1 h; exact ⟨v, hv.congr fun k => by rw [if_pos h]⟩
  · obtain ⟨v, hv⟩ := h2 h; exact ⟨v, hv.congr fun k => by rw [if_neg h]⟩
theorem Tot.guard {α : Type} {c : Prop} [Decidable c] {f : Nat → Option α} (hc : c) (h : Tot f) : Tot (fun k => if c then f k else none) := by
  obtain ⟨v, hv⟩ := h; exact ⟨v, hv.congr fun k => by rw [if_pos hc]⟩
theorem Tot.step {α : Type} {f g : Nat → Option α} (h : ∀ k, f (k + 1) = g k) (hg : Tot g) : Tot f := by
  obtain ⟨v, hv⟩ := hg; exact ⟨v, Ev.step h hv⟩
theorem Tot.congr {α : Type} {f g : Nat → Option α} (h : ∀ k, f k = g k) (hg : Tot g) : Tot f := by
  obtain ⟨v, hv⟩ := hg; exact ⟨v, Ev.congr h hv⟩
theorem Tot.up {α : Type} {f : Nat → Option α} (h : Tot fun k => f (k + 1)) : Tot f := by
  obtain ⟨v, K, hv⟩ := h
  refine ⟨v, K + 1, fun k hk => ?_⟩
  obtain ⟨j, rfl⟩ : ∃ j, k = j + 1 := ⟨k - 1, by omega⟩
  exact hv j (by omega)
theorem sget_bd (s : ByteArray) (i : Int) : 0 ≤ std.sget s i ∧ std.sget s i ≤ 255 := by
  show 0 ≤ (if h : i.toNat < s.size then ((s[i.toNat]'h).toNat : Int) else 0) ∧ (if h : i.toNat < s.size then ((s[i.toNat]'h).toNat : Int) else 0) ≤ 255
  split
  · exact u8_lt _
  · omega
/-! ### the reference's words -/
theorem l01Split_l0 (a : ByteArray) (ha : a.size ≤ 1100000) (suf : List UInt8) : ∀ (A pre : List UInt8) (out : List ByteArray) (f i : Int), a = mk (A ++ pre ++ suf) → f = A.length → i = A.length + pre.length → out.length + suf.length ≤ 2000000 →
    Ev (fun k => spec_l01Split.l0 k a out f i) (out ++ pcs 32 pre suf) := by
  induction suf with
  | nil =>
    intro A pre out f i h hf hi ho
    have hs : (a.size : Int) = A.length + pre.length := by rw [h, mk_size]; simp
    have hx : a.extract f.toNat (a.size : Int).toNat = mk pre := by rw [h]; exact mk_cut A pre [] (by omega) (by rw [mk_size]; simp; omega)
    simp only [List.length_nil] at ho
    refine Ev.at fun k => ?_
    simp (disch := omega) only [spec_l01Split.l0, if_neg, if_pos, hx, List.length_cons, List.length_nil]
    rfl
  | cons c t ih =>
    intro A pre out f i h hf hi ho
    have hs : (a.size : Int) = A.length + pre.length + t.length + 1 := by rw [h, mk_size]; simp; omega
    simp only [List.length_cons] at ho
    have hg : std.sget a i = c.toNat := by
      rw [h, List.append_assoc, ← List.append_assoc A pre]
      exact mk_get (A ++ pre) c t (by simp; omega)
    by_cases hc : c = 32
    · subst hc
      have hx : a.extract f.toNat i.toNat = mk pre := by rw [h]; exact mk_cut A pre (32 :: t) (by omega) (by omega)
      have hg' : std.sget a i = 32 := hg
      have hi2 := ih (A ++ pre ++ [32]) [] (out ++ [mk pre]) (i + 1) (i + 1) (by rw [h]; simp) (by simp; omega) (by simp; omega) (by simp; omega)
      refine Ev.step (fun k => ?_) (by simpa [pcs] using hi2)
      simp (disch := omega) only [spec_l01Split.l0, if_pos, hx, w64, List.length_cons, List.length_nil]
    · have hg' : std.sget a i ≠ 32 := by rw [hg]; exact u8_ne hc
      have hi2 := ih A (pre ++ [c]) out f (i + 1) (by rw [h]; simp) hf (by simp; omega) (by omega)
      refine Ev.step (fun k => ?_) (by simpa [pcs, hc] using hi2)
      simp (disch := omega) only [spec_l01Split.l0, if_pos, if_neg, w64]
theorem l01Split_ev (l : List UInt8) (h : l.length ≤ 1048576) : Ev (fun k => spec_l01Split.f k (mk l)) (pcs 32 [] l) :=
  (l01Split_l0 (mk l) (by rw [mk_size]; omega) l [] [] [] 0 0 rfl rfl rfl (by simp; omega)).congr fun k => rfl
/-! ### the reference's numerals -/
abbrev DG : ByteArray := ⟨#[48, 49, 50, 51, 52, 53, 54, 55, 56, 57]⟩
theorem dg_cut (a b : Int) (h0 : 0 ≤ a) (h1 : b = a + 1) : (((⟨#[48, 49, 50, 51, 52, 53, 54, 55, 56, 57]⟩ : ByteArray).extract a.toNat b.toNat).size : Int) ≤ 1 := by
  rw [ByteArray.size_extract]
  omega
theorem t10 (m : Int) : (0 ≤ m ∧ 0 ≤ Int.tmod m 10 ∧ Int.tmod m 10 ≤ 9 ∧ (Int.tdiv m 10).natAbs = m.natAbs / 10 ∧ 0 ≤ Int.tdiv m 10) ∨ (m < 0 ∧ -9 ≤ Int.tmod m 10 ∧ Int.tmod m 10 ≤ 0 ∧ (Int.tdiv m 10).natAbs = m.natAbs / 10 ∧ Int.tdiv m 10 ≤ 0) := by
  rcases Int.lt_or_le m 0 with h | h
  · right
    have e1 : Int.tmod m 10 = -(Int.tmod (-m) 10) := by have := Int.neg_tmod m 10; omega
    have e2 : Int.tdiv m 10 = -(Int.tdiv (-m) 10) := by have := Int.neg_tdiv m 10; omega
    rw [Int.tmod_eq_emod_of_nonneg (a := -m) (by omega)] at e1
    rw [Int.tdiv_eq_ediv_of_nonneg (a := -m) (by omega)] at e2
    rw [e1, e2]
    omega
  · left
    rw [Int.tmod_eq_emod_of_nonneg h, Int.tdiv_eq_ediv_of_nonneg h]
    omega
theorem decT_l0 (n : Int) (d : Nat) : ∀ (m : Int) (x : ByteArray), m.natAbs < 10 ^ d → m.natAbs ≤ 9000000000000000000 → x.size + d ≤ 1000 → Tot (fun k => spec_DecText.l0 k n x m) := by
  induction d with
  | zero =>
    intro m x hm _ hx
    have h0 : m = 0 := by simp at hm; exact hm
    refine Tot.up ?_
    have hz := sz1 45
    by_cases hn : n < 0
    · exact ⟨_, Ev.ret fun k => by simp (disch := omega) only [spec_DecText.l0, if_pos, hz]; rfl⟩
    · exact ⟨_, Ev.ret fun k => by simp (disch := omega) only [spec_DecText.l0, if_pos, if_neg]; rfl⟩
  | succ d ih =>
    intro m x hm hb hx
    have hz := sz1 45
    by_cases h0 : m = 0
    · refine Tot.up ?_
      by_cases hn : n < 0
      · exact ⟨_, Ev.ret fun k => by simp (disch := omega) only [spec_DecText.l0, if_pos, hz]; rfl⟩
      · exact ⟨_, Ev.ret fun k => by simp (disch := omega) only [spec_DecText.l0, if_pos, if_neg]; rfl⟩
    · have hq : (Int.tdiv m 10).natAbs = m.natAbs / 10 := by rcases t10 m with h | h <;> exact h.2.2.2.1
      have hr : -9 ≤ Int.tmod m 10 ∧ Int.tmod m 10 ≤ 9 := by rcases t10 m with h | h <;> omega
      have hw2 : IntKind.wrap .i64 (Int.tdiv m 10) = Int.tdiv m 10 := w64 (by omega) (by omega)
      have hD : ((⟨#[48, 49, 50, 51, 52, 53, 54, 55, 56, 57]⟩ : ByteArray).size : Int) = 10 := rfl
      have hpow : (Int.tdiv m 10).natAbs < 10 ^ d := by rw [Nat.pow_succ] at hm; omega
      generalize hrr : Int.tmod m 10 = r at hr
      generalize hqq : Int.tdiv m 10 = q at hq hw2 hpow
      by_cases hneg : r < 0
      · have w1 : IntKind.wrap .i64 (0 - r) = 0 - r := w64 (by omega) (by omega)
        have w2 : IntKind.wrap .i64 (0 - r + 1) = 0 - r + 1 := w64 (by omega) (by omega)
        have hc := dg_cut (0 - r) (0 - r + 1) (by omega) rfl
        obtain ⟨v, hv⟩ := ih q ((⟨#[48, 49, 50, 51, 52, 53, 54, 55, 56, 57]⟩ : ByteArray).extract (0 - r).toNat (0 - r + 1).toNat ++ x) hpow (by omega) (by rw [ByteArray.size_append]; omega)
        exact ⟨v, Ev.step (fun k => by simp (disch := omega) only [spec_DecText.l0, hrr, hqq, w1, w2, hw2, hD, if_pos, if_neg]) hv⟩
      · have w2 : IntKind.wrap .i64 (r + 1) = r + 1 := w64 (by omega) (by omega)
        have hc := dg_cut r (r + 1) (by omega) rfl
        obtain ⟨v, hv⟩ := ih q ((⟨#[48, 49, 50, 51, 52, 53, 54, 55, 56, 57]⟩ : ByteArray).extract r.toNat (r + 1).toNat ++ x) hpow (by omega) (by rw [ByteArray.size_append]; omega)
        exact ⟨v, Ev.step (fun k => by simp (disch := omega) only [spec_DecText.l0, hrr, hqq, w2, hw2, hD, if_pos, if_neg]) hv⟩
theorem dec_tot (n : Int) (h0 : -1000000000000000 ≤ n) (h1 : n ≤ 1000000000000000) : Tot (fun k => spec_DecText.f k n) := by
  simp only [spec_DecText.f]
  refine Tot.ite (fun _ => Tot.sm) fun _ => ?_
  exact decT_l0 n 16 n ⟨#[]⟩ (by have : (10 : Nat) ^ 16 = 10000000000000000 := by decide
                                 omega) (by omega) (by show 0 + 16 ≤ 1000; decide)
theorem pow_pos10 (j : Nat) : 1 ≤ 10 ^ j := Nat.pos_of_ne_zero (by simp)
theorem decN_step {x d : Nat} (j : Nat) (hd : d ≤ 9) (h : (x + 1) * 10 ^ (j + 1) ≤ 1000000000000000) : (10 * x + d + 1) * 10 ^ j ≤ 1000000000000000 := by
  refine Nat.le_trans ?_ h
  rw [Nat.pow_succ, Nat.mul_comm (10 ^ j) 10, ← Nat.mul_assoc]
  exact Nat.mul_le_mul_right _ (by omega)
theorem decN_bd {x : Nat} {j : Nat} (h : (x + 1) * 10 ^ j ≤ 1000000000000000) : x ≤ 1000000000000000 := by
  have := pow_pos10 j
  have h2 : (x + 1) * 1 ≤ (x + 1) * 10 ^ j := Nat.mul_le_mul_left _ this
  omega
theorem decN_l0 (a : ByteArray) (most : Int) (h0 : 0 ≤ most) (h1 : most ≤ 1000000000000) : ∀ (j x : Nat) (i : Int), i + j = a.size → 0 ≤ i → a.size ≤ 14 → (x + 1) * 10 ^ j ≤ 1000000000000000 → Tot (fun k => spec_DecNum.l0 k a most x i) := by
  intro j
  induction j with
  | zero =>
    intro x i hi hi0 ha hx
    have hb := decN_bd hx
    have w1 : IntKind.wrap .i64 (0 - (x : Int)) = 0 - x := w64 (by omega) (by omega)
    have hlt : ¬ i < (a.size : Int) := by omega
    obtain ⟨v, hv⟩ := dec_tot (0 - (x : Int)) (by omega) (by omega)
    refine Tot.up ?_
    simp only [spec_DecNum.l0, if_neg hlt, w1]
    obtain ⟨K, hv⟩ := hv
    exact Tot.bind ⟨v, K, fun k hk => hv k hk⟩ fun r => Tot.ite (fun _ => Tot.ite (fun _ => Tot.sm) fun _ => Tot.ite (fun _ => Tot.sm) fun _ => Tot.sm) fun _ => Tot.sm
  | succ j ih =>
    intro x i hi hi0 ha hx
    have hb := decN_bd hx
    obtain ⟨b0, b1⟩ := sget_bd a i
    generalize hg : std.sget a i = c at b0 b1
    have w1 : IntKind.wrap .i64 c = c := w64 (by omega) (by omega)
    have w2 : IntKind.wrap .i64 (c - 48) = c - 48 := w64 (by omega) (by omega)
    have w3 : IntKind.wrap .i64 (10 * (x : Int)) = 10 * x := w64 (by omega) (by omega)
    have w5 : IntKind.wrap .i64 (i + 1) = i + 1 := w64 (by omega) (by omega)
    by_cases hd : 0 ≤ c - 48 ∧ c - 48 ≤ 9
    · have w4 : IntKind.wrap .i64 (10 * (x : Int) + (c - 48)) = 10 * x + (c - 48) := w64 (by omega) (by omega)
      obtain ⟨v, hv⟩ := ih (10 * x + (c - 48).toNat) (i + 1) (by omega) (by omega) ha (decN_step j (by omega) hx)
      have e : ((10 * x + (c - 48).toNat : Nat) : Int) = 10 * x + (c - 48) := by omega
      rw [e] at hv
      refine ⟨v, Ev.step (fun k => ?_) hv⟩
      simp (disch := omega) only [spec_DecNum.l0, hg, w1, w2, w3, w4, w5, l01In_eq, bnd, decide_eq_true_eq, if_pos]
    · exact ⟨_, Ev.at fun k => by simp (disch := omega) only [spec_DecNum.l0, hg, w1, w2, l01In_eq, bnd, decide_eq_true_eq, if_pos, if_neg hd]; rfl⟩
theorem decN_l0v1 (a : ByteArray) (most : Int) (h0 : 0 ≤ most) (h1 : most ≤ 1000000000000) : ∀ (j x : Nat) (i : Int), i + j = a.size → 0 ≤ i → a.size ≤ 14 → (x + 1) * 10 ^ j ≤ 1000000000000000 → Tot (fun k => spec_DecNum.l0v1 k a most x i) := by
  intro j
  induction j with
  | zero =>
    intro x i hi hi0 ha hx
    have hb := decN_bd hx
    have hlt : ¬ i < (a.size : Int) := by omega
    have h01 : ¬ (0 = 1) := by decide
    obtain ⟨v, hv⟩ := dec_tot (x : Int) (by omega) (by omega)
    refine Tot.up ?_
    simp only [spec_DecNum.l0v1, if_neg hlt, if_neg h01]
    exact Tot.bind ⟨v, hv⟩ fun r => Tot.ite (fun _ => Tot.ite (fun _ => Tot.sm) fun _ => Tot.ite (fun _ => Tot.sm) fun _ => Tot.sm) fun _ => Tot.sm
  | succ j ih =>
    intro x i hi hi0 ha hx
    have hb := decN_bd hx
    obtain ⟨b0, b1⟩ := sget_bd a i
    generalize hg : std.sget a i = c at b0 b1
    have w1 : IntKind.wrap .i64 c = c := w64 (by omega) (by omega)
    have w2 : IntKind.wrap .i64 (c - 48) = c - 48 := w64 (by omega) (by omega)
    have w3 : IntKind.wrap .i64 (10 * (x : Int)) = 10 * x := w64 (by omega) (by omega)
    have w5 : IntKind.wrap .i64 (i + 1) = i + 1 := w64 (by omega) (by omega)
    by_cases hd : 0 ≤ c - 48 ∧ c - 48 ≤ 9
    · have w4 : IntKind.wrap .i64 (10 * (x : Int) + (c - 48)) = 10 * x + (c - 48) := w64 (by omega) (by omega)
      obtain ⟨v, hv⟩ := ih (10 * x + (c - 48).toNat) (i + 1) (by omega) (by omega) ha (decN_step j (by omega) hx)
      have e : ((10 * x + (c - 48).toNat : Nat) : Int) = 10 * x + (c - 48) := by omega
      rw [e] at hv
      refine ⟨v, Ev.step (fun k => ?_) hv⟩
      simp (disch := omega) only [spec_DecNum.l0v1, hg, w1, w2, w3, w4, w5, l01In_eq, bnd, decide_eq_true_eq, if_pos]
    · exact ⟨_, Ev.at fun k => by simp (disch := omega) only [spec_DecNum.l0v1, hg, w1, w2, l01In_eq, bnd, decide_eq_true_eq, if_pos, if_neg hd]; rfl⟩
theorem decNum_tot (a : ByteArray) : Tot (fun k => spec_DecNum.f k a 1000000000) := by
  have hm : (decide ((0 : Int) ≤ 1000000000 ∧ (1000000000 : Int) ≤ 1000000000000) = true) := by decide
  simp only [spec_DecNum.f, l01In_eq, bnd, hm, if_true]
  refine Tot.ite (fun _ => Tot.sm) fun hz => Tot.ite (fun _ => Tot.sm) fun h14 => ?_
  refine Tot.guard (by decide) (Tot.guard (by omega) (Tot.ite (fun _ => ?_) fun _ => ?_))
  · exact decN_l0 a _ (by decide) (by decide) (a.size - 1) 0 1 (by omega) (by decide) (by omega) (by
      have : 10 ^ (a.size - 1) ≤ 10 ^ 14 := Nat.pow_le_pow_right (by decide) (by omega)
      have e : (10 : Nat) ^ 14 = 100000000000000 := by decide
      omega)
  · exact decN_l0v1 a _ (by decide) (by decide) a.size 0 0 (by omega) (by decide) (by omega) (by
      have : 10 ^ a.size ≤ 10 ^ 14 := Nat.pow_le_pow_right (by decide) (by omega)
      have e : (10 : Nat) ^ 14 = 100000000000000 := by decide
      omega)
/-- A numeral is read back. -/
theorem decFrom_mono : ∀ (l : List UInt8) (x v : Nat), Lib.decFrom x l = some v → x ≤ v
  | [], x, v, h => by simp only [Lib.decFrom, Option.some.injEq] at h; omega
  | c :: l, x, v, h => by
    simp only [Lib.decFrom] at h
    split at h
    · have := decFrom_mono l _ v h; omega
    · cases h
theorem decN_read (l : List UInt8) (hl : l.length ≤ 14) (n : Nat) (hn : n ≤ 1000000000) (hit : Lib.itoa n = l) : ∀ (suf A : List UInt8) (x : Nat) (i : Int), l = A ++ suf → i = A.length → Lib.decFrom x suf = some n → Ev (fun k => spec_DecNum.l0v1 k (mk l) 1000000000 x i) ((n : Int), true) := by
  have hs : ((mk l).size : Int) = l.length := by rw [mk_size]
  intro suf
  induction suf with
  | nil =>
    intro A x i h hi hd
    simp only [Lib.decFrom, Option.some.injEq] at hd
    subst hd
    have hA : (l.length : Int) = A.length := by rw [h]; simp
    have hlt : ¬ i < (l.length : Int) := by omega
    have h01 : ¬ (0 = 1) := by decide
    have hv := spec_Dec (x : Int) (by omega) (by omega)
    rw [hit] at hv
    have w1 : IntKind.wrap .i64 (0 - (1000000000 : Int)) = -1000000000 := by decide
    have c1 : ¬ (1000000000 : Int) < x := by omega
    have c2 : ¬ (x : Int) < -1000000000 := by omega
    refine Ev.step (g := fun k => (spec_DecText.f k x).bind fun r => if r = mk l then some ((x : Int), true) else some (0, false)) (fun k => ?_) (Ev.bind hv (Ev.ret fun k => by rw [if_pos rfl]))
    simp only [spec_DecNum.l0v1, hs, if_neg hlt, if_neg h01, w1, if_neg c1, if_neg c2]
  | cons c t ih =>
    intro A x i h hi hd
    have hA : (l.length : Int) = A.length + t.length + 1 := by rw [h]; simp; omega
    have hg : std.sget (mk l) i = c.toNat := by rw [h]; exact mk_get A c t hi
    simp only [Lib.decFrom] at hd
    split at hd
    · rename_i d hdv
      unfold Lib.digitVal at hdv
      split at hdv
      · rename_i hcd
        injection hdv with hdv
        have hm := decFrom_mono t _ n hd
        have hi2 := ih (A ++ [c]) (x * 10 + d) (i + 1) (by rw [h]; simp) (by simp; omega) hd
        have w1 : IntKind.wrap .i64 (c.toNat : Int) = c.toNat := w64 (by omega) (by omega)
        have w2 : IntKind.wrap .i64 ((c.toNat : Int) - 48) = d := by rw [w64 (by omega) (by omega)]; omega
        have w3 : IntKind.wrap .i64 (10 * (x : Int)) = 10 * x := w64 (by omega) (by omega)
        have w4 : IntKind.wrap .i64 (10 * (x : Int) + d) = ((x * 10 + d : Nat) : Int) := by rw [w64 (by omega) (by omega)]; omega
        have w5 : IntKind.wrap .i64 (i + 1) = i + 1 := w64 (by omega) (by omega)
        refine Ev.step (fun k => ?_) hi2
        simp (disch := omega) only [spec_DecNum.l0v1, hs, hg, w1, w2, w3, w4, w5, l01In_eq, bnd, decide_eq_true_eq, if_pos]
      · cases hdv
    · cases hd
theorem decNum_itoa (n : Int) (h : 0 ≤ n) (h1 : n ≤ 1000000000) : Ev (fun k => spec_DecNum.f k (mk (Lib.itoa n)) 1000000000) (n, true) := by
  have hl := itoa_len n h h1
  have hit : Lib.itoa ((n.toNat : Nat) : Int) = Lib.itoa n := by rw [Int.toNat_of_nonneg h]
  have hne := digits_ne n.toNat
  have hch := digits_char n.toNat
  have hdf := decFrom_digits n.toNat
  rw [← itoa_nat n h] at hne hch hdf
  have hpos : 0 < (Lib.itoa n).length := List.length_pos_iff.2 hne
  have hs : ((mk (Lib.itoa n)).size : Int) = (Lib.itoa n).length := by rw [mk_size]
  have hr := decN_read (Lib.itoa n) (by omega) n.toNat (by omega) hit (Lib.itoa n) [] 0 0 rfl rfl hdf
  rw [Int.toNat_of_nonneg h] at hr
  have hg : std.sget (mk (Lib.itoa n)) 0 ≠ 45 := by
    cases hc : Lib.itoa n with
    | nil => exact absurd hc hne
    | cons c t =>
      have := mk_get [] c t (i := 0) rfl
      rw [List.nil_append] at this
      rw [this]
      have := hch c (by rw [hc]; simp)
      omega
  have hm : (decide ((0 : Int) ≤ 1000000000 ∧ (1000000000 : Int) ≤ 1000000000000) = true) := by decide
  refine hr.congr fun k => ?_
  simp (disch := omega) only [spec_DecNum.f, l01In_eq, bnd, hm, if_true, hs, if_pos, if_neg, hg]
  rw [if_neg (by decide : ¬ False)]
  rfl
end Go.I

/-! EIQN3 -/
set_option linter.unusedVariables false
set_option linter.unusedSimpArgs false
set_option maxRecDepth 100000
set_option maxHeartbeats 4000000
namespace Go.I
open Go
/-! ### hexadecimal digits, read back -/
def hxc (d : Nat) : UInt8 := if d < 10 then UInt8.ofNat (48 + d) else UInt8.ofNat (87 + d)
def hexm (l : List UInt8) : List UInt8 := l.flatMap fun c => [hxc (c.toNat / 16), hxc (c.toNat % 16)]
theorem lt16 {P : Nat → Prop} (h : P 0 ∧ P 1 ∧ P 2 ∧ P 3 ∧ P 4 ∧ P 5 ∧ P 6 ∧ P 7 ∧ P 8 ∧ P 9 ∧ P 10 ∧ P 11 ∧ P 12 ∧ P 13 ∧ P 14 ∧ P 15) (d : Nat) (hd : d < 16) : P d := by
  obtain ⟨h0, h1, h2, h3, h4, h5, h6, h7, h8, h9, h10, h11, h12, h13, h14, h15⟩ := h
  have : d = 0 ∨ d = 1 ∨ d = 2 ∨ d = 3 ∨ d = 4 ∨ d = 5 ∨ d = 6 ∨ d = 7 ∨ d = 8 ∨ d = 9 ∨ d = 10 ∨ d = 11 ∨ d = 12 ∨ d = 13 ∨ d = 14 ∨ d = 15 := by omega
  rcases this with rfl | rfl | rfl | rfl | rfl | rfl | rfl | rfl | rfl | rfl | rfl | rfl | rfl | rfl | rfl | rfl <;> assumption
theorem sget_HX (d : Nat) (hd : d < 16) : std.sget HX d = (hxc d).toNat := lt16 (P := fun d => std.sget HX d = (hxc d).toNat) ⟨rfl, rfl, rfl, rfl, rfl, rfl, rfl, rfl, rfl, rfl, rfl, rfl, rfl, rfl, rfl, rfl⟩ d hd
theorem idx_HX (d : Nat) (hd : d < 16) : strings_IndexByte.f (⟨#[48, 49, 50, 51, 52, 53, 54, 55, 56, 57, 97, 98, 99, 100, 101, 102]⟩ : ByteArray) ((hxc d).toNat : Int) = some (d : Int) :=
  lt16 (P := fun d => strings_IndexByte.f (⟨#[48, 49, 50, 51, 52, 53, 54, 55, 56, 57, 97, 98, 99, 100, 101, 102]⟩ : ByteArray) ((hxc d).toNat : Int) = some (d : Int)) ⟨rfl, rfl, rfl, rfl, rfl, rfl, rfl, rfl, rfl, rfl, rfl, rfl, rfl, rfl, rfl, rfl⟩ d hd
theorem dig_HX (d : Nat) (hd : d < 16) : spec_l01Digit.f ((hxc d).toNat : Int) = some (d : Int) :=
  lt16 (P := fun d => spec_l01Digit.f ((hxc d).toNat : Int) = some (d : Int)) ⟨by decide, by decide, by decide, by decide, by decide, by decide, by decide, by decide, by decide, by decide, by decide, by decide, by decide, by decide, by decide, by decide⟩ d hd
theorem hxc_ne (d : Nat) (hd : d < 16) : hxc d ≠ 32 := lt16 (P := fun d => hxc d ≠ 32) ⟨by decide, by decide, by decide, by decide, by decide, by decide, by decide, by decide, by decide, by decide, by decide, by decide, by decide, by decide, by decide, by decide⟩ d hd
theorem hp_nat (c : UInt8) : hp c.toNat = [((hxc (c.toNat / 16)).toNat : Int), ((hxc (c.toNat % 16)).toNat : Int)] := by
  have := c.toNat_lt
  unfold hp
  have e1 : ((c.toNat : Int) / 16) = ((c.toNat / 16 : Nat) : Int) := by omega
  have e2 : ((c.toNat : Int) % 16) = ((c.toNat % 16 : Nat) : Int) := by omega
  rw [e1, e2, sget_HX _ (by omega), sget_HX _ (by omega)]
theorem strOf_nat (l : List UInt8) : std.strOf (l.map fun c => (c.toNat : Int)) = mk l := by
  show (⟨((l.map fun c => (c.toNat : Int)).map fun n => UInt8.ofNat n.toNat).toArray⟩ : ByteArray) = mk l
  rw [List.map_map]
  unfold mk
  congr 2
  conv => rhs; rw [← List.map_id l]
  exact List.map_congr_left fun c _ => by simp
theorem strOf_hex (l : List UInt8) : std.strOf (l.flatMap fun c => hp c.toNat) = mk (hexm l) := by
  rw [← strOf_nat]
  congr 1
  unfold hexm
  induction l with
  | nil => rfl
  | cons c t ih => rw [List.flatMap_cons, List.flatMap_cons, List.map_append, ih, hp_nat]; rfl
theorem hexm_len (l : List UInt8) : (hexm l).length = 2 * l.length := by
  unfold hexm
  induction l with
  | nil => rfl
  | cons c t ih => rw [List.flatMap_cons, List.length_append, ih]; simp; omega
theorem hex_cons {l : List UInt8} (h : l ≠ []) : hex l = mk (hexm l) := by unfold hex; rw [if_neg h, strOf_hex]
theorem hex_dash (l : List UInt8) : (32 : UInt8) ∉ (hex l).data.toList := by
  unfold hex
  split
  · simp
  · rw [strOf_hex, mk_data]
    unfold hexm
    intro h
    obtain ⟨c, _, hc⟩ := List.mem_flatMap.1 h
    have := c.toNat_lt
    simp only [List.mem_cons, List.mem_nil_iff, or_false] at hc
    rcases hc with hc | hc
    · exact hxc_ne _ (by omega) hc.symm
    · exact hxc_ne _ (by omega) hc.symm
theorem impl_unhex_l0 (l : List UInt8) (hl : l.length ≤ 20000) (suf : List UInt8) : ∀ (A : List UInt8) (out : List Int) (i : Int), l = A ++ suf → i = 2 * A.length → out = A.map (fun c => (c.toNat : Int)) → Ev (fun k => impl_readHex.l0 k (mk (hexm l)) out i) (mk l, true) := by
  have hs : ((mk (hexm l)).size : Int) = 2 * l.length := by rw [mk_size, hexm_len]; omega
  induction suf with
  | nil =>
    intro A out i h hi ho
    have hA : (l.length : Int) = A.length := by rw [h]; simp
    have hlt : ¬ i < 2 * (l.length : Int) := by omega
    refine Ev.at fun k => ?_
    simp only [impl_readHex.l0, hs, if_neg hlt]
    rw [ho, strOf_nat, h, List.append_nil]
  | cons c t ih =>
    intro A out i h hi ho
    have hA : (l.length : Int) = A.length + t.length + 1 := by rw [h]; simp; omega
    have hcl := c.toNat_lt
    have e : hexm l = hexm A ++ hxc (c.toNat / 16) :: (hxc (c.toNat % 16) :: hexm t) := by rw [h]; unfold hexm; rw [List.flatMap_append, List.flatMap_cons]; rfl
    have g1 : std.sget (mk (hexm l)) i = (hxc (c.toNat / 16)).toNat := by rw [e]; exact mk_get _ _ _ (by rw [hexm_len]; omega)
    have g2 : std.sget (mk (hexm l)) (i + 1) = (hxc (c.toNat % 16)).toNat := by
      rw [e, show hexm A ++ hxc (c.toNat / 16) :: (hxc (c.toNat % 16) :: hexm t) = (hexm A ++ [hxc (c.toNat / 16)]) ++ hxc (c.toNat % 16) :: hexm t by simp]
      exact mk_get _ _ _ (by simp [hexm_len]; omega)
    have i1 := idx_HX (c.toNat / 16) (by omega)
    have i2 := idx_HX (c.toNat % 16) (by omega)
    have w1 : IntKind.wrap .i64 (i + 1) = i + 1 := w64 (by omega) (by omega)
    have w2 : IntKind.wrap .i64 (i + 2) = i + 2 := w64 (by omega) (by omega)
    have w3 : IntKind.wrap .i64 (16 * ((c.toNat / 16 : Nat) : Int)) = 16 * ((c.toNat / 16 : Nat) : Int) := w64 (by omega) (by omega)
    have w4 : IntKind.wrap .i64 (16 * ((c.toNat / 16 : Nat) : Int) + ((c.toNat % 16 : Nat) : Int)) = c.toNat := by rw [w64 (by omega) (by omega)]; omega
    have w5 : IntKind.wrap .u8 (c.toNat : Int) = c.toNat := w8 (by omega) (by omega)
    have ho' : (out.length : Int) = A.length := by rw [ho]; simp
    have hi2 := ih (A ++ [c]) (out ++ [(c.toNat : Int)]) (i + 2) (by rw [h]; simp) (by simp; omega) (by rw [ho]; simp)
    refine Ev.step (fun k => ?_) hi2
    simp (disch := omega) only [impl_readHex.l0, hs, g1, w1, g2, i1, i2, bnd, w2, w3, w4, w5, if_pos, if_neg, List.length_cons, List.length_nil]
theorem impl_unhex (l : List UInt8) (hl : l.length ≤ 20000) : Ev (fun k => impl_readHex.f k (mk (hexm l))) (mk l, true) := by
  have hs : ((mk (hexm l)).size : Int) = 2 * l.length := by rw [mk_size, hexm_len]; omega
  have h2 : Int.tmod (2 * (l.length : Int)) 2 = 0 := by rw [Int.tmod_eq_emod_of_nonneg (by omega)]; omega
  have h3 : Int.tdiv (2 * (l.length : Int)) 2 = l.length := by rw [Int.tdiv_eq_ediv_of_nonneg (by omega)]; omega
  have w1 : IntKind.wrap .i64 (l.length : Int) = l.length := w64 (by omega) (by omega)
  refine (impl_unhex_l0 l hl l [] [] 0 rfl rfl rfl).congr fun k => ?_
  simp (disch := omega) only [impl_readHex.f, hs, h2, h3, w1, if_pos, if_neg]
  rfl
theorem impl_hexl0_tot (s : ByteArray) (hs : s.size ≤ 40000) : ∀ (j : Nat) (out : List Int) (i : Int), i + 2 * j = s.size → 0 ≤ i → out.length + j ≤ 30000 → Tot (fun k => impl_readHex.l0 k s out i) := by
  intro j
  induction j with
  | zero =>
    intro out i hi h0 ho
    exact ⟨_, Ev.at fun k => by simp (disch := omega) only [impl_readHex.l0, if_neg]; rfl⟩
  | succ j ih =>
    intro out i hi h0 ho
    have w1 : IntKind.wrap .i64 (i + 1) = i + 1 := w64 (by omega) (by omega)
    have w2 : IntKind.wrap .i64 (i + 2) = i + 2 := w64 (by omega) (by omega)
    have e1 : ∀ c : Int, ∃ r, strings_IndexByte.f (⟨#[48, 49, 50, 51, 52, 53, 54, 55, 56, 57, 97, 98, 99, 100, 101, 102]⟩ : ByteArray) c = some r := fun c => ⟨_, rfl⟩
    obtain ⟨r8, h8⟩ := e1 (std.sget s i)
    obtain ⟨r9, h9⟩ := e1 (std.sget s (i + 1))
    by_cases c8 : r8 < 0
    · exact ⟨_, Ev.at fun k => by simp (disch := omega) only [impl_readHex.l0, w1, h8, h9, bnd, if_pos]; rfl⟩
    · by_cases c9 : r9 < 0
      · exact ⟨_, Ev.at fun k => by simp (disch := omega) only [impl_readHex.l0, w1, h8, h9, bnd, if_pos, if_neg]; rfl⟩
      · obtain ⟨v, hv⟩ := ih (out ++ [IntKind.wrap .u8 (IntKind.wrap .i64 (IntKind.wrap .i64 (16 * r8) + r9))]) (i + 2) (by omega) (by omega) (by simp; omega)
        exact ⟨v, Ev.step (fun k => by simp (disch := omega) only [impl_readHex.l0, w1, w2, h8, h9, bnd, if_pos, if_neg, List.length_cons, List.length_nil]) hv⟩
theorem impl_hex_tot (s : ByteArray) (hs : s.size ≤ 4000000) : Tot (fun k => impl_readHex.f k s) := by
  have h2 : Int.tmod (s.size : Int) 2 = (s.size : Int) % 2 := Int.tmod_eq_emod_of_nonneg (by omega)
  have h3 : Int.tdiv (s.size : Int) 2 = (s.size : Int) / 2 := Int.tdiv_eq_ediv_of_nonneg (by omega)
  have w1 : IntKind.wrap .i64 ((s.size : Int) / 2) = (s.size : Int) / 2 := w64 (by omega) (by omega)
  by_cases c1 : (s.size : Int) % 2 = 0
  · by_cases c2 : (40000 : Int) < s.size
    · exact ⟨_, Ev.ret fun k => by simp (disch := omega) only [impl_readHex.f, h2, if_pos, if_neg]; rfl⟩
    · obtain ⟨v, hv⟩ := impl_hexl0_tot s (by omega) (s.size / 2) [] 0 (by omega) (by decide) (by simp; omega)
      exact ⟨v, hv.congr fun k => by simp (disch := omega) only [impl_readHex.f, h2, h3, w1, if_pos, if_neg]; rfl⟩
  · exact ⟨_, Ev.ret fun k => by simp (disch := omega) only [impl_readHex.f, h2, if_pos, if_neg]; rfl⟩
theorem dig_tot (c : Int) : ∃ r, spec_l01Digit.f c = some r := by
  simp only [spec_l01Digit.f, l01In_eq, bnd]
  split
  · exact ⟨_, rfl⟩
  · split <;> exact ⟨_, rfl⟩
theorem spec_unhex_l0 (l : List UInt8) (hl : l.length ≤ 20000) (suf : List UInt8) : ∀ (A : List UInt8) (out : List Int) (i : Int), l = A ++ suf → i = 2 * A.length → out = A.map (fun c => (c.toNat : Int)) → Ev (fun k => spec_HexBytes.l0 k (mk (hexm l)) out i) (l.map (fun c => (c.toNat : Int)), true) := by
  have hs : ((mk (hexm l)).size : Int) = 2 * l.length := by rw [mk_size, hexm_len]; omega
  induction suf with
  | nil =>
    intro A out i h hi ho
    have hA : (l.length : Int) = A.length := by rw [h]; simp
    have hlt : ¬ i < 2 * (l.length : Int) := by omega
    refine Ev.at fun k => ?_
    simp only [spec_HexBytes.l0, hs, if_neg hlt]
    rw [ho, h, List.append_nil]
  | cons c t ih =>
    intro A out i h hi ho
    have hA : (l.length : Int) = A.length + t.length + 1 := by rw [h]; simp; omega
    have hcl := c.toNat_lt
    have e : hexm l = hexm A ++ hxc (c.toNat / 16) :: (hxc (c.toNat % 16) :: hexm t) := by rw [h]; unfold hexm; rw [List.flatMap_append, List.flatMap_cons]; rfl
    have g1 : std.sget (mk (hexm l)) i = (hxc (c.toNat / 16)).toNat := by rw [e]; exact mk_get _ _ _ (by rw [hexm_len]; omega)
    have g2 : std.sget (mk (hexm l)) (i + 1) = (hxc (c.toNat % 16)).toNat := by
      rw [e, show hexm A ++ hxc (c.toNat / 16) :: (hxc (c.toNat % 16) :: hexm t) = (hexm A ++ [hxc (c.toNat / 16)]) ++ hxc (c.toNat % 16) :: hexm t by simp]
      exact mk_get _ _ _ (by simp [hexm_len]; omega)
    have i1 := dig_HX (c.toNat / 16) (by omega)
    have i2 := dig_HX (c.toNat % 16) (by omega)
    have w1 : IntKind.wrap .i64 (i + 1) = i + 1 := w64 (by omega) (by omega)
    have w2 : IntKind.wrap .i64 (i + 2) = i + 2 := w64 (by omega) (by omega)
    have w3 : IntKind.wrap .i64 (16 * ((c.toNat / 16 : Nat) : Int)) = 16 * ((c.toNat / 16 : Nat) : Int) := w64 (by omega) (by omega)
    have w4 : IntKind.wrap .i64 (16 * ((c.toNat / 16 : Nat) : Int) + ((c.toNat % 16 : Nat) : Int)) = c.toNat := by rw [w64 (by omega) (by omega)]; omega
    have w5 : IntKind.wrap .u8 (c.toNat : Int) = c.toNat := w8 (by omega) (by omega)
    have ho' : (out.length : Int) = A.length := by rw [ho]; simp
    have hi2 := ih (A ++ [c]) (out ++ [(c.toNat : Int)]) (i + 2) (by rw [h]; simp) (by simp; omega) (by rw [ho]; simp)
    refine Ev.step (fun k => ?_) hi2
    simp (disch := omega) only [spec_HexBytes.l0, hs, g1, w1, g2, i1, i2, bnd, w2, w3, w4, w5, if_pos, if_neg, List.length_cons, List.length_nil]
theorem spec_unhex (l : List UInt8) (hl : l.length ≤ 20000) : Ev (fun k => spec_HexBytes.f k (mk (hexm l))) (l.map (fun c => (c.toNat : Int)), true) := by
  have hs : ((mk (hexm l)).size : Int) = 2 * l.length := by rw [mk_size, hexm_len]; omega
  have h2 : Int.tmod (2 * (l.length : Int)) 2 = 0 := by rw [Int.tmod_eq_emod_of_nonneg (by omega)]; omega
  refine (spec_unhex_l0 l hl l [] [] 0 rfl rfl rfl).congr fun k => ?_
  simp (disch := omega) only [spec_HexBytes.f, hs, h2, if_pos, if_neg]
  rfl
theorem spec_hexl0_tot (s : ByteArray) (hs : s.size ≤ 40000) : ∀ (j : Nat) (out : List Int) (i : Int), i + 2 * j = s.size → 0 ≤ i → out.length + j ≤ 30000 → Tot (fun k => spec_HexBytes.l0 k s out i) := by
  intro j
  induction j with
  | zero =>
    intro out i hi h0 ho
    exact ⟨_, Ev.at fun k => by simp (disch := omega) only [spec_HexBytes.l0, if_neg]; rfl⟩
  | succ j ih =>
    intro out i hi h0 ho
    have w1 : IntKind.wrap .i64 (i + 1) = i + 1 := w64 (by omega) (by omega)
    have w2 : IntKind.wrap .i64 (i + 2) = i + 2 := w64 (by omega) (by omega)
    obtain ⟨r8, h8⟩ := dig_tot (std.sget s i)
    obtain ⟨r9, h9⟩ := dig_tot (std.sget s (i + 1))
    by_cases c8 : r8 < 0
    · exact ⟨_, Ev.at fun k => by simp (disch := omega) only [spec_HexBytes.l0, w1, h8, h9, bnd, if_pos]; rfl⟩
    · by_cases c9 : r9 < 0
      · exact ⟨_, Ev.at fun k => by simp (disch := omega) only [spec_HexBytes.l0, w1, h8, h9, bnd, if_pos, if_neg]; rfl⟩
      · obtain ⟨v, hv⟩ := ih (out ++ [IntKind.wrap .u8 (IntKind.wrap .i64 (IntKind.wrap .i64 (16 * r8) + r9))]) (i + 2) (by omega) (by omega) (by simp; omega)
        exact ⟨v, Ev.step (fun k => by simp (disch := omega) only [spec_HexBytes.l0, w1, w2, h8, h9, bnd, if_pos, if_neg, List.length_cons, List.length_nil]) hv⟩
theorem spec_hex_tot (s : ByteArray) (hs : s.size ≤ 4000000) : Tot (fun k => spec_HexBytes.f k s) := by
  have h2 : Int.tmod (s.size : Int) 2 = (s.size : Int) % 2 := Int.tmod_eq_emod_of_nonneg (by omega)
  by_cases c1 : (s.size : Int) % 2 = 0
  · by_cases c2 : (40000 : Int) < s.size
    · exact ⟨_, Ev.ret fun k => by simp (disch := omega) only [spec_HexBytes.f, h2, if_pos, if_neg]; rfl⟩
    · obtain ⟨v, hv⟩ := spec_hexl0_tot s (by omega) (s.size / 2) [] 0 (by omega) (by decide) (by simp; omega)
      exact ⟨v, hv.congr fun k => by simp (disch := omega) only [spec_HexBytes.f, h2, if_pos, if_neg]⟩
  · exact ⟨_, Ev.ret fun k => by simp (disch := omega) only [spec_HexBytes.f, h2, if_pos, if_neg]; rfl⟩
end Go.I

/-! EIQN4 -/
set_option linter.unusedVariables false
set_option linter.unusedSimpArgs false
set_option maxRecDepth 100000
set_option maxHeartbeats 4000000
namespace Go.I
open Go
/-! ### a node's line, read back -/
abbrev ZN : GNode := ⟨(⟨#[]⟩ : ByteArray), 0, 0, 0, (⟨#[]⟩ : ByteArray), (⟨#[]⟩ : ByteArray), 0⟩
/-- What may come of a line. -/
def Good (a : ByteArray) (r : GNode × Bool) : Prop := r = (ZN, false) ∨ ∃ n, r = (n, true) ∧ nOk n = true ∧ line n = a
theorem line_ne (n : GNode) : line n ≠ (⟨#[]⟩ : ByteArray) := by
  intro h
  unfold line lw at h
  have h := (mk_nil _).1 h
  split at h
  · rw [join4] at h; simp at h
  · split at h
    · rw [join6] at h; simp at h
    · rw [join4] at h; simp at h
theorem spec_tail (a : ByteArray) (n : GNode) : ∃ r, Ev (fun k => if a = (⟨#[]⟩ : ByteArray) then some (ZN, false) else (spec_ShowNode.f k n).bind fun r => if r = a then some (n, true) else some (ZN, false)) r ∧ Good a r ∧ (nOk n = true → line n = a → r = (n, true)) := by
  by_cases ha : a = (⟨#[]⟩ : ByteArray)
  · exact ⟨(ZN, false), Ev.ret fun k => by rw [if_pos ha], .inl rfl, fun _ h => absurd (h.trans ha) (line_ne n)⟩
  · have hS := spec_Show n
    simp only [if_neg ha]
    by_cases hn : nOk n = true
    · rw [if_pos hn] at hS
      by_cases hl : line n = a
      · exact ⟨(n, true), Ev.bind hS (Ev.ret fun k => by rw [if_pos hl]), .inr ⟨n, rfl, hn, hl⟩, fun _ _ => rfl⟩
      · exact ⟨(ZN, false), Ev.bind hS (Ev.ret fun k => by rw [if_neg hl]), .inl rfl, fun _ h => absurd h hl⟩
    · rw [if_neg hn] at hS
      exact ⟨(ZN, false), Ev.bind hS (Ev.ret fun k => by rw [if_neg (fun e => ha e.symm)]), .inl rfl, fun h => absurd h hn⟩
theorem up2 {α : Type} {f : Nat → Option α} {P : α → Prop} (h : ∃ r, Ev (fun k => f (k + 1)) r ∧ P r) : ∃ r, Ev f r ∧ P r := by
  obtain ⟨r, ⟨K, hK⟩, hp⟩ := h
  refine ⟨r, ⟨K + 1, fun k hk => ?_⟩, hp⟩
  obtain ⟨j, rfl⟩ : ∃ j, k = j + 1 := ⟨k - 1, by omega⟩
  exact hK j (by omega)
theorem unhex_tot (s : ByteArray) (hs : s.size ≤ 4000000) : Tot (fun k => spec_l20Unhex.f k s) := by
  simp only [spec_l20Unhex.f]
  exact Tot.ite (fun _ => Tot.sm) fun _ => Tot.bind (spec_hex_tot s hs) fun _ => Tot.sm
theorem unhex_hex (l : List UInt8) (hl : l.length ≤ 20000) : Ev (fun k => spec_l20Unhex.f k (hex l)) (mk l) := by
  simp only [spec_l20Unhex.f]
  by_cases h : l = []
  · subst h
    exact Ev.ret fun k => by rw [if_pos (by rfl)]; rfl
  · have hne : ¬ hex l = (⟨#[45]⟩ : ByteArray) := by
      intro e
      have := congrArg ByteArray.size e
      rw [hex_cons h, mk_size, hexm_len] at this
      have h1 : (⟨#[45]⟩ : ByteArray).size = 1 := rfl
      omega
    rw [hex_cons h] at hne ⊢
    simp only [if_neg hne]
    refine Ev.bind (spec_unhex l hl) (Ev.ret fun k => ?_)
    rw [strOf_nat]
/-- Behind the loop. -/
theorem spec_end (a : ByteArray) (W : List ByteArray) (nums : List Int) (hl : nums.length = W.length) (hW : ∀ x ∈ W, x.size ≤ 4000000) : ∃ r, Ev (fun k => spec_ReadNode.l0 k a W nums W.length) r ∧ Good a r := by
  have hlt : ¬ (W.length : Int) < (W.length : Int) := by omega
  have tail := fun n => spec_tail a n
  have fin : ∀ n, ∃ r, Ev (fun k => if a = (⟨#[]⟩ : ByteArray) then some (ZN, false) else (spec_ShowNode.f k n).bind fun r => if r = a then some (n, true) else some (ZN, false)) r ∧ Good a r := fun n => by
    obtain ⟨r, h1, h2, _⟩ := spec_tail a n
    exact ⟨r, h1, h2⟩
  have finB : ∀ (s : ByteArray) (g : ByteArray → GNode), s.size ≤ 4000000 → ∃ r, Ev (fun k => (spec_l20Unhex.f k s).bind fun x => if a = (⟨#[]⟩ : ByteArray) then some (ZN, false) else (spec_ShowNode.f k (g x)).bind fun r => if r = a then some (g x, true) else some (ZN, false)) r ∧ Good a r := fun s g hs => by
    obtain ⟨x, hx⟩ := unhex_tot s hs
    obtain ⟨r, h1, h2⟩ := fin (g x)
    exact ⟨r, Ev.bind hx h1, h2⟩
  refine up2 ?_
  by_cases h4 : W.length = 4
  · match W, h4, nums, hl with
    | [w0, w1, w2, w3], _, [p0, p1, p2, p3], _ =>
      have e4 : (([w0, w1, w2, w3] : List ByteArray).length : Int) = 4 := rfl
      have n4 : (([p0, p1, p2, p3] : List Int).length : Int) = 4 := rfl
      have g0 : ([w0, w1, w2, w3] : List ByteArray).getD (Int.toNat 0) (⟨#[]⟩ : ByteArray) = w0 := rfl
      by_cases c1 : w0 = (⟨#[100]⟩ : ByteArray)
      · simp (disch := omega) only [spec_ReadNode.l0, e4, n4, g0, c1, if_pos, if_neg]
        exact fin _
      · by_cases c2 : w0 = (⟨#[108]⟩ : ByteArray)
        · have c1' : ¬ (⟨#[108]⟩ : ByteArray) = (⟨#[100]⟩ : ByteArray) := by decide
          simp (disch := omega) only [spec_ReadNode.l0, e4, n4, g0, c2, if_pos, if_neg, c1', if_false]
          exact finB _ _ (hW _ (by simp))
        · simp (disch := omega) only [spec_ReadNode.l0, e4, n4, g0, if_neg c1, if_neg c2, if_pos, if_neg]
          exact fin _
  · by_cases h6 : W.length = 6
    · match W, h6, nums, hl with
      | [w0, w1, w2, w3, w4, w5], _, [p0, p1, p2, p3, p4, p5], _ =>
        have e4 : (([w0, w1, w2, w3, w4, w5] : List ByteArray).length : Int) = 6 := rfl
        have n4 : (([p0, p1, p2, p3, p4, p5] : List Int).length : Int) = 6 := rfl
        have g0 : ([w0, w1, w2, w3, w4, w5] : List ByteArray).getD (Int.toNat 0) (⟨#[]⟩ : ByteArray) = w0 := rfl
        by_cases c1 : w0 = (⟨#[102]⟩ : ByteArray)
        · simp (disch := omega) only [spec_ReadNode.l0, e4, n4, g0, c1, if_pos, if_neg]
          exact finB _ _ (hW _ (by simp))
        · simp (disch := omega) only [spec_ReadNode.l0, e4, n4, g0, if_neg c1, if_pos, if_neg]
          exact fin _
    · simp (disch := omega) only [spec_ReadNode.l0, if_neg hlt, if_pos, if_neg]
      exact fin _
/-- The numbers of the words. -/
theorem spec_loop (a : ByteArray) (W : List ByteArray) (D : ByteArray → Int × Bool) (hD : ∀ w ∈ W, Ev (fun k => spec_DecNum.f k w 1000000000) (D w)) (hW : W.length ≤ 2000000) {v : GNode × Bool} (suf : List ByteArray) : ∀ (A : List ByteArray) (nums : List Int) (i : Int), W = A ++ suf → i = A.length → nums = A.map (fun w => (D w).1) →
    Ev (fun k => spec_ReadNode.l0 k a W (W.map fun w => (D w).1) W.length) v → Ev (fun k => spec_ReadNode.l0 k a W nums i) v := by
  induction suf with
  | nil =>
    intro A nums i h hi hn hv
    rw [List.append_nil] at h
    subst h
    rw [hn, hi]
    exact hv
  | cons w t ih =>
    intro A nums i h hi hn hv
    have hL : (W.length : Int) = A.length + t.length + 1 := by rw [h]; simp; omega
    have hg : W.getD i.toNat (⟨#[]⟩ : ByteArray) = w := by rw [h]; exact get_mid A w _ t hi
    have hnl : (nums.length : Int) = A.length := by rw [hn]; simp
    have hi2 := ih (A ++ [w]) (nums ++ [(D w).1]) (i + 1) (by rw [h]; simp) (by simp; omega) (by rw [hn]; simp) hv
    refine Ev.step (g := fun k => (spec_DecNum.f k w 1000000000).bind fun r => spec_ReadNode.l0 k a W (nums ++ [r.1]) (i + 1)) (fun k => ?_) (Ev.bind (hD w (by rw [h]; simp)) hi2)
    simp (disch := omega) only [spec_ReadNode.l0, hg, w64, if_pos, List.length_cons, List.length_nil]
theorem dchoice (W : List ByteArray) : ∃ D : ByteArray → Int × Bool, ∀ w ∈ W, Ev (fun k => spec_DecNum.f k w 1000000000) (D w) :=
  ⟨fun w => (decNum_tot w).choose, fun w _ => (decNum_tot w).choose_spec⟩
theorem pcs_mem_size (q : UInt8) (l : List UInt8) : ∀ x ∈ pcs q [] l, x.size ≤ l.length := by
  intro x hx
  have h1 := sz_mem hx
  have h2 := pcs_size q l []
  have h3 := (pcs_len q l []).2
  simp only [List.length_nil] at h2
  omega
theorem spec_Read (l : List UInt8) (hl : l.length ≤ 1048576) : ∃ r, Ev (fun k => spec_ReadNode.f k (mk l)) r ∧ Good (mk l) r := by
  obtain ⟨D, hD⟩ := dchoice (pcs 32 [] l)
  have h1 := (pcs_len 32 l []).1
  obtain ⟨r, hr, hg⟩ := spec_end (mk l) (pcs 32 [] l) ((pcs 32 [] l).map fun w => (D w).1) (by simp) (fun x hx => by have := pcs_mem_size 32 l x hx; omega)
  refine ⟨r, ?_, hg⟩
  simp only [spec_ReadNode.f]
  exact Ev.bind (l01Split_ev l hl) (spec_loop (mk l) _ D hD (by omega) (pcs 32 [] l) [] [] 0 rfl rfl rfl hr)
end Go.I

/-! EIQN5 -/
set_option linter.unusedVariables false
set_option linter.unusedSimpArgs false
set_option maxRecDepth 100000
set_option maxHeartbeats 4000000
namespace Go.I
open Go
theorem nc_ne {c : UInt8} (h : nc c.toNat = true) : c ≠ 32 := by
  rintro rfl
  revert h
  decide
theorem path_chars (q : UInt8) (l : List UInt8) (h : ∀ x ∈ pcs q [] l, ∀ c ∈ x.data.toList, c ≠ 32) (hq : q ≠ 32) : (32 : UInt8) ∉ l := by
  have key : ∀ (suf pre : List UInt8), (∀ x ∈ pcs q pre suf, ∀ c ∈ x.data.toList, c ≠ 32) → (32 : UInt8) ∉ pre ++ suf := by
    intro suf
    induction suf with
    | nil =>
      intro pre h
      rw [List.append_nil]
      intro hm
      exact h (mk pre) (by simp [pcs]) 32 (by rw [mk_data]; exact hm) rfl
    | cons c t ih =>
      intro pre h
      unfold pcs at h
      split at h
      · rename_i hc
        have h1 := ih [] (fun x hx => h x (by simp [hx]))
        have h2 := h (mk pre) (by simp)
        rw [mk_data] at h2
        intro hm
        rcases List.mem_append.1 hm with hm | hm
        · exact h2 32 hm rfl
        · rcases List.mem_cons.1 hm with hm | hm
          · exact hq (hc ▸ hm.symm)
          · exact h1 (by simpa using hm)
      · have h1 := ih (pre ++ [c]) h
        simpa using h1
  have := key l [] h
  simpa using this
theorem path_no_blank {n : GNode} (h : nOk n = true) : (32 : UInt8) ∉ n.Path.data.toList := by
  unfold nOk at h
  simp only [Bool.and_eq_true] at h
  have hp := h.1
  unfold pth pOk at hp
  simp only [Bool.and_eq_true, List.all_eq_true] at hp
  refine path_chars 47 _ (fun x hx c hc => ?_) (by decide)
  have := hp.2.1 x hx
  unfold nmB nm ncs at this
  simp only [Bool.and_eq_true, List.all_eq_true] at this
  exact nc_ne (this.1 c hc)
theorem itoa_no_blank (n : Int) (h : 0 ≤ n) : (32 : UInt8) ∉ Lib.itoa n := by
  rw [itoa_nat n h]
  intro hm
  have := digits_char n.toNat 32 hm
  revert this
  decide
theorem lw_split (n : GNode) (h : nOk n = true) : pcs 32 [] (Lib.join (lw n) [32]) = (lw n).map mk := by
  obtain ⟨hP, ⟨m0, m1⟩, ⟨t0, t1⟩, ⟨g0, g1⟩, hD, hT, hK⟩ := nOk_facts h
  have p := path_no_blank h
  have a := itoa_no_blank n.Mode m0
  have b := itoa_no_blank n.Time t0
  have c := itoa_no_blank n.Group g0
  have d := hex_dash n.Data.data.toList
  have e := hex_dash n.Target.data.toList
  have u1 : (32 : UInt8) ∉ ([100] : List UInt8) := by decide
  have u2 : (32 : UInt8) ∉ ([102] : List UInt8) := by decide
  have u3 : (32 : UInt8) ∉ ([108] : List UInt8) := by decide
  unfold lw
  split
  · rw [pcs_join 32 _ _ [] u1 (by
      intro x hx
      simp only [List.mem_cons, List.mem_nil_iff, or_false] at hx
      rcases hx with rfl | rfl | rfl <;> assumption)]
    simp
  · split
    · rw [pcs_join 32 _ _ [] u2 (by
        intro x hx
        simp only [List.mem_cons, List.mem_nil_iff, or_false] at hx
        rcases hx with rfl | rfl | rfl | rfl | rfl <;> assumption)]
      simp
    · rw [pcs_join 32 _ _ [] u3 (by
        intro x hx
        simp only [List.mem_cons, List.mem_nil_iff, or_false] at hx
        rcases hx with rfl | rfl | rfl <;> assumption)]
      simp
/-- What a right node of each kind is. -/
theorem nOk_kind {n : GNode} (h : nOk n = true) : (n.Kind = 0 ∧ n = ⟨n.Path, 0, n.Mode, n.Time, (⟨#[]⟩ : ByteArray), (⟨#[]⟩ : ByteArray), 0⟩) ∨ (n.Kind = 1 ∧ n = ⟨n.Path, 1, n.Mode, n.Time, n.Data, (⟨#[]⟩ : ByteArray), n.Group⟩) ∨
    (n.Kind = 2 ∧ n = ⟨n.Path, 2, 0, n.Time, (⟨#[]⟩ : ByteArray), n.Target, 0⟩) := by
  unfold nOk at h
  simp only [Bool.and_eq_true, decide_eq_true_eq] at h
  obtain ⟨h1, h2, h3, h4⟩ := h
  obtain ⟨P, K, M, T, D, G, Gr⟩ := n
  split at h4
  · rename_i hk
    simp only [Bool.and_eq_true, decide_eq_true_eq] at h4
    obtain ⟨a, b, c⟩ := h4
    exact .inl ⟨hk, by simp only at hk a b c ⊢; rw [hk, a, b, c]⟩
  · split at h4
    · rename_i hk
      simp only [Bool.and_eq_true, decide_eq_true_eq] at h4
      exact .inr (.inl ⟨hk, by have b := h4.2.1; simp only at hk b ⊢; rw [hk, b]⟩)
    · split at h4
      · rename_i hk
        simp only [Bool.and_eq_true, decide_eq_true_eq] at h4
        obtain ⟨a, b, c, _⟩ := h4
        exact .inr (.inr ⟨hk, by simp only at hk a b c ⊢; rw [hk, a, b, c]⟩)
      · cases h4
theorem spec_Read_line (n : GNode) (h : nOk n = true) (hl : (Lib.join (lw n) [32]).length ≤ 1048576) : Ev (fun k => spec_ReadNode.f k (line n)) (n, true) := by
  obtain ⟨hP, ⟨m0, m1⟩, ⟨t0, t1⟩, ⟨g0, g1⟩, hD, hT, hK⟩ := nOk_facts h
  have eD := ba_len n.Data
  have eT := ba_len n.Target
  have hsp := lw_split n h
  obtain ⟨D, hDD⟩ := dchoice (pcs 32 [] (Lib.join (lw n) [32]))
  have hlen := (pcs_len 32 (Lib.join (lw n) [32]) []).1
  have d1 : ∀ z : Int, 0 ≤ z → z ≤ 1000000000 → mk (Lib.itoa z) ∈ pcs 32 [] (Lib.join (lw n) [32]) → (D (mk (Lib.itoa z))).1 = z := fun z h0 h1 hm => by
    rw [Ev.det (hDD _ hm) (decNum_itoa z h0 h1)]
  simp only [spec_ReadNode.f]
  refine Ev.bind (l01Split_ev _ hl) (spec_loop (line n) _ D hDD (by omega) (pcs 32 [] (Lib.join (lw n) [32])) [] [] 0 rfl rfl rfl ?_)
  obtain ⟨r, hr, _, hgood⟩ := spec_tail (line n) n
  rw [hgood h rfl] at hr
  rw [hsp] at d1 ⊢
  rcases nOk_kind h with ⟨hk, e⟩ | ⟨hk, e⟩ | ⟨hk, e⟩
  · have ew : (lw n).map mk = [mk [100], mk n.Path.data.toList, mk (Lib.itoa n.Mode), mk (Lib.itoa n.Time)] := by unfold lw; rw [if_pos hk]; rfl
    rw [ew] at d1 ⊢
    have dm := d1 n.Mode m0 (by omega) (by simp)
    have dt := d1 n.Time t0 t1 (by simp)
    have g0' : ([mk [100], mk n.Path.data.toList, mk (Lib.itoa n.Mode), mk (Lib.itoa n.Time)] : List ByteArray).getD (Int.toNat 0) (⟨#[]⟩ : ByteArray) = (⟨#[100]⟩ : ByteArray) := rfl
    have g1' : ([mk [100], mk n.Path.data.toList, mk (Lib.itoa n.Mode), mk (Lib.itoa n.Time)] : List ByteArray).getD (Int.toNat 1) (⟨#[]⟩ : ByteArray) = n.Path := mk_self _
    have n2 : (([mk [100], mk n.Path.data.toList, mk (Lib.itoa n.Mode), mk (Lib.itoa n.Time)] : List ByteArray).map fun w => (D w).1).getD (Int.toNat 2) 0 = n.Mode := dm
    have n3 : (([mk [100], mk n.Path.data.toList, mk (Lib.itoa n.Mode), mk (Lib.itoa n.Time)] : List ByteArray).map fun w => (D w).1).getD (Int.toNat 3) 0 = n.Time := dt
    have e4 : (([mk [100], mk n.Path.data.toList, mk (Lib.itoa n.Mode), mk (Lib.itoa n.Time)] : List ByteArray).length : Int) = 4 := rfl
    have e5 : ((([mk [100], mk n.Path.data.toList, mk (Lib.itoa n.Mode), mk (Lib.itoa n.Time)] : List ByteArray).map fun w => (D w).1).length : Int) = 4 := rfl
    refine Ev.step (g := fun k => if line n = (⟨#[]⟩ : ByteArray) then some (ZN, false) else (spec_ShowNode.f k n).bind fun r => if r = line n then some (n, true) else some (ZN, false)) (fun k => ?_) hr
    generalize hW : ([mk [100], mk n.Path.data.toList, mk (Lib.itoa n.Mode), mk (Lib.itoa n.Time)] : List ByteArray) = W at g0' g1' n2 n3 e4 e5
    generalize hN : (W.map fun w => (D w).1) = N at n2 n3 e5
    simp (disch := omega) only [spec_ReadNode.l0, e4, e5, g0', g1', n2, n3, if_pos, if_neg]
    rw [if_pos trivial, ← e]
  · have ew : (lw n).map mk = [mk [102], mk n.Path.data.toList, mk (Lib.itoa n.Mode), mk (Lib.itoa n.Time), mk (Lib.itoa n.Group), mk (hex n.Data.data.toList).data.toList] := by unfold lw; rw [if_neg (by omega), if_pos hk]; rfl
    rw [ew] at d1 ⊢
    have dm := d1 n.Mode m0 (by omega) (by simp)
    have dt := d1 n.Time t0 t1 (by simp)
    have dg := d1 n.Group g0 (by omega) (by simp)
    generalize hW : ([mk [102], mk n.Path.data.toList, mk (Lib.itoa n.Mode), mk (Lib.itoa n.Time), mk (Lib.itoa n.Group), mk (hex n.Data.data.toList).data.toList] : List ByteArray) = W
    have g0' : W.getD (Int.toNat 0) (⟨#[]⟩ : ByteArray) = (⟨#[102]⟩ : ByteArray) := by rw [← hW]; rfl
    have g1' : W.getD (Int.toNat 1) (⟨#[]⟩ : ByteArray) = n.Path := by rw [← hW]; exact mk_self _
    have g5' : W.getD (Int.toNat 5) (⟨#[]⟩ : ByteArray) = hex n.Data.data.toList := by rw [← hW]; exact mk_self _
    have n2 : (W.map fun w => (D w).1).getD (Int.toNat 2) 0 = n.Mode := by rw [← hW]; exact dm
    have n3 : (W.map fun w => (D w).1).getD (Int.toNat 3) 0 = n.Time := by rw [← hW]; exact dt
    have n4 : (W.map fun w => (D w).1).getD (Int.toNat 4) 0 = n.Group := by rw [← hW]; exact dg
    have e4 : (W.length : Int) = 6 := by rw [← hW]; rfl
    have e5 : ((W.map fun w => (D w).1).length : Int) = 6 := by rw [← hW]; rfl
    generalize hN : (W.map fun w => (D w).1) = N at n2 n3 n4 e5
    have hx := unhex_hex n.Data.data.toList (by omega)
    rw [mk_self] at hx
    refine Ev.step (g := fun k => (spec_l20Unhex.f k (hex n.Data.data.toList)).bind fun x => if line n = (⟨#[]⟩ : ByteArray) then some (ZN, false) else (spec_ShowNode.f k ⟨n.Path, 1, n.Mode, n.Time, x, (⟨#[]⟩ : ByteArray), n.Group⟩).bind fun r => if r = line n then some (⟨n.Path, 1, n.Mode, n.Time, x, (⟨#[]⟩ : ByteArray), n.Group⟩, true) else some (ZN, false)) (fun k => ?_) (Ev.bind hx (by rw [← e]; exact hr))
    simp (disch := omega) only [spec_ReadNode.l0, e4, e5, g0', g1', g5', n2, n3, n4, if_pos, if_neg]
    rfl
  · have ew : (lw n).map mk = [mk [108], mk n.Path.data.toList, mk (Lib.itoa n.Time), mk (hex n.Target.data.toList).data.toList] := by unfold lw; rw [if_neg (by omega), if_neg (by omega)]; rfl
    rw [ew] at d1 ⊢
    have dt := d1 n.Time t0 t1 (by simp)
    generalize hW : ([mk [108], mk n.Path.data.toList, mk (Lib.itoa n.Time), mk (hex n.Target.data.toList).data.toList] : List ByteArray) = W
    have g0' : W.getD (Int.toNat 0) (⟨#[]⟩ : ByteArray) = (⟨#[108]⟩ : ByteArray) := by rw [← hW]; rfl
    have g1' : W.getD (Int.toNat 1) (⟨#[]⟩ : ByteArray) = n.Path := by rw [← hW]; exact mk_self _
    have g3' : W.getD (Int.toNat 3) (⟨#[]⟩ : ByteArray) = hex n.Target.data.toList := by rw [← hW]; exact mk_self _
    have n2 : (W.map fun w => (D w).1).getD (Int.toNat 2) 0 = n.Time := by rw [← hW]; exact dt
    have e4 : (W.length : Int) = 4 := by rw [← hW]; rfl
    have e5 : ((W.map fun w => (D w).1).length : Int) = 4 := by rw [← hW]; rfl
    generalize hN : (W.map fun w => (D w).1) = N at n2 e5
    have c1 : ¬ (⟨#[108]⟩ : ByteArray) = (⟨#[100]⟩ : ByteArray) := by decide
    have hx := unhex_hex n.Target.data.toList (by omega)
    rw [mk_self] at hx
    refine Ev.step (g := fun k => (spec_l20Unhex.f k (hex n.Target.data.toList)).bind fun x => if line n = (⟨#[]⟩ : ByteArray) then some (ZN, false) else (spec_ShowNode.f k ⟨n.Path, 2, 0, n.Time, (⟨#[]⟩ : ByteArray), x, 0⟩).bind fun r => if r = line n then some (⟨n.Path, 2, 0, n.Time, (⟨#[]⟩ : ByteArray), x, 0⟩, true) else some (ZN, false)) (fun k => ?_) (Ev.bind hx (by rw [← e]; exact hr))
    simp (disch := omega) only [spec_ReadNode.l0, e4, e5, g0', g1', g3', n2, if_neg c1, if_pos, if_neg]
    rfl
end Go.I

/-! EIQN6 -/
set_option linter.unusedVariables false
set_option linter.unusedSimpArgs false
set_option maxRecDepth 100000
set_option maxHeartbeats 4000000
namespace Go.I
open Go
/-! ### the program's reader of a line -/
theorem next_nil (b : Bool) : impl_words_next_i.f ⟨[], b⟩ = some ((⟨#[]⟩ : ByteArray), ⟨[], true⟩) := by
  simp only [impl_words_next_i.f]
  rw [if_pos (by rfl)]
theorem next_cons (x : ByteArray) (t : List ByteArray) (b : Bool) : impl_words_next_i.f ⟨x :: t, b⟩ = some (x, ⟨t, b⟩) := by
  have e : ((x :: t).length : Int) = t.length + 1 := by simp
  have hx : std.ext (x :: t) 1 ((x :: t).length : Int) = t := by
    show ((x :: t).drop 1).take (((x :: t).length : Int).toNat - 1) = t
    rw [show ((x :: t).length : Int).toNat = t.length + 1 by simp]
    simp
  simp only [impl_words_next_i.f, hx]
  simp (disch := omega) only [e, if_pos, if_neg]
  rfl
/-- Words that are not too great. -/
def WOk (w : GWords) : Prop := ∀ y ∈ w.List, y.size ≤ 4000000
theorem next_tot (w : GWords) (h : WOk w) : ∃ x w', impl_words_next_i.f w = some (x, w') ∧ WOk w' ∧ x.size ≤ 4000000 := by
  obtain ⟨l, b⟩ := w
  cases l with
  | nil => exact ⟨_, _, next_nil b, fun y hy => (by simp at hy), by decide⟩
  | cons x t => exact ⟨_, _, next_cons x t b, fun y hy => h y (by simp only at hy ⊢; simp [hy]), h x (by simp)⟩
theorem number_tot (w : GWords) (h : WOk w) : ∃ x w', impl_words_number_i.f w = some (x, w') ∧ WOk w' := by
  obtain ⟨x, w', h1, h2, h3⟩ := next_tot w h
  obtain ⟨v, hv⟩ := decimal_tot x (by omega)
  simp only [impl_words_number_i.f, h1, bnd, hv]
  by_cases hb : w'.Bad = true
  · exact ⟨v.1, ⟨w'.List, true⟩, by rw [if_pos hb], h2⟩
  · exact ⟨v.1, ⟨w'.List, !v.2⟩, by rw [if_neg hb], h2⟩
theorem bytes_tot (w : GWords) (h : WOk w) : ∃ x w', Ev (fun k => impl_words_bytes_i.f k w) (x, w') ∧ WOk w' := by
  obtain ⟨x, w', h1, h2, h3⟩ := next_tot w h
  simp only [impl_words_bytes_i.f, h1, bnd]
  by_cases hx : x = (⟨#[45]⟩ : ByteArray)
  · exact ⟨_, _, Ev.ret fun k => by rw [if_pos hx], h2⟩
  · obtain ⟨v, hv⟩ := impl_hex_tot x h3
    by_cases hb : w'.Bad = true
    · exact ⟨v.1, ⟨w'.List, true⟩, by simp only [if_neg hx]; exact Ev.bind hv (Ev.ret fun k => by rw [if_pos hb]), h2⟩
    · exact ⟨v.1, ⟨w'.List, !v.2⟩, by simp only [if_neg hx]; exact Ev.bind hv (Ev.ret fun k => by rw [if_neg hb]), h2⟩
theorem number_itoa (n : Int) (h : 0 ≤ n) (h1 : n ≤ 1000000000) (t : List ByteArray) : impl_words_number_i.f ⟨mk (Lib.itoa n) :: t, false⟩ = some (n, ⟨t, false⟩) := by
  simp only [impl_words_number_i.f, next_cons, bnd, decimal_itoa n h h1]
  rfl
theorem bytes_hex (l : List UInt8) (hl : l.length ≤ 20000) (t : List ByteArray) : Ev (fun k => impl_words_bytes_i.f k ⟨hex l :: t, false⟩) (mk l, ⟨t, false⟩) := by
  simp only [impl_words_bytes_i.f, next_cons, bnd]
  by_cases h : l = []
  · subst h
    exact Ev.ret fun k => by rw [if_pos (by rfl)]; rfl
  · have hne : ¬ hex l = (⟨#[45]⟩ : ByteArray) := by
      intro e
      have := congrArg ByteArray.size e
      rw [hex_cons h, mk_size, hexm_len] at this
      have h1 : (⟨#[45]⟩ : ByteArray).size = 1 := rfl
      omega
    rw [hex_cons h] at hne ⊢
    simp only [if_neg hne]
    exact Ev.bind (impl_unhex l hl) (Ev.ret fun k => rfl)
theorem impl_tail (a : ByteArray) (n : GNode) (b : Bool) : ∃ r, Ev (fun k => if b = true then some (ZN, false) else (impl_NodeOk.f k n).bind fun r5 => if r5 = true then (impl_showNode.f k n).bind fun r6 => if r6 = a then some (n, true) else some (ZN, false) else some (ZN, false)) r ∧ Good a r ∧ (b = false → nOk n = true → line n = a → r = (n, true)) := by
  cases b with
  | true => exact ⟨(ZN, false), Ev.ret fun k => by rw [if_pos rfl], .inl rfl, fun h => by cases h⟩
  | false =>
    have hN := impl_Node n
    simp only [Bool.false_eq_true, if_false]
    by_cases hn : nOk n = true
    · rw [hn] at hN
      have hS := impl_show n hn
      by_cases hl : line n = a
      · exact ⟨(n, true), Ev.bind hN (by simp only [if_true]; exact Ev.bind hS (Ev.ret fun k => by rw [if_pos hl])), .inr ⟨n, rfl, hn, hl⟩, fun _ _ _ => rfl⟩
      · exact ⟨(ZN, false), Ev.bind hN (by simp only [if_true]; exact Ev.bind hS (Ev.ret fun k => by rw [if_neg hl])), .inl rfl, fun _ _ h => absurd h hl⟩
    · rw [Bool.eq_false_iff.2 hn] at hN
      exact ⟨(ZN, false), Ev.bind hN (by simp only [Bool.false_eq_true, if_false]; exact Ev.ret fun k => rfl), .inl rfl, fun _ h => absurd h hn⟩
theorem impl_Read (l : List UInt8) (hl : l.length ≤ 1048576) : ∃ r, Ev (fun k => impl_ReadNode.f k (mk l)) r ∧ Good (mk l) r := by
  have hS : strings_Split.f (mk l) (⟨#[32]⟩ : ByteArray) = some (pcs 32 [] l) := Split_mk 32 l (by omega)
  have hW : WOk ⟨pcs 32 [] l, false⟩ := fun y hy => by have := pcs_mem_size 32 l y hy; omega
  obtain ⟨kind, w1, n1, W1, _⟩ := next_tot _ hW
  obtain ⟨path, w2, n2, W2, _⟩ := next_tot w1 W1
  simp only [impl_ReadNode.f, hS, bnd, n1, n2]
  by_cases c1 : kind = (⟨#[100]⟩ : ByteArray)
  · obtain ⟨x3, w3, n3, W3⟩ := number_tot w2 W2
    obtain ⟨x4, w4, n4, W4⟩ := number_tot w3 W3
    simp only [if_pos c1, n3, bnd, n4]
    obtain ⟨r, h1, h2, _⟩ := impl_tail (mk l) ⟨path, 0, x3, x4, (⟨#[]⟩ : ByteArray), (⟨#[]⟩ : ByteArray), 0⟩ w4.Bad
    exact ⟨r, h1, h2⟩
  · by_cases c2 : kind = (⟨#[102]⟩ : ByteArray)
    · obtain ⟨x3, w3, n3, W3⟩ := number_tot w2 W2
      obtain ⟨x4, w4, n4, W4⟩ := number_tot w3 W3
      obtain ⟨x5, w5, n5, W5⟩ := number_tot w4 W4
      obtain ⟨x6, w6, n6, W6⟩ := bytes_tot w5 W5
      simp only [if_neg c1, if_pos c2, n3, bnd, n4, n5]
      obtain ⟨r, h1, h2, _⟩ := impl_tail (mk l) ⟨path, 1, x3, x4, x6, (⟨#[]⟩ : ByteArray), x5⟩ w6.Bad
      exact ⟨r, Ev.bind n6 h1, h2⟩
    · by_cases c3 : kind = (⟨#[108]⟩ : ByteArray)
      · obtain ⟨x3, w3, n3, W3⟩ := number_tot w2 W2
        obtain ⟨x6, w6, n6, W6⟩ := bytes_tot w3 W3
        simp only [if_neg c1, if_neg c2, if_pos c3, n3, bnd]
        obtain ⟨r, h1, h2, _⟩ := impl_tail (mk l) ⟨path, 2, 0, x3, (⟨#[]⟩ : ByteArray), x6, 0⟩ w6.Bad
        exact ⟨r, Ev.bind n6 h1, h2⟩
      · simp only [if_neg c1, if_neg c2, if_neg c3]
        exact ⟨(ZN, false), Ev.sm, .inl rfl⟩
theorem impl_Read_line (n : GNode) (h : nOk n = true) (hl : (Lib.join (lw n) [32]).length ≤ 1048576) : Ev (fun k => impl_ReadNode.f k (line n)) (n, true) := by
  obtain ⟨hP, ⟨m0, m1⟩, ⟨t0, t1⟩, ⟨g0, g1⟩, hD, hT, hK⟩ := nOk_facts h
  have eD := ba_len n.Data
  have eT := ba_len n.Target
  have hS : strings_Split.f (line n) (⟨#[32]⟩ : ByteArray) = some ((lw n).map mk) := by rw [← lw_split n h]; exact Split_mk 32 _ (by omega)
  obtain ⟨r, hr, _, hgood⟩ := impl_tail (line n) n false
  rw [hgood rfl h rfl] at hr
  have u1 : mk [100] = (⟨#[100]⟩ : ByteArray) := rfl
  have u2 : mk [102] = (⟨#[102]⟩ : ByteArray) := rfl
  have u3 : mk [108] = (⟨#[108]⟩ : ByteArray) := rfl
  have c1 : ¬ (⟨#[102]⟩ : ByteArray) = (⟨#[100]⟩ : ByteArray) := by decide
  have c2 : ¬ (⟨#[108]⟩ : ByteArray) = (⟨#[100]⟩ : ByteArray) := by decide
  have c3 : ¬ (⟨#[108]⟩ : ByteArray) = (⟨#[102]⟩ : ByteArray) := by decide
  rcases nOk_kind h with ⟨hk, e⟩ | ⟨hk, e⟩ | ⟨hk, e⟩
  · have ew : (lw n).map mk = [(⟨#[100]⟩ : ByteArray), n.Path, mk (Lib.itoa n.Mode), mk (Lib.itoa n.Time)] := by unfold lw; rw [if_pos hk]; simp only [List.map_cons, List.map_nil, mk_self, u1]
    simp only [impl_ReadNode.f, hS, ew, bnd, next_cons, number_itoa n.Mode m0 (by omega), number_itoa n.Time t0 t1, if_true]
    rw [← e]
    exact hr
  · have ew : (lw n).map mk = [(⟨#[102]⟩ : ByteArray), n.Path, mk (Lib.itoa n.Mode), mk (Lib.itoa n.Time), mk (Lib.itoa n.Group), hex n.Data.data.toList] := by unfold lw; rw [if_neg (by omega), if_pos hk]; simp only [List.map_cons, List.map_nil, mk_self, u2]
    simp only [impl_ReadNode.f, hS, ew, bnd, next_cons, number_itoa n.Mode m0 (by omega), number_itoa n.Time t0 t1, number_itoa n.Group g0 (by omega), if_neg c1, if_true]
    have hx := bytes_hex n.Data.data.toList (by omega) []
    rw [mk_self] at hx
    refine Ev.bind hx ?_
    simp only
    rw [← e]
    exact hr
  · have ew : (lw n).map mk = [(⟨#[108]⟩ : ByteArray), n.Path, mk (Lib.itoa n.Time), hex n.Target.data.toList] := by unfold lw; rw [if_neg (by omega), if_neg (by omega)]; simp only [List.map_cons, List.map_nil, mk_self, u3]
    simp only [impl_ReadNode.f, hS, ew, bnd, next_cons, number_itoa n.Time t0 t1, if_neg c2, if_neg c3, if_true]
    have hx := bytes_hex n.Target.data.toList (by omega) []
    rw [mk_self] at hx
    refine Ev.bind hx ?_
    simp only
    rw [← e]
    exact hr
/-- Both read alike. -/
theorem read_same (l : List UInt8) (hl : l.length ≤ 1048576) : ∃ r, Ev (fun k => spec_ReadNode.f k (mk l)) r ∧ Ev (fun k => impl_ReadNode.f k (mk l)) r := by
  obtain ⟨r1, h1, g1⟩ := spec_Read l hl
  obtain ⟨r2, h2, g2⟩ := impl_Read l hl
  have len : ∀ n, line n = mk l → (Lib.join (lw n) [32]).length ≤ 1048576 := fun n e => by rw [mk_inj.1 e]; exact hl
  rcases g1 with e1 | ⟨n, e1, hn, hln⟩
  · rcases g2 with e2 | ⟨m, e2, hm, hlm⟩
    · exact ⟨r1, h1, by rw [e1, ← e2]; exact h2⟩
    · have := spec_Read_line m hm (len m hlm)
      rw [hlm] at this
      have := Ev.det h1 this
      rw [e1] at this
      cases this
  · have := impl_Read_line n hn (len n hln)
    rw [hln] at this
    exact ⟨r1, h1, by rw [e1]; exact this⟩
theorem eqNode_self (n : GNode) : laws_eqNode.f n n = some true := by
  unfold laws_eqNode.f
  simp only [if_true]
/-- The law. -/
theorem readNode_law (a : ByteArray) {h : Prop} (_ : h) : ∃ k, laws_FnExactReadNode.f k a = some true := by
  have key : Ev (fun k => laws_FnExactReadNode.f k a) true := by
    simp only [laws_FnExactReadNode.f]
    by_cases c : (1048576 : Int) < a.size
    · simp only [if_pos c]; exact Ev.sm
    · simp only [if_neg c]
      obtain ⟨r, h1, h2⟩ := read_same a.data.toList (by rw [ba_len]; omega)
      rw [mk_self] at h1 h2
      refine Ev.bind h1 (Ev.bind h2 ?_)
      rw [eqNode_self]
      exact Ev.ret fun k => by simp [bnd]
  obtain ⟨K, hK⟩ := key
  exact ⟨K, hK K (Nat.le_refl _)⟩
end Go.I
