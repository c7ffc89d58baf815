/- The law in plain Lean: what the reference reads out of any bytes is what the program reads out of them. No condition. -/
import Derived.Test.YtogfddilolannaaDoorKGIRb
import Derived.Laws.BitsLemmas
import Derived.Lib.SplitLaws
import Derived.Lib.IndexBytes
/-! GIP0 -/
set_option linter.unusedVariables false
set_option linter.unusedSimpArgs false
set_option maxRecDepth 100000
set_option maxHeartbeats 4000000
namespace Go.I
open Go
/-- From some fuel on, f answers v. -/
def Ev {α : Type} (f : Nat → Option α) (v : α) : Prop := ∃ K, ∀ k, K ≤ k → f k = some v
section
variable {α β : Type}
theorem Ev.ret {f : Nat → Option α} {v : α} (h : ∀ k, f k = some v) : Ev f v := ⟨0, fun k _ => h k⟩
theorem Ev.at {f : Nat → Option α} {v : α} (h : ∀ k, f (k + 1) = some v) : Ev f v := ⟨1, fun k hk => by
  obtain ⟨j, rfl⟩ : ∃ j, k = j + 1 := ⟨k - 1, by omega⟩
  exact h j⟩
theorem Ev.step {f g : Nat → Option α} {v : α} (h : ∀ k, f (k + 1) = g k) (hg : Ev g v) : Ev f v := by
  obtain ⟨K, hg⟩ := hg
  refine ⟨K + 1, fun k hk => ?_⟩
  obtain ⟨j, rfl⟩ : ∃ j, k = j + 1 := ⟨k - 1, by omega⟩
  rw [h, hg j (by omega)]
theorem Ev.congr {f g : Nat → Option α} {v : α} (h : ∀ k, f k = g k) (hg : Ev g v) : Ev f v := by
  obtain ⟨K, hg⟩ := hg
  exact ⟨K, fun k hk => by rw [h, hg k hk]⟩
theorem Ev.bind {f : Nat → Option α} {g : Nat → α → Option β} {a : α} {v : β} (h1 : Ev f a) (h2 : Ev (fun k => g k a) v) : Ev (fun k => (f k).bind (g k)) v := by
  obtain ⟨K, h1⟩ := h1
  obtain ⟨L, h2⟩ := h2
  refine ⟨K + L, fun k hk => ?_⟩
  show (f k).bind (g k) = some v
  rw [h1 k (by omega), Option.bind_some]
  exact h2 k (by omega)
theorem Ev.det {f : Nat → Option α} {u v : α} (h1 : Ev f u) (h2 : Ev f v) : u = v := by
  obtain ⟨K, h1⟩ := h1
  obtain ⟨L, h2⟩ := h2
  have e1 := h1 (K + L) (by omega)
  rw [h2 (K + L) (by omega)] at e1
  exact (Option.some.inj e1).symm
end
theorem w64 {x : Int} (h0 : -9223372036854775808 ≤ x) (h1 : x ≤ 9223372036854775807) : IntKind.wrap .i64 x = x := by rw [IntKind.wrap_i64]; omega
theorem w8 {x : Int} (h0 : 0 ≤ x) (h1 : x ≤ 255) : IntKind.wrap .u8 x = x := by rw [IntKind.wrap_u8]; omega
theorem w32 {x : Int} (h0 : 0 ≤ x) (h1 : x ≤ 4294967295) : IntKind.wrap .u32 x = x := by rw [IntKind.wrap_u32]; omega
/-- (No unfolding: the kernel goes astray among big conditions.) -/
theorem bnd {α β : Type} (a : α) (f : α → Option β) : (some a).bind f = f a := by
  have h : ∀ o : Option α, o = some a → o.bind f = f a := fun o ho => by subst ho; exact Option.bind_some ..
  exact h _ rfl
/-! ### lists -/
theorem get_mid {α : Type} (pre : List α) (x d : α) (t : List α) {i : Int} (hi : i = pre.length) : (pre ++ x :: t).getD i.toNat d = x := by subst hi; simp
theorem set_mid {α : Type} (pre : List α) (x y : α) (t : List α) {i : Int} (hi : i = pre.length) : (pre ++ x :: t).set i.toNat y = pre ++ y :: t := by subst hi; simp
theorem len_mid {α : Type} (pre : List α) (x : α) (t : List α) : ((pre ++ x :: t).length : Int) = pre.length + t.length + 1 := by simp; omega
theorem len_app {α : Type} (pre t : List α) : ((pre ++ t).length : Int) = pre.length + t.length := by simp
end Go.I

/-! GIQEa -/
set_option linter.unusedVariables false
set_option linter.unusedSimpArgs false
set_option maxRecDepth 100000
set_option maxHeartbeats 4000000
namespace Go.I
open Go
def mkI (w : Int → Int) : Int → List Int → List Int
  | _, [] => []
  | n, _ :: t => w n :: mkI w (n + 1) t
theorem mkI_len (w : Int → Int) (xs : List Int) : ∀ n, (mkI w n xs).length = xs.length := by
  induction xs with
  | nil => intro n; rfl
  | cons x t ih => intro n; simp [mkI, ih]
end Go.I

/-! GIQEb -/
set_option linter.unusedVariables false
set_option linter.unusedSimpArgs false
set_option maxRecDepth 100000
set_option maxHeartbeats 4000000
namespace Go.I
open Go
/-! ### bits -/
theorem wrap64n : ∀ n : Int, 0 ≤ n → n < 2 ^ 63 → IntKind.wrap .i64 n = n := by
  intro n h0 h1
  have e : (2 : Int) ^ 63 = 9223372036854775808 := by decide
  exact w64 (by omega) (by omega)
theorem wrap8n : ∀ n : Int, 0 ≤ n → n < 2 ^ 8 → IntKind.wrap .u8 n = n := by
  intro n h0 h1
  have e : (2 : Int) ^ 8 = 256 := by decide
  exact w8 (by omega) (by omega)
theorem wrap32n : ∀ n : Int, 0 ≤ n → n < 2 ^ 32 → IntKind.wrap .u32 n = n := by
  intro n h0 h1
  have e : (2 : Int) ^ 32 = 4294967296 := by decide
  exact w32 (by omega) (by omega)
theorem or_sumK (k : IntKind) (i j : Nat) (hj : j ≤ k.bits) (hk : ∀ n : Int, 0 ≤ n → n < 2 ^ j → k.wrap n = n) (hij : i ≤ j) (x y : Int) (hx0 : 0 ≤ x) (hx : x < 2 ^ i) (hy0 : 0 ≤ y) (hy : y % 2 ^ i = 0) (hy1 : y < 2 ^ j) : std.bits .or k x y = x + y := by
  have hx1 : x < 2 ^ j := Int.lt_of_lt_of_le hx (by exact_mod_cast Nat.pow_le_pow_right (by decide) hij)
  have h := bits_join k j hj hk i y x hy0 hy hy1 hx0 hx hx1
  obtain ⟨a, rfl⟩ := Int.eq_ofNat_of_zero_le hx0
  obtain ⟨b, rfl⟩ := Int.eq_ofNat_of_zero_le hy0
  have ha : a < 2 ^ j := by exact_mod_cast hx1
  have hb : b < 2 ^ j := by exact_mod_cast hy1
  show Go.bits .or k _ _ = _
  rw [(bits_nat k j hj hk a b ha hb).2, Nat.or_comm, ← (bits_nat k j hj hk b a hb ha).2, h]
  omega
theorem and127 (k : IntKind) (j : Nat) (hj : j ≤ k.bits) (h7 : 7 ≤ j) (hk : ∀ n : Int, 0 ≤ n → n < 2 ^ j → k.wrap n = n) (x : Int) (h0 : 0 ≤ x) (h1 : x < 2 ^ j) : std.bits .and k x 127 = x % 128 := by
  obtain ⟨a, rfl⟩ := Int.eq_ofNat_of_zero_le h0
  have h27 : (2 : Nat) ^ 7 ≤ 2 ^ j := Nat.pow_le_pow_right (by decide) h7
  have e7 : (2 : Nat) ^ 7 = 128 := by decide
  have h := (bits_nat k j hj hk a 127 (by exact_mod_cast h1) (by omega)).1
  rw [show ((127 : Nat) : Int) = 127 from rfl] at h
  show Go.bits .and k _ _ = _
  rw [h, show (127 : Nat) = 2 ^ 7 - 1 from rfl, Nat.and_two_pow_sub_one_eq_mod]
  omega
theorem and_i64 (x : Int) (h0 : 0 ≤ x) (h1 : x ≤ 9223372036854775807) : std.bits .and .i64 x 127 = x % 128 := and127 .i64 63 (by decide) (by decide) wrap64n x h0 (by have := (by decide : (2 : Int) ^ 63 = 9223372036854775808); omega)
theorem and_u8 (x : Int) (h0 : 0 ≤ x) (h1 : x ≤ 255) : std.bits .and .u8 x 127 = x % 128 := and127 .u8 8 (by decide) (by decide) wrap8n x h0 (by have := (by decide : (2 : Int) ^ 8 = 256); omega)
theorem or128 (x : Int) (h0 : 0 ≤ x) (h1 : x < 128) : std.bits .or .u8 x 128 = x + 128 := or_sumK .u8 7 8 (by decide) wrap8n (by decide) x 128 h0 (by have := (by decide : (2 : Int) ^ 7 = 128); omega) (by decide) (by decide) (by decide)
theorem pow128 (i : Nat) : (128 : Int) ^ i = 2 ^ (7 * i) := by rw [Int.pow_mul]; rfl
theorem pow128_pos (i : Nat) : (0 : Int) < 128 ^ i := Int.pow_pos (by decide)
theorem pow128_le {i j : Nat} (h : i ≤ j) : (128 : Int) ^ i ≤ 128 ^ j := by exact_mod_cast Nat.pow_le_pow_right (by decide) h
theorem var_or (b x : Int) (i : Nat) (hb0 : 0 ≤ b) (hb1 : b ≤ 255) (hi : i ≤ 8) (hx0 : 0 ≤ x) (hx : x < 128 ^ i) :
    std.bits .or .i64 x (std.shl .i64 (IntKind.wrap .i64 (std.bits .and .u8 b 127)) (IntKind.wrap .i64 (7 * (i : Int)))) = x + b % 128 * 128 ^ i := by
  have hp := pow128_pos i
  have hpl : (128 : Int) ^ i ≤ 128 ^ 8 := pow128_le hi
  have h8 : (128 : Int) ^ 8 = 72057594037927936 := by decide
  have hm0 : 0 ≤ b % 128 := by omega
  have hm1 : b % 128 ≤ 127 := by omega
  have hv0 : 0 ≤ b % 128 * 128 ^ i := Int.mul_nonneg hm0 (by omega)
  have hv1 : b % 128 * 128 ^ i ≤ 127 * 128 ^ i := Int.mul_le_mul_of_nonneg_right hm1 (by omega)
  have hs : std.shl .i64 (b % 128) (7 * (i : Int)) = b % 128 * 128 ^ i := by
    show IntKind.wrap .i64 (b % 128 * 2 ^ min (7 * (i : Int)).toNat IntKind.i64.bits) = _
    rw [show (7 * (i : Int)).toNat = 7 * i by omega, show min (7 * i) IntKind.i64.bits = 7 * i by simp [IntKind.bits]; omega, ← pow128]
    exact w64 (by omega) (by omega)
  rw [and_u8 b hb0 hb1, w64 (x := b % 128) (by omega) (by omega), w64 (x := 7 * (i : Int)) (by omega) (by omega), hs]
  refine or_sumK .i64 (7 * i) 63 (by decide) wrap64n (by omega) x _ hx0 (by rw [← pow128]; exact hx) hv0 ?_ ?_
  · rw [← pow128]; exact Int.mul_emod_left _ _
  · have e : (2 : Int) ^ 63 = 9223372036854775808 := by decide
    omega
/-! ### texts and lists of bytes -/
def Byt (l : List Int) : Prop := ∀ x ∈ l, 0 ≤ x ∧ x ≤ 255
theorem Byt.drop {l : List Int} (h : Byt l) (n : Nat) : Byt (l.drop n) := fun x hx => h x (List.mem_of_mem_drop hx)
theorem Byt.take {l : List Int} (h : Byt l) (n : Nat) : Byt (l.take n) := fun x hx => h x (List.mem_of_mem_take hx)
theorem str_size (l : List Int) : (std.strOf l).size = l.length := strOfNums_size l
theorem str_app (a b : List Int) : std.strOf (a ++ b) = std.strOf a ++ std.strOf b := by
  apply ByteArray.ext
  apply Array.toList_inj.1
  simp [std, ByteArray.data_append]
theorem str_nil : std.strOf [] = ⟨#[]⟩ := rfl
theorem str_ext (l : List Int) (a b : Nat) : (std.strOf l).extract a b = std.strOf ((l.drop a).take (b - a)) := by
  apply ByteArray.ext
  apply Array.toList_inj.1
  simp [std, ByteArray.data_extract, List.map_take, List.map_drop, List.extract_eq_take_drop]
theorem str_get (l : List Int) (h : Byt l) (i : Nat) (hi : i < l.length) : std.sget (std.strOf l) (i : Int) = l.getD i 0 := by
  have hs : i < (std.strOf l).size := by rw [str_size]; exact hi
  show (if h : (i : Int).toNat < (std.strOf l).size then (((std.strOf l)[(i : Int).toNat]'h).toNat : Int) else 0) = _
  rw [dif_pos (by simpa using hs)]
  have hx := h _ (List.getElem_mem hi)
  have e : (std.strOf l)[i] = UInt8.ofNat (l[i]).toNat := by
    show (std.strOf l).data[i]'_ = _
    simp [std]
  have e2 : ((std.strOf l)[(i : Int).toNat]'(by simpa using hs)) = UInt8.ofNat (l[i]).toNat := e
  rw [e2, List.getD_eq_getElem?_getD, List.getElem?_eq_getElem hi, Option.getD_some]
  have h3 := hx.1
  have h4 := hx.2
  have h5 : (UInt8.ofNat (l[i]).toNat).toNat = (l[i]).toNat := by
    rw [UInt8.toNat_ofNat']
    omega
  rw [h5]
  omega
theorem str_inj {a b : List Int} (ha : Byt a) (hb : Byt b) (h : std.strOf a = std.strOf b) : a = b := by
  have hl : a.length = b.length := by rw [← str_size a, h, str_size]
  refine List.ext_getElem hl fun i h1 h2 => ?_
  have e1 := str_get a ha i h1
  have e2 := str_get b hb i h2
  rw [h] at e1
  rw [e1, List.getD_eq_getElem?_getD, List.getD_eq_getElem?_getD, List.getElem?_eq_getElem h1, List.getElem?_eq_getElem h2] at e2
  simpa using e2
/-! ### numbers -/
def dg (n : Nat) : List Int := if n < 128 then [(n : Int)] else (((n % 128 : Nat) : Int) + 128) :: dg (n / 128)
termination_by n
decreasing_by omega
theorem dg_lt {n : Nat} (h : n < 128) : dg n = [(n : Int)] := by rw [dg, if_pos h]
theorem dg_ge {n : Nat} (h : ¬ n < 128) : dg n = (((n % 128 : Nat) : Int) + 128) :: dg (n / 128) := by rw [dg, if_neg h]
theorem dg_pos (n : Nat) : 0 < (dg n).length := by
  by_cases h : n < 128
  · rw [dg_lt h]; simp
  · rw [dg_ge h]; simp
theorem dg_byt (n : Nat) : Byt (dg n) := by
  induction n using Nat.strongRecOn with
  | _ n ih =>
    intro x hx
    by_cases h : n < 128
    · rw [dg_lt h] at hx; simp at hx; omega
    · rw [dg_ge h] at hx
      rcases List.mem_cons.1 hx with rfl | hx
      · omega
      · exact ih (n / 128) (by omega) x hx
theorem dg_len (m : Nat) : ∀ n, n < 128 ^ (m + 1) → (dg n).length ≤ m + 1 := by
  induction m with
  | zero => intro n hn; rw [dg_lt (by simpa using hn)]; simp
  | succ m ih =>
    intro n hn
    by_cases h : n < 128
    · rw [dg_lt h]; simp
    · rw [dg_ge h]
      have := ih (n / 128) (by rw [Nat.pow_succ] at hn; exact Nat.div_lt_of_lt_mul (by rw [Nat.mul_comm]; exact hn))
      simp; omega
theorem dg_len10 (n : Nat) (h : n ≤ 9223372036854775807) : (dg n).length ≤ 10 := dg_len 9 n (by have := (by decide : (128 : Nat) ^ 10 = 1180591620717411303424); omega)
theorem putVarL (n : Nat) : ∀ acc : List Int, n ≤ 9223372036854775807 → acc.length + (dg n).length ≤ 140737488351232 → Ev (fun k => spec_PutVar.l0 k (n : Int) acc) (acc ++ dg n) := by
  induction n using Nat.strongRecOn with
  | _ n ih =>
    intro acc hn hl
    by_cases h : n < 128
    · rw [dg_lt h] at hl ⊢
      simp only [List.length_singleton] at hl
      refine Ev.at fun k => ?_
      simp (disch := omega) only [spec_PutVar.l0, if_neg, if_pos, List.length_singleton, w8]
    · rw [dg_ge h] at hl ⊢
      simp only [List.length_cons] at hl
      have hd := dg_pos (n / 128)
      have e1 : IntKind.wrap .i64 (Int.tdiv (n : Int) 128) = ((n / 128 : Nat) : Int) := by
        rw [Int.tdiv_eq_ediv_of_nonneg (by omega)]
        rw [w64 (by omega) (by omega)]
        omega
      have e2 : IntKind.wrap .u8 (IntKind.wrap .i64 (128 + Int.tmod (n : Int) 128)) = ((n % 128 : Nat) : Int) + 128 := by
        rw [Int.tmod_eq_emod_of_nonneg (by omega)]
        rw [w64 (by omega) (by omega), w8 (by omega) (by omega)]
        omega
      have hi := ih (n / 128) (by omega) (acc ++ [((n % 128 : Nat) : Int) + 128]) (by omega) (by simp; omega)
      rw [List.append_assoc] at hi
      refine Ev.step (fun k => ?_) hi
      simp (disch := omega) only [spec_PutVar.l0, if_neg, if_pos, List.length_singleton, e1, e2]
theorem putVar (n : Nat) (hn : n ≤ 9223372036854775807) : Ev (fun k => spec_PutVar.f k (n : Int)) (dg n) := by
  have := dg_len10 n hn
  refine Ev.congr (fun k => ?_) (by simpa using putVarL n [] hn (by simp; omega))
  simp (disch := omega) only [spec_PutVar.f, if_neg]
theorem varTextL (n : Nat) : ∀ acc : ByteArray, n ≤ 9223372036854775807 → acc.size + (dg n).length ≤ 140737488355328 → Ev (fun k => impl_varText.l0 k (n : Int) acc) (acc ++ std.strOf (dg n)) := by
  induction n using Nat.strongRecOn with
  | _ n ih =>
    intro acc hn hl
    by_cases h : n < 128
    · rw [dg_lt h] at hl ⊢
      simp only [List.length_singleton] at hl
      refine Ev.at fun k => ?_
      simp (disch := omega) only [impl_varText.l0, if_neg, if_pos, w8]
    · rw [dg_ge h] at hl ⊢
      simp only [List.length_cons] at hl
      have hd := dg_pos (n / 128)
      have e1 : std.shr .i64 (n : Int) 7 = ((n / 128 : Nat) : Int) := by
        show Int.fdiv (n : Int) (2 ^ min (7 : Int).toNat IntKind.i64.bits) = _
        rw [show min (7 : Int).toNat IntKind.i64.bits = 7 by decide, show (2 : Int) ^ 7 = 128 by decide, Int.fdiv_eq_ediv_of_nonneg _ (by decide)]
        omega
      have e2 : std.bits .or .u8 (IntKind.wrap .u8 (std.bits .and .i64 (n : Int) 127)) 128 = ((n % 128 : Nat) : Int) + 128 := by
        rw [and_i64 _ (by omega) (by omega), w8 (by omega) (by omega), or128 _ (by omega) (by omega)]
        omega
      have hz : (std.strOf [((n % 128 : Nat) : Int) + 128]).size = 1 := str_size _
      have hc : std.strOf ((((n % 128 : Nat) : Int) + 128) :: dg (n / 128)) = std.strOf [((n % 128 : Nat) : Int) + 128] ++ std.strOf (dg (n / 128)) := by rw [← str_app]; rfl
      rw [hc, ← ByteArray.append_assoc]
      refine Ev.step (fun k => ?_) (ih (n / 128) (by omega) (acc ++ std.strOf [((n % 128 : Nat) : Int) + 128]) (by omega) (by rw [ByteArray.size_append, hz]; omega))
      simp (disch := omega) only [impl_varText.l0, if_pos, e1, e2]
theorem varText (n : Nat) (hn : n ≤ 9223372036854775807) : Ev (fun k => impl_varText.f k (n : Int)) (std.strOf (dg n)) := by
  have := dg_len10 n hn
  have hz : (⟨#[]⟩ : ByteArray).size = 0 := rfl
  refine Ev.congr (fun k => rfl) ?_
  have h := varTextL n ⟨#[]⟩ hn (by omega)
  have e : (⟨#[]⟩ : ByteArray) ++ std.strOf (dg n) = std.strOf (dg n) := by rw [← str_nil, ← str_app, List.nil_append]
  rw [e] at h
  exact h
/-- The value of a number's bytes: those with a sequel, the last one. -/
def val : List Int → Int → Int
  | [], b => b
  | h :: t, b => (h - 128) + 128 * val t b
def Hd (l : List Int) : Prop := ∀ x ∈ l, 128 ≤ x ∧ x ≤ 255
theorem val_lt (hs : List Int) (b : Int) (hh : Hd hs) (h0 : 0 ≤ b) (h1 : b < 128) : 0 ≤ val hs b ∧ val hs b < 128 ^ (hs.length + 1) := by
  induction hs with
  | nil => simp [val]; omega
  | cons h t ih =>
    have h2 := hh h (List.mem_cons_self ..)
    have h3 := ih (fun x hx => hh x (List.mem_cons_of_mem _ hx))
    have e : (128 : Int) ^ ((h :: t).length + 1) = 128 ^ (t.length + 1) * 128 := by rw [List.length_cons, Int.pow_succ]
    rw [e]
    simp only [val]
    omega
theorem val_app (p : List Int) (b : Int) : ∀ s, val (p ++ s) b = val p 0 + 128 ^ p.length * val s b := by
  induction p with
  | nil => intro s; simp [val]
  | cons h t ih =>
    intro s
    simp only [List.cons_append, val, ih, List.length_cons, Int.pow_succ]
    rw [Int.mul_add, Int.mul_comm (128 ^ t.length) 128, Int.mul_assoc]
    omega
theorem dg_val (hs : List Int) (b : Int) (hh : Hd hs) (h0 : 0 ≤ b) (h1 : b < 128) (hb : b ≠ 0 ∨ hs = []) : dg (val hs b).toNat = hs ++ [b] := by
  induction hs with
  | nil => simp only [val]; rw [dg_lt (by omega)]; simp; omega
  | cons h t ih =>
    have h2 := hh h (List.mem_cons_self ..)
    have ht : Hd t := fun x hx => hh x (List.mem_cons_of_mem _ hx)
    have hb0 : b ≠ 0 := by rcases hb with hb | hb; exact hb; cases hb
    have h3 := ih ht (.inl hb0)
    have h4 := val_lt t b ht h0 h1
    have h5 : 1 ≤ val t b := by
      cases t with
      | nil => simp only [val]; omega
      | cons u t' =>
        have h6 := val_lt t' b (fun x hx => ht x (List.mem_cons_of_mem _ hx)) h0 h1
        rcases Int.lt_or_le 0 (val (u :: t') b) with h7 | h7
        · omega
        · exfalso
          have h8 : val (u :: t') b = 0 := by omega
          rw [h8] at h3
          have : dg (0 : Int).toNat = [(0 : Int)] := dg_lt (by decide)
          rw [this] at h3
          have := congrArg List.length h3
          simp at this
    simp only [val]
    have e1 : (h - 128 + 128 * val t b).toNat = (val t b).toNat * 128 + (h - 128).toNat := by omega
    rw [dg_ge (by omega), e1]
    have e2 : ((val t b).toNat * 128 + (h - 128).toNat) / 128 = (val t b).toNat := by omega
    have e3 : ((val t b).toNat * 128 + (h - 128).toNat) % 128 = (h - 128).toNat := by omega
    rw [e2, e3, h3]
    simp
    omega
theorem dg_val0 (hs : List Int) (hh : Hd hs) (hne : hs ≠ []) : (dg (val hs 0).toNat).length ≤ hs.length := by
  have key : ∀ (l : List Int), Hd l → val l 0 < 128 ^ l.length ∧ 0 ≤ val l 0 := by
    intro l
    induction l with
    | nil => intro _; simp [val]
    | cons h t ih =>
      intro hl
      have h2 := hl h (List.mem_cons_self ..)
      have h3 := ih (fun x hx => hl x (List.mem_cons_of_mem _ hx))
      simp only [val, List.length_cons, Int.pow_succ]
      omega
  obtain ⟨h1, h2⟩ := key hs hh
  obtain ⟨m, hm⟩ : ∃ m, hs.length = m + 1 := ⟨hs.length - 1, by have := List.length_pos_iff.2 hne; omega⟩
  rw [hm] at h1 ⊢
  refine dg_len m _ ?_
  have : ((val hs 0).toNat : Int) < ((128 ^ (m + 1) : Nat) : Int) := by
    rw [Int.toNat_of_nonneg h2]
    exact_mod_cast h1
  exact_mod_cast this
/-- The bytes of a number at a list's head: at most so many. -/
def sp : Nat → List Int → Option (List Int × Int)
  | 0, _ => none
  | _ + 1, [] => none
  | j + 1, b :: t => if 128 ≤ b then (sp j t).map (fun r => (b :: r.1, r.2)) else some ([], b)
def fin_ (hs : List Int) (b : Int) : Int × Int := if b = 0 ∧ hs ≠ [] then (0, 0) else (val hs b, hs.length + 1)
def gv (l : List Int) : Int × Int := match sp 9 l with
  | none => (0, 0)
  | some (hs, b) => fin_ hs b
theorem sp_some (j : Nat) : ∀ l hs b, Byt l → sp j l = some (hs, b) → ∃ t, l = hs ++ b :: t ∧ Hd hs ∧ 0 ≤ b ∧ b < 128 ∧ hs.length < j := by
  induction j with
  | zero => intro l hs b _ h; simp [sp] at h
  | succ j ih =>
    intro l hs b hl h
    cases l with
    | nil => simp [sp] at h
    | cons x t =>
      have hx := hl x (List.mem_cons_self ..)
      simp only [sp] at h
      split at h
      · rename_i h128
        simp only [Option.map_eq_some_iff] at h
        obtain ⟨⟨hs', b'⟩, h1, h2⟩ := h
        simp only [Prod.mk.injEq] at h2
        obtain ⟨rfl, rfl⟩ := h2
        obtain ⟨t', e1, e2, e3, e4, e5⟩ := ih t hs' b' (fun y hy => hl y (List.mem_cons_of_mem _ hy)) h1
        refine ⟨t', by rw [e1]; rfl, fun y hy => ?_, e3, e4, by simp; omega⟩
        rcases List.mem_cons.1 hy with rfl | hy
        · exact ⟨h128, hx.2⟩
        · exact e2 y hy
      · rename_i h128
        simp only [Option.some.injEq, Prod.mk.injEq] at h
        obtain ⟨rfl, rfl⟩ := h
        exact ⟨t, rfl, (fun y hy => by cases hy), hx.1, by omega, by simp⟩
/-- A number that is there: its bytes are its digits. -/
theorem gv_spec (l : List Int) (hl : Byt l) : gv l = (0, 0) ∨ ∃ n : Nat, ∃ t, gv l = ((n : Int), ((dg n).length : Int)) ∧ n ≤ 9223372036854775807 ∧ l = dg n ++ t := by
  unfold gv
  cases hs : sp 9 l with
  | none => exact .inl rfl
  | some r =>
    obtain ⟨hs', b⟩ := r
    obtain ⟨t, e1, e2, e3, e4, e5⟩ := sp_some 9 l hs' b hl hs
    simp only [fin_]
    by_cases hc : b = 0 ∧ hs' ≠ []
    · rw [if_pos hc]; exact .inl rfl
    · rw [if_neg hc]
      have hv := val_lt hs' b e2 e3 e4
      have hp : (128 : Int) ^ (hs'.length + 1) ≤ 128 ^ 9 := pow128_le (by omega)
      have h9 : (128 : Int) ^ 9 = 9223372036854775808 := by decide
      have hd := dg_val hs' b e2 e3 e4 (by
        by_cases h : b = 0
        · exact .inr (Classical.byContradiction fun h' => hc ⟨h, h'⟩)
        · exact .inl h)
      refine .inr ⟨(val hs' b).toNat, t, ?_, by omega, by rw [hd, e1]; simp⟩
      rw [hd]
      simp
      omega
theorem readVarL (s : List Int) : ∀ (p : List Int), Byt (p ++ s) → Hd p → p.length ≤ 9 → Ev (fun k => impl_readVar.l0 k (std.strOf (p ++ s)) (val p 0) (p.length : Int)) (match sp (9 - p.length) s with
    | none => (0, 0)
    | some (hs, b) => fin_ (p ++ hs) b) := by
  induction s with
  | nil =>
    intro p hb hp hl
    have e : sp (9 - p.length) ([] : List Int) = none := by cases 9 - p.length <;> rfl
    rw [e]
    have hz := str_size (p ++ [])
    have h1 : (p ++ ([] : List Int)).length = p.length := by simp
    refine Ev.at fun k => ?_
    simp (disch := omega) only [impl_readVar.l0, if_neg]
  | cons b t ih =>
    intro p hb hp hl
    have hz := str_size (p ++ b :: t)
    have h1 := len_mid p b t
    have hbb := hb b (by simp)
    by_cases h9 : p.length = 9
    · rw [h9]
      show Ev _ (0, 0)
      refine Ev.at fun k => ?_
      simp (disch := omega) only [impl_readVar.l0, if_neg, if_pos]
    · obtain ⟨j, hj⟩ : ∃ j, 9 - p.length = j + 1 := ⟨9 - p.length - 1, by omega⟩
      have hpv := val_lt p 0 hp (by decide) (by decide)
      have hpv2 : val p 0 < 128 ^ p.length := by
        clear ih hb hbb hz h1 h9 hj hpv
        induction p with
        | nil => simp [val]
        | cons h t ih =>
          have h2 := hp h (List.mem_cons_self ..)
          have h3 := ih (fun x hx => hp x (List.mem_cons_of_mem _ hx)) (by simp at hl; omega)
          simp only [val, List.length_cons, Int.pow_succ]
          omega
      have hg : std.sget (std.strOf (p ++ b :: t)) (p.length : Int) = b := by
        rw [str_get _ hb p.length (by simp)]
        simp
      have hor := var_or b (val p 0) p.length hbb.1 hbb.2 (by omega) hpv.1 hpv2
      have e7 : 0 ≤ IntKind.wrap .i64 (7 * (p.length : Int)) := by rw [w64 (by omega) (by omega)]; omega
      have ei : IntKind.wrap .i64 ((p.length : Int) + 1) = (p.length : Int) + 1 := w64 (by omega) (by omega)
      rw [hj]
      by_cases h128 : 128 ≤ b
      · have hv : val (p ++ [b]) 0 = val p 0 + b % 128 * 128 ^ p.length := by
          rw [val_app]
          simp only [val]
          rw [show b % 128 = b - 128 by omega, Int.mul_comm]
          simp
        have h := ih (p ++ [b]) (by simpa using hb) (fun x hx => by
          rcases List.mem_append.1 hx with hx | hx
          · exact hp x hx
          · simp at hx; subst hx; exact ⟨h128, hbb.2⟩) (by simp; omega)
        rw [hv] at h
        have e9 : 9 - (p ++ [b]).length = j := by simp; omega
        rw [e9] at h
        have hr : (match sp (j + 1) (b :: t) with
            | none => ((0, 0) : Int × Int)
            | some (hs, b) => fin_ (p ++ hs) b) = (match sp j t with
            | none => (0, 0)
            | some (hs, b_1) => fin_ (p ++ [b] ++ hs) b_1) := by
          simp only [sp, if_pos h128]
          cases sp j t with
          | none => rfl
          | some r => simp
        rw [hr]
        refine Ev.step (fun k => ?_) (by simpa using h)
        simp (disch := omega) only [impl_readVar.l0, if_neg, if_pos, hg, hor, ei]
      · have hr : (match sp (j + 1) (b :: t) with
            | none => ((0, 0) : Int × Int)
            | some (hs, b) => fin_ (p ++ hs) b) = fin_ p b := by simp only [sp, if_neg h128, List.append_nil]
        rw [hr]
        have hv : val p b = val p 0 + b % 128 * 128 ^ p.length := by
          have := val_app p b []
          rw [List.append_nil] at this
          rw [this]
          simp only [val]
          rw [show b % 128 = b by omega, Int.mul_comm]
        refine Ev.at fun k => ?_
        simp (disch := omega) only [impl_readVar.l0, if_pos, hg, hor, ei, ← hv]
        unfold fin_
        by_cases hb0 : b = 0
        · rw [if_pos hb0]
          by_cases hpn : p = []
          · subst hpn
            simp [hb0]
          · have : 0 < p.length := List.length_pos_iff.2 hpn
            rw [if_pos (by omega), if_pos ⟨hb0, hpn⟩]
        · rw [if_neg hb0, if_neg (fun e => hb0 e.1)]
theorem readVar (l : List Int) (hl : Byt l) : Ev (fun k => impl_readVar.f k (std.strOf l)) (gv l) := by
  have h := readVarL l [] (by simpa using hl) (fun x hx => by cases hx) (by simp)
  simp only [List.nil_append, List.length_nil, val] at h
  exact h
theorem take_bad (T : ByteArray) (n : Int) : impl_reader_take.f ⟨T, true⟩ n = some (⟨#[]⟩, ⟨T, true⟩) := by simp only [impl_reader_take.f, if_true]
theorem take_short (l : List Int) (n : Int) (h : (l.length : Int) < n) : impl_reader_take.f ⟨std.strOf l, false⟩ n = some (⟨#[]⟩, ⟨std.strOf l, true⟩) := by
  have hz := str_size l
  simp only [impl_reader_take.f, Bool.false_eq_true, if_false]
  rw [if_pos (by omega)]
theorem take_ok (l : List Int) (n : Nat) (h : n ≤ l.length) : impl_reader_take.f ⟨std.strOf l, false⟩ (n : Int) = some (std.strOf (l.take n), ⟨std.strOf (l.drop n), false⟩) := by
  have hz := str_size l
  simp only [impl_reader_take.f, Bool.false_eq_true, if_false]
  simp (disch := omega) only [if_neg, if_pos, hz]
  rw [str_ext, str_ext]
  have e1 : ((l.length : Nat) : Int).toNat - (n : Int).toNat = l.length - n := by omega
  have e2 : (n : Int).toNat - (0 : Int).toNat = n := by simp
  rw [e1, e2]
  have e3 : (n : Int).toNat = n := by omega
  rw [e3]
  have e4 : (l.drop n).take (l.length - n) = l.drop n := List.take_of_length_le (by simp)
  rw [e4]
  rfl
/-- What number leaves. -/
def num (l : List Int) : Int × GReader := if (gv l).2 = 0 then (0, ⟨std.strOf l, true⟩) else ((gv l).1, ⟨std.strOf (l.drop (gv l).2.toNat), false⟩)
theorem number (l : List Int) (hl : Byt l) : Ev (fun k => impl_reader_number.f k ⟨std.strOf l, false⟩) (num l) := by
  refine Ev.bind (readVar l hl) ?_
  unfold num
  rcases gv_spec l hl with h | ⟨n, t, h1, h2, h3⟩
  · rw [h]
    refine Ev.ret fun k => ?_
    simp [take_bad]
  · have hp := dg_pos n
    rw [h1]
    have hne : ¬ (((dg n).length : Nat) : Int) = 0 := by omega
    simp only [if_neg hne]
    refine Ev.ret fun k => ?_
    rw [take_ok l (dg n).length (by rw [h3]; simp)]
    simp
theorem number_bad (l : List Int) (hl : Byt l) : Ev (fun k => impl_reader_number.f k ⟨std.strOf l, true⟩) ((gv l).1, ⟨std.strOf l, true⟩) := by
  refine Ev.bind (readVar l hl) (Ev.ret fun k => ?_)
  simp [take_bad]
end Go.I

/-! GIQEq -/
set_option linter.unusedVariables false
set_option linter.unusedSimpArgs false
set_option maxRecDepth 100000
set_option maxHeartbeats 4000000
namespace Go.I
open Go
/-! ### texts as lists of bytes -/
def mk (l : List UInt8) : ByteArray := ⟨l.toArray⟩
theorem mk_self (s : ByteArray) : mk s.data.toList = s := by simp [mk]
theorem mk_data (l : List UInt8) : (mk l).data.toList = l := by simp [mk]
theorem mk_size (l : List UInt8) : (mk l).size = l.length := by simp [mk, ByteArray.size]
theorem mk_inj {a b : List UInt8} : mk a = mk b ↔ a = b := ⟨fun h => by have := congrArg (fun s : ByteArray => s.data.toList) h; simpa [mk] using this, fun h => h ▸ rfl⟩
theorem mk_app (a b : List UInt8) : mk a ++ mk b = mk (a ++ b) := by
  apply ByteArray.ext
  simp [mk, ByteArray.data_append]
theorem mk_cut (A p s : List UInt8) {i j : Nat} (hi : i = A.length) (hj : j = A.length + p.length) : (mk (A ++ p ++ s)).extract i j = mk p := by
  subst hi; subst hj
  apply ByteArray.ext
  simp [mk, ByteArray.data_extract]
theorem mk_get (A : List UInt8) (c : UInt8) (t : List UInt8) {i : Int} (hi : i = A.length) : std.sget (mk (A ++ c :: t)) i = c.toNat := by
  subst hi
  have h : (A.length : Int).toNat < (mk (A ++ c :: t)).size := by rw [mk_size]; simp
  show (if h : (A.length : Int).toNat < (mk (A ++ c :: t)).size then (((mk (A ++ c :: t))[(A.length : Int).toNat]'h).toNat : Int) else 0) = _
  rw [dif_pos h]
  congr 1
  simp [mk, ByteArray.getElem_eq_getElem_data]
theorem u8_ne {c q : UInt8} (h : c ≠ q) : (c.toNat : Int) ≠ q.toNat := fun e => h (UInt8.toNat_inj.1 (by omega))
/-! ### pieces between separators -/
def pcs (q : UInt8) : List UInt8 → List UInt8 → List ByteArray
  | pre, [] => [mk pre]
  | pre, c :: t => if c = q then mk pre :: pcs q [] t else pcs q (pre ++ [c]) t
theorem pcs_len (q : UInt8) : ∀ suf pre, (pcs q pre suf).length ≤ suf.length + 1 ∧ 0 < (pcs q pre suf).length
  | [], pre => by simp [pcs]
  | c :: t, pre => by
    unfold pcs
    split
    · have := pcs_len q t []; simp; omega
    · have := pcs_len q t (pre ++ [c]); simp; omega
def szs (l : List ByteArray) : Nat := (l.map ByteArray.size).sum
theorem pcs_size (q : UInt8) : ∀ suf pre, szs (pcs q pre suf) + (pcs q pre suf).length = pre.length + suf.length + 1
  | [], pre => by simp [pcs, szs, mk_size]
  | c :: t, pre => by
    unfold pcs
    split
    · have := pcs_size q t []
      simp [szs, mk_size] at this ⊢
      omega
    · have := pcs_size q t (pre ++ [c])
      simp [szs] at this ⊢
      omega
theorem count_mk (q : UInt8) (l : List UInt8) : Lib.countB (mk l) (mk [q]) = l.count q := by
  show Lib.count (mk l).data.toList (mk [q]).data.toList = _
  rw [mk_data, mk_data, Lib.count_one]
theorem index_mk (q : UInt8) (l : List UInt8) : Lib.indexB (mk l) (mk [q]) = Lib.indexByte l q := by
  show Lib.index (mk l).data.toList (mk [q]).data.toList = _
  rw [mk_data, mk_data, Lib.index_one]
theorem indexByte_hit (q : UInt8) (t : List UInt8) : ∀ pre : List UInt8, q ∉ pre → Lib.indexByte (pre ++ q :: t) q = pre.length
  | [], _ => by simp [Lib.indexByte]
  | b :: l, h => by
    have h1 : ¬ b = q := fun e => h (by simp [e])
    have h2 := indexByte_hit q t l (fun hm => h (by simp [hm]))
    have h3 : ¬ ((l.length : Int) == -1) = true := by simp
    show (if b == q then 0 else if Lib.indexByte (l ++ q :: t) q == -1 then -1 else Lib.indexByte (l ++ q :: t) q + 1) = _
    rw [h2, if_neg (by simpa using h1), if_neg h3]
    simp
theorem indexByte_pos (q : UInt8) : ∀ l : List UInt8, 0 ≤ Lib.indexByte l q ↔ q ∈ l
  | [] => by simp [Lib.indexByte]
  | b :: l => by
    have ih := indexByte_pos q l
    unfold Lib.indexByte
    by_cases h : b = q
    · subst h; simp
    · have h' : ¬ q = b := fun e => h e.symm
      rw [if_neg (by simpa using h)]
      simp only [List.mem_cons, h', false_or]
      by_cases h2 : Lib.indexByte l q = -1
      · rw [if_pos (by simp [h2]), ← ih, h2]
      · rw [if_neg (by simpa using h2), ← ih]
        have := Lib.indexByte_ge l q
        omega
theorem split_pcs (q : UInt8) : ∀ suf pre : List UInt8, q ∉ pre → Lib.splitB (mk [q]) 0 (Lib.countB (mk (pre ++ suf)) (mk [q])) (mk (pre ++ suf)) = pcs q pre suf
  | [], pre, h => by
    rw [List.append_nil, count_mk, List.count_eq_zero.2 h]
    rfl
  | c :: t, pre, h => by
    by_cases hc : c = q
    · subst hc
      have ih := split_pcs c t [] (by simp)
      rw [List.nil_append] at ih
      rw [count_mk, List.count_append, List.count_eq_zero.2 h, List.count_cons_self, Nat.zero_add, Lib.splitB_hit _ _ _ _ pre.length (by rw [index_mk, indexByte_hit c t pre h])]
      have e1 : (mk (pre ++ c :: t)).extract 0 (pre.length + 0) = mk pre := by
        have := mk_cut [] pre (c :: t) (i := 0) (j := pre.length + 0) rfl (by simp)
        simpa using this
      have e2 : (mk (pre ++ c :: t)).extract (pre.length + (mk [c]).size) (mk (pre ++ c :: t)).size = mk t := by
        have := mk_cut (pre ++ [c]) t [] (i := pre.length + (mk [c]).size) (j := (mk (pre ++ c :: t)).size) (by simp [mk_size]) (by simp [mk_size]; omega)
        simpa using this
      rw [e1, e2, ← count_mk, ih]
      simp [pcs]
    · have ih := split_pcs q t (pre ++ [c]) (by simp [h]; exact fun e => hc e.symm)
      simp only [List.append_assoc, List.singleton_append] at ih
      rw [ih]
      simp [pcs, hc]
theorem Split_mk (q : UInt8) (l : List UInt8) (h : l.length < 4294967281) : strings_Split.f (mk l) (mk [q]) = some (pcs q [] l) := by
  have := split_pcs q l [] (by simp)
  simp only [List.nil_append] at this
  unfold strings_Split.f
  rw [if_pos ⟨by rw [mk_size]; exact h, by rw [mk_size]; rfl⟩, this]
theorem Contains_mk (q : UInt8) (l : List UInt8) : strings_Contains.f (mk l) (mk [q]) = some (decide (q ∈ l)) := by
  unfold strings_Contains.f
  rw [if_pos (by rw [mk_size]; rfl), mk_data, mk_data]
  congr 1
  exact decide_eq_decide.2 (indexByte_pos q l)
/-- The reference's pieces. -/
theorem l02Names_l0 (a : ByteArray) (ha : a.size ≤ 1000) (suf : List UInt8) : ∀ (A pre : List UInt8) (out : List ByteArray) (f i : Int), a = mk (A ++ pre ++ suf) → f = A.length → i = A.length + pre.length → out.length + suf.length ≤ 2000 →
    Ev (fun k => spec_l02Names.l0 k a out f i) (out ++ pcs 47 pre suf) := by
  induction suf with
  | nil =>
    intro A pre out f i h hf hi ho
    have hs : (a.size : Int) = A.length + pre.length := by rw [h, mk_size]; simp
    have hx : a.extract f.toNat (a.size : Int).toNat = mk pre := by rw [h]; exact mk_cut A pre [] (by omega) (by rw [mk_size]; simp; omega)
    simp only [List.length_nil] at ho
    refine Ev.at fun k => ?_
    simp (disch := omega) only [spec_l02Names.l0, if_neg, if_pos, hx, List.length_cons, List.length_nil]
    rfl
  | cons c t ih =>
    intro A pre out f i h hf hi ho
    have hs : (a.size : Int) = A.length + pre.length + t.length + 1 := by rw [h, mk_size]; simp; omega
    simp only [List.length_cons] at ho
    have hg : std.sget a i = c.toNat := by
      rw [h, List.append_assoc, ← List.append_assoc A pre]
      exact mk_get (A ++ pre) c t (by simp; omega)
    by_cases hc : c = 47
    · subst hc
      have hx : a.extract f.toNat i.toNat = mk pre := by rw [h]; exact mk_cut A pre (47 :: t) (by omega) (by omega)
      have hg' : std.sget a i = 47 := hg
      have hi2 := ih (A ++ pre ++ [47]) [] (out ++ [mk pre]) (i + 1) (i + 1) (by rw [h]; simp) (by simp; omega) (by simp; omega) (by simp; omega)
      refine Ev.step (fun k => ?_) (by simpa [pcs] using hi2)
      simp (disch := omega) only [spec_l02Names.l0, if_pos, hx, w64, List.length_cons, List.length_nil]
    · have hg' : std.sget a i ≠ 47 := by rw [hg]; exact u8_ne hc
      have hi2 := ih A (pre ++ [c]) out f (i + 1) (by rw [h]; simp) hf (by simp; omega) (by omega)
      refine Ev.step (fun k => ?_) (by simpa [pcs, hc] using hi2)
      simp (disch := omega) only [spec_l02Names.l0, if_pos, if_neg, w64]
theorem l02Names_ev (l : List UInt8) (h : l.length ≤ 1000) : Ev (fun k => spec_l02Names.f k (mk l)) (pcs 47 [] l) :=
  (l02Names_l0 (mk l) (by rw [mk_size]; exact h) l [] [] [] 0 0 rfl rfl rfl (by simp; omega)).congr fun k => rfl
end Go.I

/-! GIQEr -/
set_option linter.unusedVariables false
set_option linter.unusedSimpArgs false
set_option maxRecDepth 100000
set_option maxHeartbeats 4000000
namespace Go.I
open Go
theorem l01In_eq (x a b : Int) : spec_l01In.f x a b = some (decide (a ≤ x ∧ x ≤ b)) := by
  unfold spec_l01In.f
  by_cases h : a ≤ x <;> simp [h]
theorem within_eq (x a b : Int) : impl_within.f x a b = some (decide (a ≤ x ∧ x ≤ b)) := by
  unfold impl_within.f
  by_cases h : a ≤ x <;> simp [h]
/-! ### names -/
def nc (x : Int) : Bool := decide ((97 ≤ x ∧ x ≤ 122) ∨ (65 ≤ x ∧ x ≤ 90) ∨ (48 ≤ x ∧ x ≤ 57) ∨ x = 46 ∨ x = 95 ∨ x = 45)
def ncs (l : List UInt8) : Bool := l.all fun c => nc c.toNat
def nmRest (l : List UInt8) : Bool := decide (1 ≤ (l.length : Int) ∧ (l.length : Int) ≤ 20) && (decide (¬ mk l = (⟨#[46]⟩ : ByteArray)) && decide (¬ mk l = (⟨#[46, 46]⟩ : ByteArray)))
def nm (l : List UInt8) : Bool := ncs l && nmRest l
theorem u8_lt (c : UInt8) : (0 : Int) ≤ c.toNat ∧ (c.toNat : Int) ≤ 255 := by have := c.toNat_lt; omega
theorem spec_Name_l0 (suf : List UInt8) : ∀ (A : List UInt8) (a : ByteArray) (i : Int), a = mk (A ++ suf) → i = A.length → (A ++ suf).length ≤ 1000000000 → Ev (fun k => spec_NameOk.l0 k a i) (ncs suf) := by
  induction suf with
  | nil =>
    intro A a i h hi hl
    have hs : (a.size : Int) = A.length := by rw [h, mk_size]; simp
    refine Ev.at fun k => ?_
    simp (disch := omega) only [spec_NameOk.l0, if_neg]
    rfl
  | cons c t ih =>
    intro A a i h hi hl
    have hs : (a.size : Int) = A.length + t.length + 1 := by rw [h, mk_size]; simp; omega
    have hl' : A.length + t.length + 1 ≤ 1000000000 := by simp at hl; omega
    have hg : std.sget a i = c.toNat := by rw [h]; exact mk_get A c t hi
    obtain ⟨b0, b1⟩ := u8_lt c
    have hn := ih (A ++ [c]) a (i + 1) (by rw [h]; simp) (by simp; omega) (by simpa using hl)
    have hall : ncs (c :: t) = (nc c.toNat && ncs t) := rfl
    rw [hall]
    generalize hx : (c.toNat : Int) = x at hg b0 b1
    by_cases h1 : nc x = true
    · rw [h1, Bool.true_and]
      refine Ev.step (fun k => ?_) hn
      have h1 := of_decide_eq_true h1
      by_cases c1 : 97 ≤ x ∧ x ≤ 122
      · simp (disch := omega) only [spec_NameOk.l0, l01In_eq, bnd, decide_eq_true_eq, hg, if_pos, if_neg, w64]
      by_cases c2 : 65 ≤ x ∧ x ≤ 90
      · simp (disch := omega) only [spec_NameOk.l0, l01In_eq, bnd, decide_eq_true_eq, hg, if_pos, if_neg, w64]
      by_cases c3 : 48 ≤ x ∧ x ≤ 57
      · simp (disch := omega) only [spec_NameOk.l0, l01In_eq, bnd, decide_eq_true_eq, hg, if_pos, if_neg, w64]
      by_cases c4 : x = 46
      · simp (disch := omega) only [spec_NameOk.l0, l01In_eq, bnd, decide_eq_true_eq, hg, if_pos, if_neg, w64]
      by_cases c5 : x = 95
      · simp (disch := omega) only [spec_NameOk.l0, l01In_eq, bnd, decide_eq_true_eq, hg, if_pos, if_neg, w64]
      have c6 : x = 45 := by omega
      simp (disch := omega) only [spec_NameOk.l0, l01In_eq, bnd, decide_eq_true_eq, hg, if_pos, if_neg, w64]
    · have h2 := h1
      unfold nc at h2
      rw [decide_eq_true_eq] at h2
      rw [Bool.eq_false_iff.2 h1, Bool.false_and]
      refine Ev.at fun k => ?_
      simp (disch := omega) only [spec_NameOk.l0, l01In_eq, bnd, decide_eq_true_eq, hg, if_pos, if_neg, w64]
theorem spec_Name (l : List UInt8) (hl : l.length ≤ 1000000000) : Ev (fun k => spec_NameOk.f k (mk l)) (nm l) := by
  have hs : ((mk l).size : Int) = l.length := by rw [mk_size]
  have h0 := spec_Name_l0 l [] (mk l) 0 rfl rfl hl
  simp only [spec_NameOk.f, l01In_eq, bnd, hs, decide_eq_true_eq]
  unfold nm nmRest
  by_cases h1 : 1 ≤ (l.length : Int) ∧ (l.length : Int) ≤ 20
  · by_cases h2 : mk l = (⟨#[46]⟩ : ByteArray)
    · exact Ev.ret fun k => by rw [if_pos h1, if_pos h2]; simp [h2]
    · by_cases h3 : mk l = (⟨#[46, 46]⟩ : ByteArray)
      · exact Ev.ret fun k => by rw [if_pos h1, if_neg h2, if_pos h3]; simp [h3]
      · have e : (ncs l && (decide (1 ≤ (l.length : Int) ∧ (l.length : Int) ≤ 20) && (decide (¬ mk l = (⟨#[46]⟩ : ByteArray)) && decide (¬ mk l = (⟨#[46, 46]⟩ : ByteArray))))) = ncs l := by simp [h1, h2, h3]
        rw [e]
        exact h0.congr fun k => by rw [if_pos h1, if_neg h2, if_neg h3]
  · exact Ev.ret fun k => by rw [if_neg h1]; simp [h1]
theorem impl_Name_l0 (l : List UInt8) (hl : l.length ≤ 1000000000) (suf : List UInt8) : ∀ (A : List UInt8) (i : Int), l = A ++ suf → i = A.length → Ev (fun k => impl_NameOk.l0 k (mk l) i) (ncs suf && nmRest l) := by
  have hs : ((mk l).size : Int) = l.length := by rw [mk_size]
  induction suf with
  | nil =>
    intro A i h hi
    have hA : (l.length : Int) = A.length := by rw [h]; simp
    have hc : ncs [] = true := rfl
    rw [hc, Bool.true_and]
    refine Ev.at fun k => ?_
    have hlt : ¬ i < (l.length : Int) := by omega
    simp only [impl_NameOk.l0, hs, if_neg hlt, within_eq, bnd, decide_eq_true_eq]
    unfold nmRest
    have hq : std.seq (mk l) (⟨#[46, 46]⟩ : ByteArray) = decide (mk l = (⟨#[46, 46]⟩ : ByteArray)) := (seq_dec _ _).symm
    rw [hq]
    by_cases h1 : 1 ≤ (l.length : Int) ∧ (l.length : Int) ≤ 20
    · by_cases h2 : mk l = (⟨#[46]⟩ : ByteArray)
      · rw [if_pos h1, if_pos h2]; simp [h2]
      · rw [if_pos h1, if_neg h2]; simp [h1, h2]
    · rw [if_neg h1]; simp [h1]
  | cons c t ih =>
    intro A i h hi
    have hA : (l.length : Int) = A.length + t.length + 1 := by rw [h]; simp; omega
    have hg : std.sget (mk l) i = c.toNat := by rw [h]; exact mk_get A c t hi
    obtain ⟨b0, b1⟩ := u8_lt c
    have hn := ih (A ++ [c]) (i + 1) (by rw [h]; simp) (by simp; omega)
    have hall : ncs (c :: t) = (nc c.toNat && ncs t) := rfl
    rw [hall]
    generalize hx : (c.toNat : Int) = x at hg b0 b1
    by_cases h1 : nc x = true
    · rw [h1, Bool.true_and]
      refine Ev.step (fun k => ?_) hn
      have h1 := of_decide_eq_true h1
      by_cases c1 : 97 ≤ x ∧ x ≤ 122
      · simp (disch := omega) only [impl_NameOk.l0, hg, if_pos, if_neg, w64, if_true]
      by_cases c2 : 65 ≤ x ∧ x ≤ 90
      · simp (disch := omega) only [impl_NameOk.l0, hg, if_pos, if_neg, w64, if_true]
      by_cases c3 : 48 ≤ x ∧ x ≤ 57
      · simp (disch := omega) only [impl_NameOk.l0, hg, if_pos, if_neg, w64, if_true]
      have c46 : x = 46 ∨ x = 95 ∨ x = 45 := by omega
      rcases c46 with rfl | rfl | rfl
      · simp (disch := omega) only [impl_NameOk.l0, hg, if_pos, if_neg, w64, if_true]
      · simp (disch := omega) only [impl_NameOk.l0, hg, if_pos, if_neg, w64, if_true]
      · simp (disch := omega) only [impl_NameOk.l0, hg, if_pos, if_neg, w64, if_true]
    · have h2 := h1
      unfold nc at h2
      rw [decide_eq_true_eq] at h2
      rw [Bool.eq_false_iff.2 h1, Bool.false_and, Bool.false_and]
      refine Ev.at fun k => ?_
      by_cases d1 : 97 ≤ x
      · simp (disch := omega) only [impl_NameOk.l0, hg, if_pos, if_neg, w64, if_true]
      by_cases d2 : 65 ≤ x
      · simp (disch := omega) only [impl_NameOk.l0, hg, if_pos, if_neg, w64, if_true]
      by_cases d3 : 48 ≤ x
      · simp (disch := omega) only [impl_NameOk.l0, hg, if_pos, if_neg, w64, if_true]
      · simp (disch := omega) only [impl_NameOk.l0, hg, if_pos, if_neg, w64, if_true]
theorem impl_Name (l : List UInt8) (hl : l.length ≤ 1000000000) : Ev (fun k => impl_NameOk.f k (mk l)) (nm l) := impl_Name_l0 l hl l [] 0 rfl rfl
end Go.I

/-! GIQEs -/
set_option linter.unusedVariables false
set_option linter.unusedSimpArgs false
set_option maxRecDepth 100000
set_option maxHeartbeats 4000000
namespace Go.I
open Go
/-! ### paths -/
theorem ba_len (b : ByteArray) : b.data.toList.length = b.size := Array.length_toList
def nmB (b : ByteArray) : Bool := nm b.data.toList
theorem spec_NameB (b : ByteArray) (h : b.size ≤ 1000000000) : Ev (fun k => spec_NameOk.f k b) (nmB b) := by
  have := spec_Name b.data.toList (by rw [ba_len]; exact h)
  rwa [mk_self] at this
theorem impl_NameB (b : ByteArray) (h : b.size ≤ 1000000000) : Ev (fun k => impl_NameOk.f k b) (nmB b) := by
  have := impl_Name b.data.toList (by rw [ba_len]; exact h)
  rwa [mk_self] at this
theorem nmB_size {b : ByteArray} (h : nmB b = true) : b.size ≤ 20 := by
  unfold nmB nm nmRest at h
  simp only [Bool.and_eq_true, decide_eq_true_eq] at h
  have := h.2.1.2
  have e := ba_len b
  omega
def pOk (l : List ByteArray) : Bool := l.all nmB && decide ((l.length : Int) ≤ 8)
theorem sz_mem {l : List ByteArray} {b : ByteArray} (h : b ∈ l) : b.size ≤ szs l := by
  induction l with
  | nil => cases h
  | cons x t ih =>
    simp only [szs, List.map_cons, List.sum_cons] at ih ⊢
    rcases List.mem_cons.1 h with rfl | h
    · omega
    · have := ih h; omega
theorem spec_Path_l0 (L : List ByteArray) (hL : szs L ≤ 1000000000) (hn : L.length ≤ 1000000000) (suf : List ByteArray) : ∀ (A : List ByteArray) (i : Int), L = A ++ suf → i = A.length → Ev (fun k => spec_PathOk.l0 k L i) (suf.all nmB && decide ((L.length : Int) ≤ 8)) := by
  induction suf with
  | nil =>
    intro A i h hi
    have hA : (L.length : Int) = A.length := by rw [h]; simp
    refine Ev.at fun k => ?_
    simp (disch := omega) only [spec_PathOk.l0, if_neg]
    simp
  | cons b t ih =>
    intro A i h hi
    have hA : (L.length : Int) = A.length + t.length + 1 := by rw [h]; simp; omega
    have hg : L.getD i.toNat (⟨#[]⟩ : ByteArray) = b := by rw [h]; exact get_mid A b _ t hi
    have hb := spec_NameB b (Nat.le_trans (sz_mem (l := L) (by rw [h]; simp)) hL)
    have hi2 := ih (A ++ [b]) (i + 1) (by rw [h]; simp) (by simp; omega)
    refine Ev.step (g := fun k => (spec_NameOk.f k b).bind fun r5 => if r5 = true then spec_PathOk.l0 k L (i + 1) else some false) (fun k => ?_) (Ev.bind hb ?_)
    · simp (disch := omega) only [spec_PathOk.l0, if_pos, hg, w64]
    · rw [List.all_cons]
      by_cases h1 : nmB b = true
      · rw [h1, Bool.true_and]; exact hi2.congr fun k => by rw [if_pos rfl]
      · rw [Bool.eq_false_iff.2 h1, Bool.false_and, Bool.false_and]; exact Ev.ret fun k => by rw [if_neg (by decide)]
theorem spec_Path (l : List UInt8) : Ev (fun k => spec_PathOk.f k (mk l)) (decide ((l.length : Int) ≤ 200) && pOk (pcs 47 [] l)) := by
  have hs : ((mk l).size : Int) = l.length := by rw [mk_size]
  simp only [spec_PathOk.f, hs]
  by_cases h : 200 < (l.length : Int)
  · exact Ev.ret fun k => by rw [if_pos h]; simp; omega
  · have h1 := l02Names_ev l (by omega)
    have h2 := pcs_size 47 l []
    have h3 := (pcs_len 47 l []).1
    simp only [List.length_nil] at h2
    have e : (decide ((l.length : Int) ≤ 200) && pOk (pcs 47 [] l)) = pOk (pcs 47 [] l) := by rw [decide_eq_true (by omega), Bool.true_and]
    rw [e]
    simp only [if_neg h]
    exact Ev.bind h1 (spec_Path_l0 (pcs 47 [] l) (by omega) (by omega) (pcs 47 [] l) [] 0 rfl rfl)
theorem impl_Names_l0 (L : List ByteArray) (hL : szs L ≤ 1000000000) (hn : L.length ≤ 1000000000) (suf : List ByteArray) : ∀ (A : List ByteArray) (i : Int), L = A ++ suf → i = A.length → Ev (fun k => impl_Names.l0 k L i) (if suf.all nmB = true then L else []) := by
  induction suf with
  | nil =>
    intro A i h hi
    have hA : (L.length : Int) = A.length := by rw [h]; simp
    refine Ev.at fun k => ?_
    simp (disch := omega) only [impl_Names.l0, if_neg]
    simp
  | cons b t ih =>
    intro A i h hi
    have hA : (L.length : Int) = A.length + t.length + 1 := by rw [h]; simp; omega
    have hg : L.getD i.toNat (⟨#[]⟩ : ByteArray) = b := by rw [h]; exact get_mid A b _ t hi
    have hb := impl_NameB b (Nat.le_trans (sz_mem (l := L) (by rw [h]; simp)) hL)
    have hi2 := ih (A ++ [b]) (i + 1) (by rw [h]; simp) (by simp; omega)
    refine Ev.step (g := fun k => (impl_NameOk.f k b).bind fun r5 => if r5 = true then impl_Names.l0 k L (i + 1) else some []) (fun k => ?_) (Ev.bind hb ?_)
    · simp (disch := omega) only [impl_Names.l0, if_pos, hg, w64]
    · rw [List.all_cons]
      by_cases h1 : nmB b = true
      · rw [h1, Bool.true_and]; exact hi2.congr fun k => by rw [if_pos rfl]
      · rw [Bool.eq_false_iff.2 h1, Bool.false_and]; exact Ev.ret fun k => by rw [if_neg (by decide), if_neg (by decide)]
theorem szs_all {l : List ByteArray} (h : l.all nmB = true) : szs l ≤ 20 * l.length := by
  induction l with
  | nil => simp [szs]
  | cons b t ih =>
    simp only [List.all_cons, Bool.and_eq_true] at h
    have h1 := nmB_size h.1
    have h2 := ih h.2
    simp only [szs, List.map_cons, List.sum_cons, List.length_cons] at h2 ⊢
    omega
/-- A path that is right, for both. -/
def pth (l : List UInt8) : Bool := decide ((l.length : Int) ≤ 200) && pOk (pcs 47 [] l)
theorem pth_small {l : List UInt8} (h : pth l = true) : l.length ≤ 168 := by
  unfold pth pOk at h
  simp only [Bool.and_eq_true, decide_eq_true_eq] at h
  have h1 := szs_all h.2.1
  have h2 := pcs_size 47 l []
  simp only [List.length_nil] at h2
  have := h.2.2
  omega
theorem impl_Names_ev (l : List UInt8) : Ev (fun k => impl_Names.f k (mk l)) (if pth l = true then pcs 47 [] l else []) := by
  have hs : ((mk l).size : Int) = l.length := by rw [mk_size]
  simp only [impl_Names.f, hs]
  by_cases h : 168 < (l.length : Int)
  · have : ¬ pth l = true := fun e => by have := pth_small e; omega
    rw [if_neg this]
    exact Ev.ret fun k => by rw [if_pos h]
  · have h2 := pcs_size 47 l []
    have h3 := (pcs_len 47 l []).1
    simp only [List.length_nil] at h2
    have hS : strings_Split.f (mk l) (⟨#[47]⟩ : ByteArray) = some (pcs 47 [] l) := Split_mk 47 l (by omega)
    simp only [if_neg h, hS, bnd]
    unfold pth pOk
    rw [decide_eq_true (by omega : (l.length : Int) ≤ 200), Bool.true_and]
    by_cases h4 : 8 < ((pcs 47 [] l).length : Int)
    · rw [decide_eq_false (by omega), Bool.and_false, if_neg (by decide)]
      exact Ev.ret fun k => by rw [if_pos h4]
    · rw [decide_eq_true (by omega), Bool.and_true]
      exact (impl_Names_l0 (pcs 47 [] l) (by omega) (by omega) (pcs 47 [] l) [] 0 rfl rfl).congr fun k => by rw [if_neg h4]
theorem impl_Path (l : List UInt8) : Ev (fun k => impl_PathOk.f k (mk l)) (pth l) := by
  simp only [impl_PathOk.f]
  refine Ev.bind (impl_Names_ev l) (Ev.ret fun k => ?_)
  have := (pcs_len 47 l []).2
  by_cases h : pth l = true
  · rw [if_pos h, h]; simp; omega
  · rw [if_neg h, Bool.eq_false_iff.2 h]; simp
theorem spec_Path' (l : List UInt8) : Ev (fun k => spec_PathOk.f k (mk l)) (pth l) := spec_Path l
/-! ### nodes -/
theorem nl_l1 (n : GNode) (l : List UInt8) (hl : l.length ≤ 1000000000) (hT : n.Target = mk l) (suf : List UInt8) : ∀ (A : List UInt8) (i : Int), l = A ++ suf → i = A.length → Ev (fun k => spec_NodeOk.l1 k n i) (!decide ((10 : UInt8) ∈ suf)) := by
  have hs : (n.Target.size : Int) = l.length := by rw [hT, mk_size]
  induction suf with
  | nil =>
    intro A i h hi
    have hA : (l.length : Int) = A.length := by rw [h]; simp
    refine Ev.at fun k => ?_
    simp (disch := omega) only [spec_NodeOk.l1, if_neg]
    simp
  | cons c t ih =>
    intro A i h hi
    have hA : (l.length : Int) = A.length + t.length + 1 := by rw [h]; simp; omega
    have hg : std.sget n.Target i = c.toNat := by rw [hT, h]; exact mk_get A c t hi
    by_cases hc : c = 10
    · subst hc
      have hg' : std.sget n.Target i = 10 := hg
      refine Ev.at fun k => ?_
      simp (disch := omega) only [spec_NodeOk.l1, if_pos]
      simp
    · have hg' : std.sget n.Target i ≠ 10 := by rw [hg]; exact u8_ne hc
      have hi2 := ih (A ++ [c]) (i + 1) (by rw [h]; simp) (by simp; omega)
      have e : (!decide ((10 : UInt8) ∈ c :: t)) = !decide ((10 : UInt8) ∈ t) := by
        have : ¬ (10 : UInt8) = c := fun e => hc e.symm
        simp [this]
      rw [e]
      refine Ev.step (fun k => ?_) hi2
      simp (disch := omega) only [spec_NodeOk.l1, if_pos, if_neg, w64]
/-- A node that is right, for both. -/
def nOk (n : GNode) : Bool := pth n.Path.data.toList && (decide (0 ≤ n.Mode ∧ n.Mode ≤ 511) && (decide (0 ≤ n.Time ∧ n.Time ≤ 1000000000) &&
  (if n.Kind = 0 then decide (n.Data = (⟨#[]⟩ : ByteArray)) && (decide (n.Target = (⟨#[]⟩ : ByteArray)) && decide (n.Group = 0))
   else if n.Kind = 1 then decide ((n.Data.size : Int) ≤ 20000) && (decide (n.Target = (⟨#[]⟩ : ByteArray)) && decide (0 ≤ n.Group ∧ n.Group ≤ 200))
   else if n.Kind = 2 then decide (n.Data = (⟨#[]⟩ : ByteArray)) && (decide (n.Mode = 0) && (decide (n.Group = 0) && (decide (1 ≤ (n.Target.size : Int) ∧ (n.Target.size : Int) ≤ 60) && !decide ((10 : UInt8) ∈ n.Target.data.toList))))
   else false)))
theorem Ev.iteB {α : Type} {b : Bool} {f g : Nat → Option α} {v : α} (h1 : b = true → Ev f v) (h2 : b = false → Ev g v) : Ev (fun k => if b = true then f k else g k) v := by
  cases b with
  | true => exact (h1 rfl).congr fun k => by rw [if_pos rfl]
  | false => exact (h2 rfl).congr fun k => by rw [if_neg (by decide)]
theorem Ev.iteP {α : Type} {c : Prop} [Decidable c] {f g : Nat → Option α} {v : α} (h1 : c → Ev f v) (h2 : ¬ c → Ev g v) : Ev (fun k => if c then f k else g k) v := by
  by_cases h : c
  · exact (h1 h).congr fun k => by rw [if_pos h]
  · exact (h2 h).congr fun k => by rw [if_neg h]
theorem Ev.bool {c : Prop} [Decidable c] {b : Bool} {f g : Nat → Option Bool} (h1 : c → Ev f b) (h2 : ¬ c → Ev g false) : Ev (fun k => if c then f k else g k) (decide c && b) := by
  by_cases h : c
  · rw [decide_eq_true h, Bool.true_and]; exact (h1 h).congr fun k => by rw [if_pos h]
  · rw [decide_eq_false h, Bool.false_and]; exact (h2 h).congr fun k => by rw [if_neg h]
theorem Ev.boolB {a b : Bool} {f g : Nat → Option Bool} (h1 : a = true → Ev f b) (h2 : a = false → Ev g false) : Ev (fun k => if a = true then f k else g k) (a && b) := by
  cases a with
  | true => exact (h1 rfl).congr fun k => by rw [if_pos rfl]
  | false => exact (h2 rfl).congr fun k => by rw [if_neg (by decide)]
theorem Ev.sm {α : Type} {v : α} : Ev (fun _ => some v) v := Ev.ret fun _ => rfl
theorem spec_Node (n : GNode) : Ev (fun k => spec_NodeOk.f k n) (nOk n) := by
  have hp := spec_Path' n.Path.data.toList
  rw [mk_self] at hp
  simp only [spec_NodeOk.f, l01In_eq, bnd]
  refine Ev.bind hp (Ev.boolB (fun _ => ?_) fun _ => Ev.sm)
  refine Ev.boolB (fun _ => ?_) fun _ => Ev.sm
  refine Ev.boolB (fun _ => ?_) fun _ => Ev.sm
  by_cases k0 : n.Kind = 0
  · simp only [if_pos k0]
    exact Ev.bool (fun _ => Ev.bool (fun _ => Ev.sm) fun _ => Ev.sm) fun _ => Ev.sm
  · simp only [if_neg k0]
    by_cases k1 : n.Kind = 1
    · simp only [if_pos k1]
      exact Ev.bool (fun _ => Ev.bool (fun _ => Ev.sm) fun _ => Ev.sm) fun _ => Ev.sm
    · simp only [if_neg k1]
      by_cases k2 : n.Kind = 2
      · simp only [if_pos k2]
        refine Ev.bool (fun _ => Ev.bool (fun _ => Ev.bool (fun _ => Ev.boolB (fun ht => ?_) fun _ => Ev.sm) fun _ => Ev.sm) fun _ => Ev.sm) fun _ => Ev.sm
        have ht := of_decide_eq_true ht
        have e := ba_len n.Target
        exact nl_l1 n n.Target.data.toList (by omega) (mk_self _).symm n.Target.data.toList [] 0 rfl rfl
      · simp only [if_neg k2]
        exact Ev.sm
theorem impl_Node (n : GNode) : Ev (fun k => impl_NodeOk.f k n) (nOk n) := by
  have hp := impl_Path n.Path.data.toList
  rw [mk_self] at hp
  have hC : strings_Contains.f n.Target (⟨#[10]⟩ : ByteArray) = some (decide ((10 : UInt8) ∈ n.Target.data.toList)) := by
    have := Contains_mk 10 n.Target.data.toList
    rwa [mk_self] at this
  simp only [impl_NodeOk.f, within_eq, bnd, hC]
  refine Ev.bind hp (Ev.boolB (fun _ => ?_) fun _ => Ev.sm)
  refine Ev.boolB (fun _ => ?_) fun _ => Ev.sm
  refine Ev.boolB (fun _ => ?_) fun _ => Ev.sm
  by_cases k0 : n.Kind = 0
  · simp only [if_pos k0]
    exact Ev.bool (fun _ => Ev.bool (fun _ => Ev.sm) fun _ => Ev.sm) fun _ => Ev.sm
  · simp only [if_neg k0]
    by_cases k1 : n.Kind = 1
    · simp only [if_pos k1]
      exact Ev.bool (fun _ => Ev.bool (fun _ => Ev.sm) fun _ => Ev.sm) fun _ => Ev.sm
    · simp only [if_neg k1]
      by_cases k2 : n.Kind = 2
      · simp only [if_pos k2]
        exact Ev.bool (fun _ => Ev.bool (fun _ => Ev.bool (fun _ => Ev.boolB (fun _ => Ev.sm) fun _ => Ev.sm) fun _ => Ev.sm) fun _ => Ev.sm) fun _ => Ev.sm
      · simp only [if_neg k2]
        exact Ev.sm
end Go.I

/-! GIQEc -/
set_option linter.unusedVariables false
set_option linter.unusedSimpArgs false
set_option maxRecDepth 100000
set_option maxHeartbeats 4000000
namespace Go.I
open Go
/-! ### what two texts have in common -/
def cmL : List UInt8 → List UInt8 → Nat
  | a :: s, b :: t => if a = b then cmL s t + 1 else 0
  | _, _ => 0
theorem cmL_le : ∀ s t : List UInt8, cmL s t ≤ s.length ∧ cmL s t ≤ t.length
  | [], t => by simp [cmL]
  | a :: s, [] => by simp [cmL]
  | a :: s, b :: t => by
    unfold cmL
    split
    · have := cmL_le s t; simp; omega
    · simp
theorem cmL_take : ∀ s t : List UInt8, s.take (cmL s t) = t.take (cmL s t)
  | [], t => by simp [cmL]
  | a :: s, [] => by simp [cmL]
  | a :: s, b :: t => by
    unfold cmL
    split
    · rename_i h; subst h; simp [cmL_take s t]
    · simp
theorem common_l0 : ∀ (s t A : List UInt8) (i : Int), i = A.length → (A ++ s).length ≤ 1000000000 → (A ++ t).length ≤ 1000000000 →
    Ev (fun k => impl_common.l0 k (mk (A ++ s)) (mk (A ++ t)) i) (i + cmL s t) ∧ Ev (fun k => spec_l12Common.l0 k (mk (A ++ s)) (mk (A ++ t)) i) (i + cmL s t)
  | [], t, A, i, hi, h1, h2 => by
    have hs : ((mk (A ++ [])).size : Int) = A.length := by rw [mk_size]; simp
    have hlt : ¬ i < (A.length : Int) := by omega
    simp only [cmL]
    refine ⟨Ev.at fun k => ?_, Ev.at fun k => ?_⟩
    · simp only [impl_common.l0, hs, if_neg hlt]; simp
    · simp only [spec_l12Common.l0, hs, if_neg hlt]; simp
  | a :: s, [], A, i, hi, h1, h2 => by
    have hs : ((mk (A ++ [])).size : Int) = A.length := by rw [mk_size]; simp
    have hs2 : ((mk (A ++ a :: s)).size : Int) = A.length + s.length + 1 := by rw [mk_size]; simp; omega
    have hlt : ¬ i < (A.length : Int) := by omega
    simp only [cmL]
    refine ⟨Ev.at fun k => ?_, Ev.at fun k => ?_⟩
    · simp (disch := omega) only [impl_common.l0, hs, hs2, if_neg hlt, if_pos]; simp
    · simp (disch := omega) only [spec_l12Common.l0, hs, hs2, if_neg hlt, if_pos]; simp
  | a :: s, b :: t, A, i, hi, h1, h2 => by
    have hs : ((mk (A ++ b :: t)).size : Int) = A.length + t.length + 1 := by rw [mk_size]; simp; omega
    have hs2 : ((mk (A ++ a :: s)).size : Int) = A.length + s.length + 1 := by rw [mk_size]; simp; omega
    have g1 := mk_get A a s hi
    have g2 := mk_get A b t hi
    simp only [List.length_append, List.length_cons] at h1 h2
    unfold cmL
    by_cases h : a = b
    · subst h
      rw [if_pos rfl]
      obtain ⟨r1, r2⟩ := common_l0 s t (A ++ [a]) (i + 1) (by simp; omega) (by simp; omega) (by simp; omega)
      simp only [List.append_assoc, List.singleton_append] at r1 r2
      have e : i + ((cmL s t + 1 : Nat) : Int) = i + 1 + (cmL s t : Int) := by omega
      rw [e]
      refine ⟨Ev.step (fun k => ?_) r1, Ev.step (fun k => ?_) r2⟩
      · simp (disch := omega) only [impl_common.l0, hs, hs2, g1, g2, if_pos, w64]; rfl
      · simp (disch := omega) only [spec_l12Common.l0, hs, hs2, g1, g2, if_pos, w64]; rfl
    · rw [if_neg h]
      have hne : ¬ (a.toNat : Int) = b.toNat := u8_ne h
      refine ⟨Ev.at fun k => ?_, Ev.at fun k => ?_⟩
      · simp (disch := omega) only [impl_common.l0, hs, hs2, g1, g2, if_pos, if_neg hne]; simp
      · simp (disch := omega) only [spec_l12Common.l0, hs, hs2, g1, g2, if_pos, if_neg hne]; simp
def cm (a b : ByteArray) : Nat := cmL a.data.toList b.data.toList
theorem common_ev (a b : ByteArray) (h1 : a.size ≤ 1000000000) (h2 : b.size ≤ 1000000000) : Ev (fun k => impl_common.f k a b) (cm a b : Int) ∧ Ev (fun k => spec_l12Common.f k a b) (cm a b : Int) := by
  obtain ⟨r1, r2⟩ := common_l0 a.data.toList b.data.toList [] 0 rfl (by rw [List.nil_append, ba_len]; exact h1) (by rw [List.nil_append, ba_len]; exact h2)
  rw [List.nil_append, List.nil_append, mk_self, mk_self, Int.zero_add] at r1 r2
  exact ⟨r1, r2⟩
theorem cm_le (a b : ByteArray) : cm a b ≤ a.size ∧ cm a b ≤ b.size := by
  have := cmL_le a.data.toList b.data.toList
  rw [ba_len, ba_len] at this
  exact this
/-- What is left of a path behind what it has in common. -/
def restL (a b : ByteArray) : List UInt8 := b.data.toList.drop (cm a b)
theorem rest_ext (a b : ByteArray) : b.extract (cm a b) b.size = mk (restL a b) := by
  apply ByteArray.ext
  simp only [ByteArray.data_extract, restL, mk]
  have h := ba_len b
  apply Array.toList_inj.1
  simp [Array.toList_extract, List.extract_eq_take_drop]
  rw [List.take_of_length_le]
  rw [List.length_drop, h]
  exact Nat.le_refl _
theorem rest_len (a b : ByteArray) : (restL a b).length = b.size - cm a b := by unfold restL; rw [List.length_drop, ba_len]
theorem join_rest (a b : ByteArray) : a.extract 0 (cm a b) ++ mk (restL a b) = b := by
  have h := cmL_take a.data.toList b.data.toList
  have e : a.extract 0 (cm a b) = mk (b.data.toList.take (cm a b)) := by
    apply ByteArray.ext
    apply Array.toList_inj.1
    simp only [ByteArray.data_extract, Array.toList_extract, List.extract_eq_take_drop, mk]
    simpa [cm] using h
  rw [e, mk_app]
  unfold restL
  rw [List.take_append_drop, mk_self]
end Go.I

/-! GIQEd -/
set_option linter.unusedVariables false
set_option linter.unusedSimpArgs false
set_option maxRecDepth 100000
set_option maxHeartbeats 4000000
namespace Go.I
open Go
theorem Ev.up {α : Type} {f : Nat → Option α} {v : α} (h : Ev (fun k => f (k + 1)) v) : Ev f v := by
  obtain ⟨K, hK⟩ := h
  refine ⟨K + 1, fun k hk => ?_⟩
  obtain ⟨j, rfl⟩ : ∃ j, k = j + 1 := ⟨k - 1, by omega⟩
  exact hK j (by omega)
theorem Ev.guard {α : Type} {c : Prop} [Decidable c] {f : Nat → Option α} {v : α} (hc : c) (h : Ev f v) : Ev (fun k => if c then f k else none) v := h.congr fun k => by rw [if_pos hc]
/-! ### entries -/
abbrev E0 : GEntry := ⟨(⟨#[]⟩ : ByteArray), 0, 0, 0, 0, (⟨#[]⟩ : ByteArray), 0⟩
def nodeOf (e : GEntry) : GNode := ⟨e.Path, e.Kind, e.Mode, e.Time, (⟨#[]⟩ : ByteArray), e.Target, e.Group⟩
def eOk (e : GEntry) : Bool := nOk (nodeOf e) && (decide (0 ≤ e.Size ∧ e.Size ≤ 20000) && (decide (e.Kind = 1) || decide (e.Size = 0)))
theorem impl_isEntry_ev (e : GEntry) : Ev (fun k => impl_isEntry.f k e) (eOk e) := by
  simp only [impl_isEntry.f, within_eq, bnd]
  refine Ev.bind (impl_Node (nodeOf e)) (Ev.boolB (fun _ => Ev.boolB (fun _ => ?_) fun _ => Ev.sm) fun _ => Ev.sm)
  by_cases h : e.Kind = 1
  · exact Ev.ret fun k => by rw [if_pos h]; simp [h]
  · exact Ev.ret fun k => by rw [if_neg h]; simp [h]
def bef : Option GEntry → GEntry → Bool
  | none, _ => true
  | some q, e => std.slt q.Path e.Path
def ords : Option GEntry → List GEntry → Bool
  | _, [] => true
  | p, e :: t => eOk e && (bef p e && ords (some e) t)
def EOk (l : List GEntry) : Bool := decide ((l.length : Int) ≤ 200) && ords none l
theorem eOk_facts {e : GEntry} (h : eOk e = true) : e.Path.size ≤ 168 ∧ (0 ≤ e.Mode ∧ e.Mode ≤ 511) ∧ (0 ≤ e.Time ∧ e.Time ≤ 1000000000) ∧ (0 ≤ e.Group ∧ e.Group ≤ 200) ∧ e.Target.size ≤ 60 ∧ (0 ≤ e.Size ∧ e.Size ≤ 20000) ∧ (e.Kind = 0 ∨ e.Kind = 1 ∨ e.Kind = 2) := by
  unfold eOk at h
  simp only [Bool.and_eq_true, decide_eq_true_eq] at h
  have hs := h.2.1
  have h := h.1
  unfold nOk nodeOf at h
  simp only [Bool.and_eq_true, decide_eq_true_eq] at h
  obtain ⟨h1, h2, h3, h4⟩ := h
  have h1 := pth_small h1
  rw [ba_len] at h1
  have hz : (⟨#[]⟩ : ByteArray).size = 0 := rfl
  refine ⟨h1, h2, h3, ?_⟩
  split at h4
  · rename_i hk
    simp only [Bool.and_eq_true, decide_eq_true_eq] at h4
    rw [h4.2.1, h4.2.2, hz]
    exact ⟨by decide, by decide, hs, .inl hk⟩
  · split at h4
    · rename_i hk
      simp only [Bool.and_eq_true, decide_eq_true_eq] at h4
      rw [h4.2.1, hz]
      exact ⟨h4.2.2, by decide, hs, .inr (.inl hk)⟩
    · split at h4
      · rename_i hk
        simp only [Bool.and_eq_true, decide_eq_true_eq] at h4
        obtain ⟨a, b, c, d, _⟩ := h4
        rw [c]
        exact ⟨by decide, by omega, hs, .inr (.inr hk)⟩
      · cases h4
/-- What stands ahead. -/
def Ahead (A : List GEntry) (p : Option GEntry) : Prop := (A = [] ∧ p = none) ∨ ∃ A' q, A = A' ++ [q] ∧ p = some q
theorem ahead_next {A : List GEntry} {e : GEntry} : Ahead (A ++ [e]) (some e) := .inr ⟨A, e, rfl, rfl⟩
theorem impl_Ok_l0 (L : List GEntry) (hL : L.length ≤ 1000000) (suf : List GEntry) : ∀ (A : List GEntry) (p : Option GEntry) (i : Int), L = A ++ suf → i = A.length → Ahead A p → Ev (fun k => impl_EntriesOk.l0 k L i) (ords p suf) := by
  induction suf with
  | nil =>
    intro A p i h hi hp
    have hA : (L.length : Int) = A.length := by rw [h]; simp
    have hlt : ¬ i < (L.length : Int) := by omega
    refine Ev.at fun k => ?_
    simp only [impl_EntriesOk.l0, if_neg hlt, ords]
  | cons e t ih =>
    intro A p i h hi hp
    have hA : (L.length : Int) = A.length + t.length + 1 := by rw [h]; simp; omega
    have hg : L.getD i.toNat (⟨(⟨#[]⟩ : ByteArray), 0, 0, 0, 0, (⟨#[]⟩ : ByteArray), 0⟩ : GEntry) = e := by rw [h]; exact get_mid A e _ t hi
    have hn := ih (A ++ [e]) (some e) (i + 1) (by rw [h]; simp) (by simp; omega) ahead_next
    have w1 : IntKind.wrap .i64 (i + 1) = i + 1 := w64 (by omega) (by omega)
    have c1 : i < (L.length : Int) := by omega
    have c0 : 0 ≤ i := by omega
    refine Ev.up ?_
    simp only [impl_EntriesOk.l0, hg, if_pos c1, if_pos c0, w1]
    unfold ords
    refine Ev.bind ((impl_isEntry_ev e)) (Ev.boolB (fun _ => ?_) fun _ => Ev.sm)
    rcases hp with ⟨rfl, rfl⟩ | ⟨A', q, rfl, rfl⟩
    · have hi0 : ¬ 0 < i := by simp at hi; omega
      simp only [if_neg hi0, bef, Bool.true_and]
      exact hn
    · have hi0 : 0 < i := by simp at hi; omega
      have w2 : IntKind.wrap .i64 (i - 1) = i - 1 := w64 (by omega) (by omega)
      have hg2 : L.getD (i - 1).toNat (⟨(⟨#[]⟩ : ByteArray), 0, 0, 0, 0, (⟨#[]⟩ : ByteArray), 0⟩ : GEntry) = q := by rw [h, List.append_assoc]; exact get_mid A' q _ _ (by simp at hi; omega)
      have c2 : 0 ≤ i - 1 := by omega
      have c3 : i - 1 < (L.length : Int) := by omega
      simp only [if_pos hi0, w2, hg2, if_pos c2, if_pos c3, bef]
      exact Ev.boolB (fun _ => hn) fun _ => Ev.sm
theorem impl_Ok (L : List GEntry) : Ev (fun k => impl_EntriesOk.f k L) (EOk L) := by
  simp only [impl_EntriesOk.f]
  unfold EOk
  by_cases h : 200 < (L.length : Int)
  · exact Ev.ret fun k => by rw [if_pos h, decide_eq_false (by omega), Bool.false_and]
  · rw [decide_eq_true (by omega), Bool.true_and]
    simp only [if_neg h]
    exact impl_Ok_l0 L (by omega) L [] none 0 rfl rfl (.inl ⟨rfl, rfl⟩)
theorem spec_Ok_l0 (L : List GEntry) (hL : L.length ≤ 1000000) (suf : List GEntry) : ∀ (A : List GEntry) (p : Option GEntry) (i : Int), L = A ++ suf → i = A.length → Ahead A p → Ev (fun k => spec_EntriesOk.l0 k L i) (ords p suf) := by
  induction suf with
  | nil =>
    intro A p i h hi hp
    have hA : (L.length : Int) = A.length := by rw [h]; simp
    have hlt : ¬ i < (L.length : Int) := by omega
    refine Ev.at fun k => ?_
    simp only [spec_EntriesOk.l0, if_neg hlt, ords]
  | cons e t ih =>
    intro A p i h hi hp
    have hA : (L.length : Int) = A.length + t.length + 1 := by rw [h]; simp; omega
    have hg : L.getD i.toNat (⟨(⟨#[]⟩ : ByteArray), 0, 0, 0, 0, (⟨#[]⟩ : ByteArray), 0⟩ : GEntry) = e := by rw [h]; exact get_mid A e _ t hi
    have hn := ih (A ++ [e]) (some e) (i + 1) (by rw [h]; simp) (by simp; omega) ahead_next
    have w1 : IntKind.wrap .i64 (i + 1) = i + 1 := w64 (by omega) (by omega)
    have c1 : i < (L.length : Int) := by omega
    have c0 : 0 ≤ i := by omega
    have key : Ev (fun k => if 0 < i then (if 0 ≤ IntKind.wrap .i64 (i - 1) then (if IntKind.wrap .i64 (i - 1) < (L.length : Int) then (if std.slt (L.getD (IntKind.wrap .i64 (i - 1)).toNat (⟨(⟨#[]⟩ : ByteArray), 0, 0, 0, 0, (⟨#[]⟩ : ByteArray), 0⟩ : GEntry)).Path e.Path = true then spec_EntriesOk.l0 k L (i + 1) else some false) else none) else none) else spec_EntriesOk.l0 k L (i + 1)) (bef p e && ords (some e) t) := by
      rcases hp with ⟨rfl, rfl⟩ | ⟨A', q, rfl, rfl⟩
      · have hi0 : ¬ 0 < i := by simp at hi; omega
        simp only [if_neg hi0, bef, Bool.true_and]
        exact hn
      · have hi0 : 0 < i := by simp at hi; omega
        have w2 : IntKind.wrap .i64 (i - 1) = i - 1 := w64 (by omega) (by omega)
        have hg2 : L.getD (i - 1).toNat (⟨(⟨#[]⟩ : ByteArray), 0, 0, 0, 0, (⟨#[]⟩ : ByteArray), 0⟩ : GEntry) = q := by rw [h, List.append_assoc]; exact get_mid A' q _ _ (by simp at hi; omega)
        have c2 : 0 ≤ i - 1 := by omega
        have c3 : i - 1 < (L.length : Int) := by omega
        simp only [if_pos hi0, w2, hg2, if_pos c2, if_pos c3, bef]
        exact Ev.boolB (fun _ => hn) fun _ => Ev.sm
    refine Ev.up ?_
    simp only [spec_EntriesOk.l0, hg, if_pos c1, if_pos c0, w1, l01In_eq, bnd]
    unfold ords
    have hN := spec_Node (nodeOf e)
    unfold eOk
    rw [Bool.and_assoc, Bool.and_assoc]
    refine Ev.bind hN (Ev.boolB (fun _ => Ev.boolB (fun _ => ?_) fun _ => Ev.sm) fun _ => Ev.sm)
    by_cases hk : e.Kind = 1
    · simp only [if_pos hk, decide_eq_true hk, Bool.true_or, Bool.true_and]
      exact key
    · simp only [if_neg hk, decide_eq_false hk, Bool.false_or]
      exact Ev.bool (fun _ => key) fun _ => Ev.sm
theorem spec_Ok (L : List GEntry) : Ev (fun k => spec_EntriesOk.f k L) (EOk L) := by
  simp only [spec_EntriesOk.f]
  unfold EOk
  by_cases h : 200 < (L.length : Int)
  · exact Ev.ret fun k => by rw [if_pos h, decide_eq_false (by omega), Bool.false_and]
  · rw [decide_eq_true (by omega), Bool.true_and]
    simp only [if_neg h]
    exact spec_Ok_l0 L (by omega) L [] none 0 rfl rfl (.inl ⟨rfl, rfl⟩)
/-! ### their bytes -/
def nb (s : ByteArray) : List Int := std.bytesOf s
theorem nb_len (s : ByteArray) : (nb s).length = s.size := by show (s.data.toList.map _).length = _; rw [List.length_map, ba_len]
theorem nb_byt (s : ByteArray) : Byt (nb s) := by
  intro x hx
  obtain ⟨c, _, rfl⟩ := List.mem_map.1 hx
  exact u8_lt c
theorem strOf_nb (s : ByteArray) : std.strOf (nb s) = s := by
  show (⟨((s.data.toList.map fun c => (c.toNat : Int)).map fun n => UInt8.ofNat n.toNat).toArray⟩ : ByteArray) = s
  rw [List.map_map]
  conv => rhs; rw [← mk_self s]
  unfold mk
  congr 2
  conv => rhs; rw [← List.map_id s.data.toList]
  exact List.map_congr_left fun c _ => by simp
def txE (s : ByteArray) : List Int := dg s.size ++ nb s
def hdE (p : Option GEntry) (e : GEntry) : List Int := match p with
  | some q => if e.Mode = q.Mode ∧ e.Time = q.Time then dg (e.Kind + 4).toNat else dg e.Kind.toNat ++ dg e.Mode.toNat ++ dg e.Time.toNat
  | none => dg e.Kind.toNat ++ dg e.Mode.toNat ++ dg e.Time.toNat
def tlE (e : GEntry) : List Int := if e.Kind = 1 then dg e.Size.toNat ++ dg e.Group.toNat else if e.Kind = 2 then txE e.Target else []
def pth0 (p : Option GEntry) : ByteArray := match p with
  | some q => q.Path
  | none => ⟨#[]⟩
def encE (p : Option GEntry) (e : GEntry) : List Int := dg (cm (pth0 p) e.Path) ++ txE (mk (restL (pth0 p) e.Path)) ++ hdE p e ++ tlE e
def encL : Option GEntry → List GEntry → List Int
  | _, [] => []
  | p, e :: t => encE p e ++ encL (some e) t
def PEn (l : List GEntry) : List Int := dg l.length ++ encL none l
theorem dg10 (x : Int) (h : x ≤ 9223372036854775807) : (dg x.toNat).length ≤ 10 := dg_len10 _ (by omega)
theorem varI (x : Int) (h0 : 0 ≤ x) (h1 : x ≤ 9223372036854775807) : Ev (fun k => impl_varText.f k x) (std.strOf (dg x.toNat)) := by
  have := varText x.toNat (by omega)
  rwa [Int.toNat_of_nonneg h0] at this
theorem putI (x : Int) (h0 : 0 ≤ x) (h1 : x ≤ 9223372036854775807) : Ev (fun k => spec_PutVar.f k x) (dg x.toNat) := by
  have := putVar x.toNat (by omega)
  rwa [Int.toNat_of_nonneg h0] at this
theorem txE_len (s : ByteArray) (h : s.size ≤ 20000) : (txE s).length ≤ s.size + 10 := by
  unfold txE
  have := dg_len10 s.size (by omega)
  rw [List.length_append, nb_len]
  omega
theorem impl_txt (s : ByteArray) (h : s.size ≤ 20000) : Ev (fun k => impl_putText.f k s) (std.strOf (txE s)) := by
  simp only [impl_putText.f]
  have hd := dg_len10 s.size (by omega)
  refine Ev.bind (varText s.size (by omega)) (Ev.guard (by rw [str_size]; omega) (Ev.ret fun k => ?_))
  unfold txE
  rw [str_app, strOf_nb]
theorem spec_txt (s : ByteArray) (h : s.size ≤ 20000) : Ev (fun k => spec_PutText.f k s) (txE s) := by
  have hd := dg_len10 s.size (by omega)
  have hn := nb_len s
  have hlt : ¬ (20000 : Int) < s.size := by omega
  simp only [spec_PutText.f, if_neg hlt]
  refine Ev.bind (putVar s.size (by omega)) (Ev.guard (by omega) (Ev.guard ?_ Ev.sm))
  show (((dg s.size).length : Int) + ((nb s).length : Int)) * 1 ≤ _
  omega
theorem tlE_len (e : GEntry) (h : eOk e = true) : (tlE e).length ≤ 80 := by
  obtain ⟨_, _, _, hG, hT, hS, _⟩ := eOk_facts h
  unfold tlE
  split
  · have := dg10 e.Size (by omega); have := dg10 e.Group (by omega); rw [List.length_append]; omega
  · split
    · have := txE_len e.Target (by omega); omega
    · simp
theorem hdE_len (p : Option GEntry) (e : GEntry) (h : eOk e = true) : (hdE p e).length ≤ 30 := by
  obtain ⟨_, hM, hT, _, _, _, hK⟩ := eOk_facts h
  have a := dg10 (e.Kind + 4) (by omega)
  have b := dg10 e.Kind (by omega)
  have c := dg10 e.Mode (by omega)
  have d := dg10 e.Time (by omega)
  unfold hdE
  split
  · split
    · omega
    · simp; omega
  · simp; omega
theorem encE_len (p : Option GEntry) (e : GEntry) (h : eOk e = true) : (encE p e).length ≤ 310 := by
  obtain ⟨hP, _⟩ := eOk_facts h
  have a := dg_len10 (cm (pth0 p) e.Path) (by have := (cm_le (pth0 p) e.Path).2; omega)
  have r := rest_len (pth0 p) e.Path
  have b := txE_len (mk (restL (pth0 p) e.Path)) (by rw [mk_size]; omega)
  rw [mk_size] at b
  have c := hdE_len p e h
  have d := tlE_len e h
  unfold encE
  simp only [List.length_append]
  omega
end Go.I

/-! GIQEe -/
set_option linter.unusedVariables false
set_option linter.unusedSimpArgs false
set_option maxRecDepth 100000
set_option maxHeartbeats 4000000
namespace Go.I
open Go
/-! ### the program's bytes of entries -/
theorem so_size (l : List Int) : ((std.strOf l).size : Int) = l.length := by rw [str_size]
theorem impl_tl {α : Type} {v : α} {e : GEntry} (he : eOk e = true) (accL : List Int) (ha : accL.length ≤ 10000000) (next : Nat → ByteArray → Option α) (hn : Ev (fun k => next k (std.strOf (accL ++ tlE e))) v) :
    Ev (fun k => if e.Kind = 1 then (impl_varText.f k e.Size).bind fun r => (impl_varText.f k e.Group).bind fun r' => if (r.size : Int) + (r'.size : Int) ≤ 140737488351232 then (if ((std.strOf accL).size : Int) + ((r ++ r').size : Int) ≤ 140737488355328 then next k (std.strOf accL ++ (r ++ r')) else none) else none
      else if e.Kind = 2 then (impl_putText.f k e.Target).bind fun r => if ((std.strOf accL).size : Int) + (r.size : Int) ≤ 140737488355328 then next k (std.strOf accL ++ r) else none
      else next k (std.strOf accL)) v := by
  obtain ⟨_, _, _, hG, hT, hS, _⟩ := eOk_facts he
  unfold tlE at hn
  by_cases k1 : e.Kind = 1
  · have a := dg10 e.Size (by omega)
    have b := dg10 e.Group (by omega)
    simp only [if_pos k1] at hn ⊢
    refine Ev.bind (varI e.Size hS.1 (by omega)) (Ev.bind (varI e.Group hG.1 (by omega)) (Ev.guard (by rw [so_size, so_size]; omega) (Ev.guard (by rw [← str_app, so_size, so_size, List.length_append]; omega) ?_)))
    rw [← str_app, ← str_app]
    exact hn
  · by_cases k2 : e.Kind = 2
    · have a := txE_len e.Target (by omega)
      simp only [if_neg k1, if_pos k2] at hn ⊢
      refine Ev.bind (impl_txt e.Target (by omega)) (Ev.guard (by rw [so_size, so_size]; omega) ?_)
      rw [← str_app]
      exact hn
    · simp only [if_neg k1, if_neg k2, List.append_nil] at hn ⊢
      exact hn
theorem impl_hd3 {α : Type} {v : α} {e : GEntry} (he : eOk e = true) (accL : List Int) (ha : accL.length ≤ 9000000) (next : Nat → ByteArray → Option α) (hn : Ev (fun k => next k (std.strOf (accL ++ (dg e.Kind.toNat ++ dg e.Mode.toNat ++ dg e.Time.toNat)))) v) :
    Ev (fun k => (impl_varText.f k e.Kind).bind fun r => (impl_varText.f k e.Mode).bind fun r' => if (r.size : Int) + (r'.size : Int) ≤ 140737488351232 then ((impl_varText.f k e.Time).bind fun r'' => if ((r ++ r').size : Int) + (r''.size : Int) ≤ 140737488351232 then (if ((std.strOf accL).size : Int) + (((r ++ r') ++ r'').size : Int) ≤ 140737488355328 then next k (std.strOf accL ++ ((r ++ r') ++ r'')) else none) else none) else none) v := by
  obtain ⟨_, hM, hT, _, _, _, hK⟩ := eOk_facts he
  have b := dg10 e.Kind (by omega)
  have c := dg10 e.Mode (by omega)
  have d := dg10 e.Time (by omega)
  refine Ev.bind (varI e.Kind (by omega) (by omega)) (Ev.bind (varI e.Mode hM.1 (by omega)) (Ev.guard (by rw [so_size, so_size]; omega) (Ev.bind (varI e.Time hT.1 (by omega)) (Ev.guard (by rw [← str_app, so_size, so_size, List.length_append]; omega) (Ev.guard (by rw [← str_app, ← str_app, so_size, so_size, List.length_append, List.length_append]; omega) ?_)))))
  rw [← str_app, ← str_app, ← str_app]
  exact hn
theorem impl_enc_l0 (L : List GEntry) (hL : L.length ≤ 1000) (suf : List GEntry) : ∀ (A : List GEntry) (p : Option GEntry) (accL : List Int) (i : Int) (q : GEntry), L = A ++ suf → i = A.length → Ahead A p → q = p.getD E0 → ords p suf = true → accL.length + 400 * suf.length ≤ 5000000 → q.Path.size ≤ 1000000 →
    Ev (fun k => impl_entriesText.l0 k L (std.strOf accL) i q.Path q.Kind q.Mode q.Time q.Size q.Target q.Group) (std.strOf (accL ++ encL p suf)) := by
  induction suf with
  | nil =>
    intro A p accL i q h hi hp hq ho hl hqs
    have hA : (L.length : Int) = A.length := by rw [h]; simp
    have hlt : ¬ i < (L.length : Int) := by omega
    refine Ev.at fun k => ?_
    simp only [impl_entriesText.l0, if_neg hlt, encL, List.append_nil]
  | cons e t ih =>
    intro A p accL i q h hi hp hq ho hl hqs
    have hA : (L.length : Int) = A.length + t.length + 1 := by rw [h]; simp; omega
    have hg : L.getD i.toNat (⟨(⟨#[]⟩ : ByteArray), 0, 0, 0, 0, (⟨#[]⟩ : ByteArray), 0⟩ : GEntry) = e := by rw [h]; exact get_mid A e _ t hi
    unfold ords at ho
    simp only [Bool.and_eq_true] at ho
    obtain ⟨he, _, ho⟩ := ho
    obtain ⟨hP, hM, hT, hG, hTs, hS, hK⟩ := eOk_facts he
    simp only [List.length_cons] at hl
    have hel := encE_len p e he
    have hqp : q.Path = pth0 p := by subst hq; cases p <;> rfl
    have hn := ih (A ++ [e]) (some e) (accL ++ encE p e) (i + 1) e (by rw [h]; simp) (by simp; omega) ahead_next rfl ho (by rw [List.length_append]; omega) (by omega)
    have hfin : accL ++ encL p (e :: t) = accL ++ encE p e ++ encL (some e) t := by rw [encL, List.append_assoc]
    rw [hfin]
    have w1 : IntKind.wrap .i64 (i + 1) = i + 1 := w64 (by omega) (by omega)
    have w4 : IntKind.wrap .i64 (e.Kind + 4) = e.Kind + 4 := w64 (by omega) (by omega)
    have c1 : i < (L.length : Int) := by omega
    have c0 : 0 ≤ i := by omega
    have hcm := cm_le q.Path e.Path
    have hrl := rest_len q.Path e.Path
    have hdl := dg_len10 (cm q.Path e.Path) (by omega)
    have htx := txE_len (mk (restL q.Path e.Path)) (by rw [mk_size]; omega)
    rw [mk_size] at htx
    refine Ev.up ?_
    simp only [impl_entriesText.l0, hg, if_pos c1, if_pos c0, w1, w4]
    refine Ev.bind (common_ev q.Path e.Path (by omega) (by omega)).1 (Ev.guard (by omega) (Ev.guard (by omega) (Ev.guard (Int.le_refl _) ?_)))
    simp only [Int.toNat_natCast, rest_ext]
    refine Ev.bind (varText (cm q.Path e.Path) (by omega)) (Ev.bind (impl_txt (mk (restL q.Path e.Path)) (by rw [mk_size]; omega)) ?_)
    refine Ev.guard (by rw [so_size, so_size]; omega) (Ev.guard (by rw [← str_app, so_size, so_size, List.length_append]; omega) ?_)
    simp only [← str_app]
    have henc : encE p e = (dg (cm q.Path e.Path) ++ txE (mk (restL q.Path e.Path))) ++ hdE p e ++ tlE e := by unfold encE; rw [hqp]
    have hb : (accL ++ (dg (cm q.Path e.Path) ++ txE (mk (restL q.Path e.Path)))).length ≤ 6000000 := by simp only [List.length_append]; omega
    have hf2 : accL ++ encE p e = (accL ++ (dg (cm q.Path e.Path) ++ txE (mk (restL q.Path e.Path)))) ++ hdE p e ++ tlE e := by rw [henc]; simp only [List.append_assoc]
    rw [hf2] at hn ⊢
    generalize accL ++ (dg (cm q.Path e.Path) ++ txE (mk (restL q.Path e.Path))) = acc at hn hb ⊢
    have hhd := hdE_len p e he
    have three : hdE p e = dg e.Kind.toNat ++ dg e.Mode.toNat ++ dg e.Time.toNat → Ev (fun k => (impl_varText.f k e.Kind).bind fun r => (impl_varText.f k e.Mode).bind fun r' => if (r.size : Int) + (r'.size : Int) ≤ 140737488351232 then ((impl_varText.f k e.Time).bind fun r'' => if ((r ++ r').size : Int) + (r''.size : Int) ≤ 140737488351232 then (if ((std.strOf acc).size : Int) + (((r ++ r') ++ r'').size : Int) ≤ 140737488355328 then (if e.Kind = 1 then (impl_varText.f k e.Size).bind fun s => (impl_varText.f k e.Group).bind fun s' => if (s.size : Int) + (s'.size : Int) ≤ 140737488351232 then (if ((std.strOf acc ++ ((r ++ r') ++ r'')).size : Int) + ((s ++ s').size : Int) ≤ 140737488355328 then impl_entriesText.l0 k L ((std.strOf acc ++ ((r ++ r') ++ r'')) ++ (s ++ s')) (i + 1) e.Path e.Kind e.Mode e.Time e.Size e.Target e.Group else none) else none
      else if e.Kind = 2 then (impl_putText.f k e.Target).bind fun s => if ((std.strOf acc ++ ((r ++ r') ++ r'')).size : Int) + (s.size : Int) ≤ 140737488355328 then impl_entriesText.l0 k L ((std.strOf acc ++ ((r ++ r') ++ r'')) ++ s) (i + 1) e.Path e.Kind e.Mode e.Time e.Size e.Target e.Group else none
      else impl_entriesText.l0 k L (std.strOf acc ++ ((r ++ r') ++ r'')) (i + 1) e.Path e.Kind e.Mode e.Time e.Size e.Target e.Group) else none) else none) else none) (std.strOf (acc ++ hdE p e ++ tlE e ++ encL (some e) t)) := fun h3 => by
      refine impl_hd3 he acc (by omega) (fun k x => if e.Kind = 1 then (impl_varText.f k e.Size).bind fun s => (impl_varText.f k e.Group).bind fun s' => if (s.size : Int) + (s'.size : Int) ≤ 140737488351232 then (if (x.size : Int) + ((s ++ s').size : Int) ≤ 140737488355328 then impl_entriesText.l0 k L (x ++ (s ++ s')) (i + 1) e.Path e.Kind e.Mode e.Time e.Size e.Target e.Group else none) else none
        else if e.Kind = 2 then (impl_putText.f k e.Target).bind fun s => if (x.size : Int) + (s.size : Int) ≤ 140737488355328 then impl_entriesText.l0 k L (x ++ s) (i + 1) e.Path e.Kind e.Mode e.Time e.Size e.Target e.Group else none
        else impl_entriesText.l0 k L x (i + 1) e.Path e.Kind e.Mode e.Time e.Size e.Target e.Group) ?_
      rw [← h3]
      exact impl_tl he (acc ++ hdE p e) (by rw [List.length_append]; omega) (fun k x => impl_entriesText.l0 k L x (i + 1) e.Path e.Kind e.Mode e.Time e.Size e.Target e.Group) hn
    rcases hp with ⟨rfl, rfl⟩ | ⟨A', p', rfl, rfl⟩
    · have hi0 : ¬ 0 < i := by simp at hi; omega
      simp only [if_neg hi0]
      exact three rfl
    · have hi0 : 0 < i := by simp at hi; omega
      simp only [Option.getD_some] at hq
      subst hq
      simp only [if_pos hi0]
      by_cases cM : e.Mode = q.Mode
      · by_cases cT : e.Time = q.Time
        · have hh : hdE (some q) e = dg (e.Kind + 4).toNat := by unfold hdE; simp only; rw [if_pos ⟨cM, cT⟩]
          have a := dg10 (e.Kind + 4) (by omega)
          simp only [if_pos cM, if_pos cT]
          refine Ev.bind (varI (e.Kind + 4) (by omega) (by omega)) (Ev.guard (by rw [so_size, so_size]; omega) ?_)
          rw [← hh, ← str_app]
          exact impl_tl he (acc ++ hdE (some q) e) (by rw [List.length_append]; omega) (fun k x => impl_entriesText.l0 k L x (i + 1) e.Path e.Kind e.Mode e.Time e.Size e.Target e.Group) hn
        · simp only [if_pos cM, if_neg cT]
          exact three (by unfold hdE; simp only; rw [if_neg (fun h => cT h.2)])
      · simp only [if_neg cM]
        exact three (by unfold hdE; simp only; rw [if_neg (fun h => cM h.1)])
theorem impl_enc (L : List GEntry) (h : EOk L = true) : Ev (fun k => impl_entriesText.f k L) (std.strOf (PEn L)) := by
  unfold EOk at h
  simp only [Bool.and_eq_true, decide_eq_true_eq] at h
  have hd := dg_len10 L.length (by omega)
  simp only [impl_entriesText.f]
  refine Ev.bind (varText L.length (by omega)) (Ev.guard (by rw [so_size]; show 0 + _ ≤ _; omega) ?_)
  have e : (⟨#[]⟩ : ByteArray) ++ std.strOf (dg L.length) = std.strOf (dg L.length) := by rw [← str_nil, ← str_app, List.nil_append]
  rw [e]
  exact impl_enc_l0 L (by omega) L [] none (dg L.length) 0 E0 rfl rfl (.inl ⟨rfl, rfl⟩) rfl h.2 (by omega) (by decide)
end Go.I

/-! GIQEf -/
set_option linter.unusedVariables false
set_option linter.unusedSimpArgs false
set_option maxRecDepth 100000
set_option maxHeartbeats 4000000
namespace Go.I
open Go
/-! ### the reference's bytes of entries -/
theorem spec_tl {α : Type} {v : α} {e : GEntry} (he : eOk e = true) (acc : List Int) (ha : acc.length ≤ 10000000) (next : Nat → List Int → Option α) (hn : Ev (fun k => next k (acc ++ tlE e)) v) :
    Ev (fun k => if e.Kind = 1 then (spec_PutVar.f k e.Size).bind fun r => if ((acc.length : Int) + (r.length : Int)) * 1 ≤ 140737488351232 then ((spec_PutVar.f k e.Group).bind fun r' => if (((acc ++ r).length : Int) + (r'.length : Int)) * 1 ≤ 140737488351232 then next k ((acc ++ r) ++ r') else none) else none
      else if e.Kind = 2 then (spec_PutText.f k e.Target).bind fun r => if ((acc.length : Int) + (r.length : Int)) * 1 ≤ 140737488351232 then next k (acc ++ r) else none
      else next k acc) v := by
  obtain ⟨_, _, _, hG, hT, hS, _⟩ := eOk_facts he
  unfold tlE at hn
  by_cases k1 : e.Kind = 1
  · have a := dg10 e.Size (by omega)
    have b := dg10 e.Group (by omega)
    simp only [if_pos k1] at hn ⊢
    refine Ev.bind (putI e.Size hS.1 (by omega)) (Ev.guard (by omega) (Ev.bind (putI e.Group hG.1 (by omega)) (Ev.guard (by rw [List.length_append]; omega) ?_)))
    rw [List.append_assoc]
    exact hn
  · by_cases k2 : e.Kind = 2
    · have a := txE_len e.Target (by omega)
      simp only [if_neg k1, if_pos k2] at hn ⊢
      exact Ev.bind (spec_txt e.Target (by omega)) (Ev.guard (by omega) hn)
    · simp only [if_neg k1, if_neg k2, List.append_nil] at hn ⊢
      exact hn
theorem spec_hd3 {α : Type} {v : α} {e : GEntry} (he : eOk e = true) (acc : List Int) (ha : acc.length ≤ 9000000) (next : Nat → List Int → Option α) (hn : Ev (fun k => next k (acc ++ (dg e.Kind.toNat ++ dg e.Mode.toNat ++ dg e.Time.toNat))) v) :
    Ev (fun k => (spec_PutVar.f k e.Kind).bind fun r => if ((acc.length : Int) + (r.length : Int)) * 1 ≤ 140737488351232 then ((spec_PutVar.f k e.Mode).bind fun r' => if (((acc ++ r).length : Int) + (r'.length : Int)) * 1 ≤ 140737488351232 then ((spec_PutVar.f k e.Time).bind fun r'' => if ((((acc ++ r) ++ r').length : Int) + (r''.length : Int)) * 1 ≤ 140737488351232 then next k (((acc ++ r) ++ r') ++ r'') else none) else none) else none) v := by
  obtain ⟨_, hM, hT, _, _, _, hK⟩ := eOk_facts he
  have b := dg10 e.Kind (by omega)
  have c := dg10 e.Mode (by omega)
  have d := dg10 e.Time (by omega)
  refine Ev.bind (putI e.Kind (by omega) (by omega)) (Ev.guard (by omega) (Ev.bind (putI e.Mode hM.1 (by omega)) (Ev.guard (by rw [List.length_append]; omega) (Ev.bind (putI e.Time hT.1 (by omega)) (Ev.guard (by rw [List.length_append, List.length_append]; omega) ?_)))))
  simpa only [List.append_assoc] using hn
theorem spec_enc_l0 (L : List GEntry) (hL : L.length ≤ 1000) (suf : List GEntry) : ∀ (A : List GEntry) (p : Option GEntry) (accL : List Int) (i : Int) (q : GEntry), L = A ++ suf → i = A.length → Ahead A p → q = p.getD E0 → ords p suf = true → accL.length + 400 * suf.length ≤ 5000000 → q.Path.size ≤ 1000000 →
    Ev (fun k => spec_PutEntries.l0 k L accL i q.Path q.Kind q.Mode q.Time q.Size q.Target q.Group) (accL ++ encL p suf) := by
  induction suf with
  | nil =>
    intro A p accL i q h hi hp hq ho hl hqs
    have hA : (L.length : Int) = A.length := by rw [h]; simp
    have hlt : ¬ i < (L.length : Int) := by omega
    refine Ev.at fun k => ?_
    simp only [spec_PutEntries.l0, if_neg hlt, encL, List.append_nil]
  | cons e t ih =>
    intro A p accL i q h hi hp hq ho hl hqs
    have hA : (L.length : Int) = A.length + t.length + 1 := by rw [h]; simp; omega
    have hg : L.getD i.toNat (⟨(⟨#[]⟩ : ByteArray), 0, 0, 0, 0, (⟨#[]⟩ : ByteArray), 0⟩ : GEntry) = e := by rw [h]; exact get_mid A e _ t hi
    unfold ords at ho
    simp only [Bool.and_eq_true] at ho
    obtain ⟨he, _, ho⟩ := ho
    obtain ⟨hP, hM, hT, hG, hTs, hS, hK⟩ := eOk_facts he
    simp only [List.length_cons] at hl
    have hel := encE_len p e he
    have hqp : q.Path = pth0 p := by subst hq; cases p <;> rfl
    have hn := ih (A ++ [e]) (some e) (accL ++ encE p e) (i + 1) e (by rw [h]; simp) (by simp; omega) ahead_next rfl ho (by rw [List.length_append]; omega) (by omega)
    have hfin : accL ++ encL p (e :: t) = accL ++ encE p e ++ encL (some e) t := by rw [encL, List.append_assoc]
    rw [hfin]
    have w1 : IntKind.wrap .i64 (i + 1) = i + 1 := w64 (by omega) (by omega)
    have w4 : IntKind.wrap .i64 (e.Kind + 4) = e.Kind + 4 := w64 (by omega) (by omega)
    have c1 : i < (L.length : Int) := by omega
    have c0 : 0 ≤ i := by omega
    have hcm := cm_le q.Path e.Path
    have hrl := rest_len q.Path e.Path
    have hdl := dg_len10 (cm q.Path e.Path) (by omega)
    have htx := txE_len (mk (restL q.Path e.Path)) (by rw [mk_size]; omega)
    rw [mk_size] at htx
    refine Ev.up ?_
    simp only [spec_PutEntries.l0, hg, if_pos c1, if_pos c0, w1, w4]
    refine Ev.bind (common_ev q.Path e.Path (by omega) (by omega)).2 (Ev.bind (putVar (cm q.Path e.Path) (by omega)) (Ev.guard (by omega) (Ev.guard (by omega) (Ev.guard (by omega) (Ev.guard (Int.le_refl _) ?_)))))
    simp only [Int.toNat_natCast, rest_ext]
    refine Ev.bind (spec_txt (mk (restL q.Path e.Path)) (by rw [mk_size]; omega)) (Ev.guard (by rw [List.length_append]; omega) ?_)
    have henc : encE p e = (dg (cm q.Path e.Path) ++ txE (mk (restL q.Path e.Path))) ++ hdE p e ++ tlE e := by unfold encE; rw [hqp]
    have hb : (accL ++ dg (cm q.Path e.Path) ++ txE (mk (restL q.Path e.Path))).length ≤ 6000000 := by simp only [List.length_append]; omega
    have hf2 : accL ++ encE p e = (accL ++ dg (cm q.Path e.Path) ++ txE (mk (restL q.Path e.Path))) ++ hdE p e ++ tlE e := by rw [henc]; simp only [List.append_assoc]
    rw [hf2] at hn ⊢
    generalize accL ++ dg (cm q.Path e.Path) ++ txE (mk (restL q.Path e.Path)) = acc at hn hb ⊢
    have hhd := hdE_len p e he
    have three := fun (h3 : hdE p e = dg e.Kind.toNat ++ dg e.Mode.toNat ++ dg e.Time.toNat) => spec_hd3 (v := acc ++ hdE p e ++ tlE e ++ encL (some e) t) he acc (by omega) (fun k x => if e.Kind = 1 then (spec_PutVar.f k e.Size).bind fun r => if ((x.length : Int) + (r.length : Int)) * 1 ≤ 140737488351232 then ((spec_PutVar.f k e.Group).bind fun r' => if (((x ++ r).length : Int) + (r'.length : Int)) * 1 ≤ 140737488351232 then spec_PutEntries.l0 k L ((x ++ r) ++ r') (i + 1) e.Path e.Kind e.Mode e.Time e.Size e.Target e.Group else none) else none
      else if e.Kind = 2 then (spec_PutText.f k e.Target).bind fun r => if ((x.length : Int) + (r.length : Int)) * 1 ≤ 140737488351232 then spec_PutEntries.l0 k L (x ++ r) (i + 1) e.Path e.Kind e.Mode e.Time e.Size e.Target e.Group else none
      else spec_PutEntries.l0 k L x (i + 1) e.Path e.Kind e.Mode e.Time e.Size e.Target e.Group) (by
        rw [← h3]
        exact spec_tl he (acc ++ hdE p e) (by rw [List.length_append]; omega) (fun k x => spec_PutEntries.l0 k L x (i + 1) e.Path e.Kind e.Mode e.Time e.Size e.Target e.Group) hn)
    rcases hp with ⟨rfl, rfl⟩ | ⟨A', p', rfl, rfl⟩
    · have hi0 : ¬ 0 < i := by simp at hi; omega
      simp only [if_neg hi0]
      exact three rfl
    · have hi0 : 0 < i := by simp at hi; omega
      simp only [Option.getD_some] at hq
      subst hq
      simp only [if_pos hi0]
      by_cases cM : e.Mode = q.Mode
      · by_cases cT : e.Time = q.Time
        · have hh : hdE (some q) e = dg (e.Kind + 4).toNat := by unfold hdE; simp only; rw [if_pos ⟨cM, cT⟩]
          have a := dg10 (e.Kind + 4) (by omega)
          simp only [if_pos cM, if_pos cT]
          refine Ev.bind (putI (e.Kind + 4) (by omega) (by omega)) (Ev.guard (by omega) ?_)
          rw [← hh]
          exact spec_tl he (acc ++ hdE (some q) e) (by rw [List.length_append]; omega) (fun k x => spec_PutEntries.l0 k L x (i + 1) e.Path e.Kind e.Mode e.Time e.Size e.Target e.Group) hn
        · simp only [if_pos cM, if_neg cT]
          exact three (by unfold hdE; simp only; rw [if_neg (fun h => cT h.2)])
      · simp only [if_neg cM]
        exact three (by unfold hdE; simp only; rw [if_neg (fun h => cM h.1)])
theorem spec_enc (L : List GEntry) : Ev (fun k => spec_PutEntries.f k L) (if EOk L = true then PEn L else []) := by
  simp only [spec_PutEntries.f]
  refine Ev.bind (spec_Ok L) ?_
  by_cases h : EOk L = true
  · rw [if_pos h]
    simp only [if_pos h]
    unfold EOk at h
    simp only [Bool.and_eq_true, decide_eq_true_eq] at h
    have hd := dg_len10 L.length (by omega)
    exact Ev.bind (putVar L.length (by omega)) (spec_enc_l0 L (by omega) L [] none (dg L.length) 0 E0 rfl rfl (.inl ⟨rfl, rfl⟩) rfl h.2 (by omega) (by decide))
  · rw [if_neg h]
    simp only [if_neg h]
    exact Ev.sm
end Go.I

/-! GIQEg -/
set_option linter.unusedVariables false
set_option linter.unusedSimpArgs false
set_option maxRecDepth 100000
set_option maxHeartbeats 4000000
namespace Go.I
open Go
/-! ### numbers and texts, read back -/
theorem sp_dg (j : Nat) : ∀ (n : Nat) (t : List Int), n < 128 ^ (j + 1) → ∃ hs b, sp (j + 1) (dg n ++ t) = some (hs, b) ∧ val hs b = n ∧ (b = 0 → n = 0) ∧ dg n = hs ++ [b] := by
  induction j with
  | zero =>
    intro n t hn
    have h : n < 128 := by simpa using hn
    rw [dg_lt h]
    refine ⟨[], n, ?_, rfl, fun e => by omega, rfl⟩
    simp only [List.cons_append, List.nil_append, sp]
    rw [if_neg (by omega)]
  | succ j ih =>
    intro n t hn
    by_cases h : n < 128
    · rw [dg_lt h]
      refine ⟨[], n, ?_, rfl, fun e => by omega, rfl⟩
      simp only [List.cons_append, List.nil_append, sp]
      rw [if_neg (by omega)]
    · obtain ⟨hs, b, h1, h2, h3, h4⟩ := ih (n / 128) t (by rw [Nat.pow_succ] at hn; omega)
      rw [dg_ge h]
      refine ⟨(((n % 128 : Nat) : Int) + 128) :: hs, b, ?_, ?_, fun e => ?_, by rw [h4]; rfl⟩
      · show (if (128 : Int) ≤ ((n % 128 : Nat) : Int) + 128 then (sp (j + 1) (dg (n / 128) ++ t)).map (fun r => ((((n % 128 : Nat) : Int) + 128) :: r.1, r.2)) else _) = _
        rw [if_pos (by omega), h1]
        rfl
      · show ((((n % 128 : Nat) : Int) + 128) - 128) + 128 * val hs b = n
        rw [h2]
        omega
      · have := h3 e; omega
theorem gv_dg (n : Nat) (hn : n ≤ 9223372036854775807) (t : List Int) : gv (dg n ++ t) = ((n : Int), ((dg n).length : Int)) := by
  obtain ⟨hs, b, h1, h2, h3, h4⟩ := sp_dg 8 n t (by have := (by decide : (128 : Nat) ^ 9 = 9223372036854775808); omega)
  unfold gv
  rw [h1]
  simp only [fin_]
  have hc : ¬ (b = 0 ∧ hs ≠ []) := by
    rintro ⟨e, hne⟩
    have hz := h3 e
    subst hz
    rw [dg_lt (by decide)] at h4
    cases hs with
    | nil => exact hne rfl
    | cons x l => simp at h4
  rw [if_neg hc, h2, h4]
  simp
/-- What a text at the beginning is. -/
def rt (l : List Int) : ByteArray × Int := if (gv l).2 = 0 ∨ 20000 < (gv l).1 ∨ (l.length : Int) - (gv l).2 < (gv l).1 then ((⟨#[]⟩ : ByteArray), 0) else (std.strOf ((l.drop (gv l).2.toNat).take (gv l).1.toNat), (gv l).2 + (gv l).1)
theorem gv_bd (l : List Int) (hl : Byt l) : 0 ≤ (gv l).1 ∧ (gv l).1 ≤ 9223372036854775807 ∧ 0 ≤ (gv l).2 ∧ (gv l).2 ≤ l.length := by
  rcases gv_spec l hl with h | ⟨n, t, h1, h2, h3⟩
  · rw [h]; exact ⟨by decide, by decide, by decide, by simp⟩
  · rw [h1]
    have : (l.length : Int) = (dg n).length + t.length := by rw [h3]; simp
    exact ⟨by simp, by simp; omega, by simp, by simp only; omega⟩
theorem readText_ev (l : List Int) (hl : Byt l) (hll : l.length ≤ 4611686018427387904) : Ev (fun k => impl_readText.f k (std.strOf l)) (rt l) := by
  obtain ⟨a, b, c, d⟩ := gv_bd l hl
  simp only [impl_readText.f, so_size]
  refine Ev.bind (readVar l hl) ?_
  unfold rt
  generalize (gv l).1 = g1 at a b
  generalize (gv l).2 = g2 at c d
  by_cases c1 : g2 = 0
  · exact Ev.ret fun k => by rw [if_pos c1, if_pos (.inl c1)]
  · by_cases c2 : 20000 < g1
    · exact Ev.ret fun k => by rw [if_neg c1, if_pos c2, if_pos (.inr (.inl c2))]
    · have w1 : IntKind.wrap .i64 ((l.length : Int) - g2) = l.length - g2 := w64 (by omega) (by omega)
      have w2 : IntKind.wrap .i64 (g2 + g1) = g2 + g1 := w64 (by omega) (by omega)
      by_cases c3 : (l.length : Int) - g2 < g1
      · exact Ev.ret fun k => by rw [if_neg c1, if_neg c2, w1, if_pos c3, if_pos (.inr (.inr c3))]
      · refine Ev.ret fun k => ?_
        rw [if_neg c1, if_neg c2, w1, if_neg c3, w2, if_pos c, if_pos (by omega), if_pos (by omega), if_neg (by omega), str_ext]
        congr 3
        congr 1
        omega
theorem ext_drop (l : List Int) (a : Int) (h0 : 0 ≤ a) (h1 : a ≤ l.length) : std.ext l a (l.length : Int) = l.drop a.toNat := by
  show (l.drop a.toNat).take ((l.length : Int).toNat - a.toNat) = l.drop a.toNat
  rw [List.take_of_length_le]
  rw [List.length_drop]
  omega
theorem rt_bd (l : List Int) (hl : Byt l) : (rt l).1.size ≤ 20000 ∧ 0 ≤ (rt l).2 ∧ (rt l).2 ≤ l.length := by
  obtain ⟨a, b, c, d⟩ := gv_bd l hl
  unfold rt
  split
  · exact ⟨by decide, by decide, by simp⟩
  · rename_i h
    simp only [not_or] at h
    refine ⟨?_, by simp only; omega, by simp only; omega⟩
    rw [str_size, List.length_take]
    omega
theorem rt_tx (s : ByteArray) (hs : s.size ≤ 20000) (t : List Int) : rt (txE s ++ t) = (s, ((txE s).length : Int)) := by
  unfold txE rt
  have hg := gv_dg s.size (by omega) (nb s ++ t)
  rw [List.append_assoc, hg]
  have hp := dg_pos s.size
  have hn := nb_len s
  rw [if_neg (by simp only [List.length_append]; omega)]
  simp only [Int.toNat_natCast, List.drop_left, Prod.mk.injEq, List.length_append]
  refine ⟨?_, by omega⟩
  rw [← hn, List.take_left, strOf_nb]
/-! ### the program's reader -/
theorem number_tot' (l : List Int) (b : Bool) (hl : Byt l) : ∃ n l' b', Ev (fun k => impl_reader_number.f k ⟨std.strOf l, b⟩) (n, ⟨std.strOf l', b'⟩) ∧ Byt l' ∧ 0 ≤ n ∧ n ≤ 9223372036854775807 ∧ l'.length ≤ l.length := by
  obtain ⟨a, b1, c, d⟩ := gv_bd l hl
  cases b with
  | true => exact ⟨_, l, true, number_bad l hl, hl, a, b1, Nat.le_refl _⟩
  | false =>
    have h := number l hl
    unfold num at h
    split at h
    · exact ⟨0, l, true, h, hl, by decide, by decide, Nat.le_refl _⟩
    · exact ⟨_, _, _, h, hl.drop _, a, b1, by rw [List.length_drop]; omega⟩
theorem number_ok (n : Nat) (hn : n ≤ 9223372036854775807) (t : List Int) (ht : Byt t) : Ev (fun k => impl_reader_number.f k ⟨std.strOf (dg n ++ t), false⟩) ((n : Int), ⟨std.strOf t, false⟩) := by
  have hb : Byt (dg n ++ t) := fun x hx => (List.mem_append.1 hx).elim (dg_byt n x) (ht x)
  have h := number _ hb
  unfold num at h
  rw [gv_dg n hn t] at h
  have hp := dg_pos n
  rw [if_neg (by simp only; omega)] at h
  simpa using h
theorem string_tot (l : List Int) (b : Bool) (hl : Byt l) (hll : l.length ≤ 4611686018427387904) : ∃ s l' b', Ev (fun k => impl_reader_string.f k ⟨std.strOf l, b⟩) (s, ⟨std.strOf l', b'⟩) ∧ Byt l' ∧ s.size ≤ 20000 ∧ l'.length ≤ l.length := by
  obtain ⟨a, c, d⟩ := rt_bd l hl
  have h := readText_ev l hl hll
  simp only [impl_reader_string.f]
  by_cases c0 : (rt l).2 = 0
  · exact ⟨(rt l).1, l, true, Ev.bind h (Ev.ret fun k => by rw [if_pos c0, take_bad, bnd]), hl, a, Nat.le_refl _⟩
  · cases b with
    | true => exact ⟨(rt l).1, l, true, Ev.bind h (Ev.ret fun k => by rw [if_neg c0, take_bad, bnd]), hl, a, Nat.le_refl _⟩
    | false =>
      have ht := take_ok l (rt l).2.toNat (by omega)
      rw [Int.toNat_of_nonneg c] at ht
      exact ⟨(rt l).1, l.drop (rt l).2.toNat, false, Ev.bind h (Ev.ret fun k => by rw [if_neg c0, ht, bnd]), hl.drop _, a, by rw [List.length_drop]; omega⟩
theorem string_ok (s : ByteArray) (hs : s.size ≤ 20000) (t : List Int) (ht : Byt t) (hll : (txE s ++ t).length ≤ 4611686018427387904) : Ev (fun k => impl_reader_string.f k ⟨std.strOf (txE s ++ t), false⟩) (s, ⟨std.strOf t, false⟩) := by
  have hb : Byt (txE s ++ t) := fun x hx => by
    unfold txE at hx
    rcases List.mem_append.1 hx with hx | hx
    · exact (List.mem_append.1 hx).elim (dg_byt _ x) (nb_byt s x)
    · exact ht x hx
  have h := readText_ev _ hb hll
  rw [rt_tx s hs t] at h
  have hp : 0 < (txE s).length := by unfold txE; have := dg_pos s.size; rw [List.length_append]; omega
  have hne : ¬ (((txE s).length : Nat) : Int) = 0 := by omega
  have ht' := take_ok (txE s ++ t) (txE s).length (by simp)
  rw [List.drop_left] at ht'
  simp only [impl_reader_string.f]
  exact Ev.bind h (Ev.ret fun k => by simp only [if_neg hne, ht', bnd])
/-! ### the reference's reader -/
end Go.I

/-! GIQEh -/
set_option linter.unusedVariables false
set_option linter.unusedSimpArgs false
set_option maxRecDepth 100000
set_option maxHeartbeats 4000000
namespace Go.I
open Go
theorem Byt.app {a b : List Int} (ha : Byt a) (hb : Byt b) : Byt (a ++ b) := fun x hx => (List.mem_append.1 hx).elim (ha x) (hb x)
theorem byt_nil : Byt [] := fun x hx => by cases hx
theorem txE_byt (s : ByteArray) : Byt (txE s) := (dg_byt _).app (nb_byt s)
theorem hdE_byt (p : Option GEntry) (e : GEntry) : Byt (hdE p e) := by
  unfold hdE
  split
  · split
    · exact dg_byt _
    · exact ((dg_byt _).app (dg_byt _)).app (dg_byt _)
  · exact ((dg_byt _).app (dg_byt _)).app (dg_byt _)
theorem tlE_byt (e : GEntry) : Byt (tlE e) := by
  unfold tlE
  split
  · exact (dg_byt _).app (dg_byt _)
  · split
    · exact txE_byt _
    · exact byt_nil
theorem encE_byt (p : Option GEntry) (e : GEntry) : Byt (encE p e) := (((dg_byt _).app (txE_byt _)).app (hdE_byt p e)).app (tlE_byt e)
theorem encL_byt : ∀ (p : Option GEntry) (l : List GEntry), Byt (encL p l)
  | _, [] => byt_nil
  | p, e :: t => (encE_byt p e).app (encL_byt (some e) t)
theorem encL_len : ∀ (p : Option GEntry) (l : List GEntry), ords p l = true → (encL p l).length ≤ 310 * l.length
  | _, [], _ => by simp [encL]
  | p, e :: t, h => by
    unfold ords at h
    simp only [Bool.and_eq_true] at h
    have h1 := encE_len p e h.1
    have h2 := encL_len (some e) t h.2.2
    rw [encL, List.length_append, List.length_cons]
    omega
theorem cutE (a : ByteArray) (n : Int) : (a.extract (Int.toNat 0) n.toNat).size ≤ a.size := by
  rw [ByteArray.size_extract]
  omega
theorem eOk_kind {e : GEntry} (h : eOk e = true) : (e.Kind = 0 ∧ e = ⟨e.Path, 0, e.Mode, e.Time, 0, (⟨#[]⟩ : ByteArray), 0⟩) ∨ (e.Kind = 1 ∧ e = ⟨e.Path, 1, e.Mode, e.Time, e.Size, (⟨#[]⟩ : ByteArray), e.Group⟩) ∨ (e.Kind = 2 ∧ e = ⟨e.Path, 2, e.Mode, e.Time, 0, e.Target, 0⟩) := by
  unfold eOk at h
  simp only [Bool.and_eq_true, Bool.or_eq_true, decide_eq_true_eq] at h
  obtain ⟨h1, _, h2⟩ := h
  unfold nOk nodeOf at h1
  simp only [Bool.and_eq_true, decide_eq_true_eq] at h1
  obtain ⟨_, _, _, h4⟩ := h1
  obtain ⟨P, K, M, T, S, G, Gr⟩ := e
  simp only at h2 h4 ⊢
  split at h4
  · rename_i hk
    simp only [Bool.and_eq_true, decide_eq_true_eq] at h4
    obtain ⟨_, b, c⟩ := h4
    have hs : S = 0 := h2.resolve_left (by omega)
    exact .inl ⟨hk, by rw [hk, b, c, hs]⟩
  · split at h4
    · rename_i hk
      simp only [Bool.and_eq_true, decide_eq_true_eq] at h4
      exact .inr (.inl ⟨hk, by rw [hk, h4.2.1]⟩)
    · split at h4
      · rename_i hk
        simp only [Bool.and_eq_true, decide_eq_true_eq] at h4
        obtain ⟨_, b, c, _⟩ := h4
        have hs : S = 0 := h2.resolve_left (by omega)
        exact .inr (.inr ⟨hk, by rw [hk, c, hs]⟩)
      · cases h4
/-! ### the program reads an entry -/
theorem entry_tot (l : List Int) (b : Bool) (hl : Byt l) (hll : l.length ≤ 1000000000) (q : GEntry) (hq : q.Path.size ≤ 1000000000) :
    ∃ e l' b', Ev (fun k => impl_reader_entry.f k ⟨std.strOf l, b⟩ q) (e, ⟨std.strOf l', b'⟩) ∧ Byt l' ∧ e.Path.size ≤ q.Path.size + 20000 ∧ l'.length ≤ l.length := by
  obtain ⟨n, l1, b1, h1, y1, n0, n1, s1⟩ := number_tot' l b hl
  obtain ⟨s, l2, b2, h2, y2, z2, s2⟩ := string_tot l1 b1 y1 (by omega)
  have hc := cutE q.Path n
  have hz0 : (⟨#[]⟩ : ByteArray).size = 0 := rfl
  by_cases c : (q.Path.size : Int) < n
  · refine ⟨E0, l2, true, ?_, y2, by show (⟨#[]⟩ : ByteArray).size ≤ _; rw [hz0]; omega, by omega⟩
    simp only [impl_reader_entry.f]
    exact Ev.bind h1 (Ev.bind h2 (Ev.ret fun k => by simp only [if_pos c]))
  · have hsz : ((q.Path.extract (Int.toNat 0) n.toNat) ++ s).size ≤ q.Path.size + 20000 := by rw [ByteArray.size_append]; omega
    have pre : ∀ {α : Type} {f : Nat → Option α} {v : α}, Ev f v → Ev (fun k => if (q.Path.size : Int) < n then none else if 0 ≤ 0 then (if 0 ≤ n then (if n ≤ (q.Path.size : Int) then (if ((q.Path.extract (Int.toNat 0) n.toNat).size : Int) + (s.size : Int) ≤ 140737488351232 then f k else none) else none) else none) else none) v := fun h => h.congr fun k => by
      rw [if_neg c, if_pos (by decide), if_pos n0, if_pos (by omega), if_pos (by omega)]
    obtain ⟨kd, l3, b3, h3, y3, k0, k1, s3⟩ := number_tot' l2 b2 y2
    generalize hP : (q.Path.extract (Int.toNat 0) n.toNat) ++ s = path at hsz
    have go : ∃ e l' b', Ev (fun k => (impl_reader_number.f k ⟨std.strOf l2, b2⟩).bind fun r2 => (if r2.1 < 4 then ((impl_reader_number.f k r2.2).bind fun r3 => ((impl_reader_number.f k r3.2).bind fun r4 => (if r2.1 = 1 then ((impl_reader_number.f k r4.2).bind fun r5 => ((impl_reader_number.f k r5.2).bind fun r6 => (some ((⟨path, r2.1, r3.1, r4.1, r5.1, (⟨#[]⟩ : ByteArray), r6.1⟩ : GEntry), r6.2)))) else (if r2.1 = 2 then ((impl_reader_string.f k r4.2).bind fun r7 => (some ((⟨path, r2.1, r3.1, r4.1, 0, r7.1, 0⟩ : GEntry), r7.2))) else (some ((⟨path, r2.1, r3.1, r4.1, 0, (⟨#[]⟩ : ByteArray), 0⟩ : GEntry), r4.2)))))) else (if (IntKind.wrap .i64 (r2.1 - 4)) = 1 then ((impl_reader_number.f k r2.2).bind fun r8 => ((impl_reader_number.f k r8.2).bind fun r9 => (some ((⟨path, (IntKind.wrap .i64 (r2.1 - 4)), q.Mode, q.Time, r8.1, (⟨#[]⟩ : ByteArray), r9.1⟩ : GEntry), r9.2)))) else (if (IntKind.wrap .i64 (r2.1 - 4)) = 2 then ((impl_reader_string.f k r2.2).bind fun r10 => (some ((⟨path, (IntKind.wrap .i64 (r2.1 - 4)), q.Mode, q.Time, 0, r10.1, 0⟩ : GEntry), r10.2))) else (some ((⟨path, (IntKind.wrap .i64 (r2.1 - 4)), q.Mode, q.Time, 0, (⟨#[]⟩ : ByteArray), 0⟩ : GEntry), r2.2)))))) (e, ⟨std.strOf l', b'⟩) ∧ Byt l' ∧ e.Path = path ∧ l'.length ≤ l2.length := by
      by_cases c4 : kd < 4
      · obtain ⟨m, l4, b4, h4, y4, _, _, s4⟩ := number_tot' l3 b3 y3
        obtain ⟨tm, l5, b5, h5, y5, _, _, s5⟩ := number_tot' l4 b4 y4
        by_cases c1 : kd = 1
        · obtain ⟨u, l6, b6, h6, y6, _, _, s6⟩ := number_tot' l5 b5 y5
          obtain ⟨w, l7, b7, h7, y7, _, _, s7⟩ := number_tot' l6 b6 y6
          exact ⟨_, l7, b7, Ev.bind h3 (by simp only [if_pos c4, if_pos c1]; exact Ev.bind h4 (Ev.bind h5 (Ev.bind h6 (Ev.bind h7 (Ev.ret fun k => rfl))))), y7, rfl, by omega⟩
        · by_cases c2 : kd = 2
          · obtain ⟨u, l6, b6, h6, y6, _, s6⟩ := string_tot l5 b5 y5 (by omega)
            exact ⟨_, l6, b6, Ev.bind h3 (by simp only [if_pos c4, if_neg c1, if_pos c2]; exact Ev.bind h4 (Ev.bind h5 (Ev.bind h6 (Ev.ret fun k => rfl)))), y6, rfl, by omega⟩
          · exact ⟨_, l5, b5, Ev.bind h3 (by simp only [if_pos c4, if_neg c1, if_neg c2]; exact Ev.bind h4 (Ev.bind h5 (Ev.ret fun k => rfl))), y5, rfl, by omega⟩
      · by_cases c1 : (IntKind.wrap .i64 (kd - 4)) = 1
        · obtain ⟨u, l6, b6, h6, y6, _, _, s6⟩ := number_tot' l3 b3 y3
          obtain ⟨w, l7, b7, h7, y7, _, _, s7⟩ := number_tot' l6 b6 y6
          exact ⟨_, l7, b7, Ev.bind h3 (by simp only [if_neg c4, if_pos c1]; exact Ev.bind h6 (Ev.bind h7 (Ev.ret fun k => rfl))), y7, rfl, by omega⟩
        · by_cases c2 : (IntKind.wrap .i64 (kd - 4)) = 2
          · obtain ⟨u, l6, b6, h6, y6, _, s6⟩ := string_tot l3 b3 y3 (by omega)
            exact ⟨_, l6, b6, Ev.bind h3 (by simp only [if_neg c4, if_neg c1, if_pos c2]; exact Ev.bind h6 (Ev.ret fun k => rfl)), y6, rfl, by omega⟩
          · exact ⟨_, l3, b3, Ev.bind h3 (by simp only [if_neg c4, if_neg c1, if_neg c2]; exact Ev.ret fun k => rfl), y3, rfl, by omega⟩
    obtain ⟨e, l', b', hgo, hy, hp, hs⟩ := go
    refine ⟨e, l', b', ?_, hy, by rw [hp]; exact hsz, by omega⟩
    simp only [impl_reader_entry.f]
    refine Ev.bind h1 (Ev.bind h2 ?_)
    simp only [if_neg c]
    subst hP
    exact Ev.guard (by decide) (Ev.guard n0 (Ev.guard (by omega) (Ev.guard (by omega) hgo)))
theorem number_okI (x : Int) (h0 : 0 ≤ x) (h1 : x ≤ 9223372036854775807) (t : List Int) (ht : Byt t) : Ev (fun k => impl_reader_number.f k ⟨std.strOf (dg x.toNat ++ t), false⟩) (x, ⟨std.strOf t, false⟩) := by
  have := number_ok x.toNat (by omega) t ht
  rwa [Int.toNat_of_nonneg h0] at this
theorem entry_ok (p : Option GEntry) (q e : GEntry) (hq : q = p.getD E0) (he : eOk e = true) (hqs : q.Path.size ≤ 1000000) (t : List Int) (ht : Byt t) (htl : t.length ≤ 1000000000) :
    Ev (fun k => impl_reader_entry.f k ⟨std.strOf (encE p e ++ t), false⟩ q) (e, ⟨std.strOf t, false⟩) := by
  obtain ⟨hP, hM, hT, hG, hTs, hS, hK⟩ := eOk_facts he
  have hqp : q.Path = pth0 p := by subst hq; cases p <;> rfl
  have hcm := cm_le q.Path e.Path
  have hrl := rest_len q.Path e.Path
  have htx := txE_len (mk (restL q.Path e.Path)) (by rw [mk_size]; omega)
  rw [mk_size] at htx
  have hhd := hdE_len p e he
  have htl' := tlE_len e he
  have henc : encE p e ++ t = dg (cm q.Path e.Path) ++ (txE (mk (restL q.Path e.Path)) ++ (hdE p e ++ (tlE e ++ t))) := by unfold encE; rw [hqp]; simp only [List.append_assoc]
  have yt : Byt (tlE e ++ t) := (tlE_byt e).app ht
  have yh : Byt (hdE p e ++ (tlE e ++ t)) := (hdE_byt p e).app yt
  have hext : (q.Path.extract (Int.toNat 0) (Int.toNat ((cm q.Path e.Path : Nat) : Int))) ++ mk (restL q.Path e.Path) = e.Path := by simp only [Int.toNat_natCast]; exact join_rest q.Path e.Path
  have hcs := cutE q.Path ((cm q.Path e.Path : Nat) : Int)
  have hms : (mk (restL q.Path e.Path)).size = (restL q.Path e.Path).length := mk_size _
  rw [henc]
  simp only [impl_reader_entry.f]
  refine Ev.bind (number_ok (cm q.Path e.Path) (by omega) _ ((txE_byt _).app yh)) (Ev.bind (string_ok (mk (restL q.Path e.Path)) (by rw [mk_size]; omega) _ yh (by simp only [List.length_append]; omega)) ?_)
  have cn : ¬ (q.Path.size : Int) < ((cm q.Path e.Path : Nat) : Int) := by omega
  simp only [if_neg cn, hext]
  refine Ev.guard (by decide) (Ev.guard (by omega) (Ev.guard (by omega) (Ev.guard (by omega) ?_)))
  have w0 : ∀ x : Int, 0 ≤ x → x ≤ 3 → IntKind.wrap .i64 (x + 4 - 4) = x := fun x h0 h1 => by rw [w64 (by omega) (by omega)]; omega
  have c4 : ¬ e.Kind + 4 < 4 := by omega
  have c5 : e.Kind < 4 := by omega
  -- the tail
  have tail1 : e.Kind = 1 → Ev (fun k => (impl_reader_number.f k ⟨std.strOf (tlE e ++ t), false⟩).bind fun r5 => (impl_reader_number.f k r5.2).bind fun r6 => some ((⟨e.Path, e.Kind, e.Mode, e.Time, r5.1, (⟨#[]⟩ : ByteArray), r6.1⟩ : GEntry), r6.2)) (e, ⟨std.strOf t, false⟩) := fun hk => by
    have e1 : tlE e ++ t = dg e.Size.toNat ++ (dg e.Group.toNat ++ t) := by unfold tlE; rw [if_pos hk, List.append_assoc]
    rw [e1]
    refine Ev.bind (number_okI e.Size hS.1 (by omega) _ ((dg_byt _).app ht)) (Ev.bind (number_okI e.Group hG.1 (by omega) _ ht) (Ev.ret fun k => ?_))
    rcases eOk_kind he with ⟨h, _⟩ | ⟨_, h⟩ | ⟨h, _⟩
    · omega
    · simp only [hk]; rw [← h]
    · omega
  have tail2 : e.Kind = 2 → Ev (fun k => (impl_reader_string.f k ⟨std.strOf (tlE e ++ t), false⟩).bind fun r7 => some ((⟨e.Path, e.Kind, e.Mode, e.Time, 0, r7.1, 0⟩ : GEntry), r7.2)) (e, ⟨std.strOf t, false⟩) := fun hk => by
    have e1 : tlE e ++ t = txE e.Target ++ t := by unfold tlE; rw [if_neg (by omega), if_pos hk]
    have := txE_len e.Target (by omega)
    rw [e1]
    refine Ev.bind (string_ok e.Target (by omega) t ht (by simp only [List.length_append]; omega)) (Ev.ret fun k => ?_)
    rcases eOk_kind he with ⟨h, _⟩ | ⟨h, _⟩ | ⟨_, h⟩
    · omega
    · omega
    · simp only [hk]; rw [← h]
  have tail0 : e.Kind = 0 → some ((⟨e.Path, e.Kind, e.Mode, e.Time, 0, (⟨#[]⟩ : ByteArray), 0⟩ : GEntry), (⟨std.strOf (tlE e ++ t), false⟩ : GReader)) = some (e, ⟨std.strOf t, false⟩) := fun hk => by
    have e1 : tlE e ++ t = t := by unfold tlE; rw [if_neg (by omega), if_neg (by omega)]; rfl
    rw [e1]
    rcases eOk_kind he with ⟨_, h⟩ | ⟨h, _⟩ | ⟨h, _⟩
    · simp only [hk]; rw [← h]
    · omega
    · omega
  have three : hdE p e = dg e.Kind.toNat ++ dg e.Mode.toNat ++ dg e.Time.toNat → Ev (fun k => (impl_reader_number.f k ⟨std.strOf (hdE p e ++ (tlE e ++ t)), false⟩).bind fun r2 => (if r2.1 < 4 then ((impl_reader_number.f k r2.2).bind fun r3 => ((impl_reader_number.f k r3.2).bind fun r4 => (if r2.1 = 1 then ((impl_reader_number.f k r4.2).bind fun r5 => ((impl_reader_number.f k r5.2).bind fun r6 => (some ((⟨e.Path, r2.1, r3.1, r4.1, r5.1, (⟨#[]⟩ : ByteArray), r6.1⟩ : GEntry), r6.2)))) else (if r2.1 = 2 then ((impl_reader_string.f k r4.2).bind fun r7 => (some ((⟨e.Path, r2.1, r3.1, r4.1, 0, r7.1, 0⟩ : GEntry), r7.2))) else (some ((⟨e.Path, r2.1, r3.1, r4.1, 0, (⟨#[]⟩ : ByteArray), 0⟩ : GEntry), r4.2)))))) else (if (IntKind.wrap .i64 (r2.1 - 4)) = 1 then ((impl_reader_number.f k r2.2).bind fun r8 => ((impl_reader_number.f k r8.2).bind fun r9 => (some ((⟨e.Path, (IntKind.wrap .i64 (r2.1 - 4)), q.Mode, q.Time, r8.1, (⟨#[]⟩ : ByteArray), r9.1⟩ : GEntry), r9.2)))) else (if (IntKind.wrap .i64 (r2.1 - 4)) = 2 then ((impl_reader_string.f k r2.2).bind fun r10 => (some ((⟨e.Path, (IntKind.wrap .i64 (r2.1 - 4)), q.Mode, q.Time, 0, r10.1, 0⟩ : GEntry), r10.2))) else (some ((⟨e.Path, (IntKind.wrap .i64 (r2.1 - 4)), q.Mode, q.Time, 0, (⟨#[]⟩ : ByteArray), 0⟩ : GEntry), r2.2)))))) (e, ⟨std.strOf t, false⟩) := fun h3 => by
    rw [h3, List.append_assoc, List.append_assoc]
    refine Ev.bind (number_okI e.Kind (by omega) (by omega) _ ((dg_byt _).app ((dg_byt _).app yt))) ?_
    simp only [if_pos c5]
    refine Ev.bind (number_okI e.Mode hM.1 (by omega) _ ((dg_byt _).app yt)) (Ev.bind (number_okI e.Time hT.1 (by omega) _ yt) ?_)
    simp only
    by_cases k1 : e.Kind = 1
    · simp only [if_pos k1]; exact tail1 k1
    · by_cases k2 : e.Kind = 2
      · simp only [if_neg k1, if_pos k2]; exact tail2 k2
      · simp only [if_neg k1, if_neg k2]
        exact Ev.ret fun k => tail0 (by omega)
  cases p with
  | none => exact three rfl
  | some q' =>
    simp only [Option.getD_some] at hq
    subst hq
    by_cases hsame : e.Mode = q.Mode ∧ e.Time = q.Time
    · have hh : hdE (some q) e = dg (e.Kind + 4).toNat := by unfold hdE; simp only; rw [if_pos hsame]
      rw [hh]
      refine Ev.bind (number_okI (e.Kind + 4) (by omega) (by omega) _ yt) ?_
      simp only [if_neg c4, w0 e.Kind (by omega) (by omega)]
      rw [← hsame.1, ← hsame.2]
      by_cases k1 : e.Kind = 1
      · simp only [if_pos k1]; exact tail1 k1
      · by_cases k2 : e.Kind = 2
        · simp only [if_neg k1, if_pos k2]; exact tail2 k2
        · simp only [if_neg k1, if_neg k2]
          exact Ev.ret fun k => tail0 (by omega)
    · exact three (by unfold hdE; simp only; rw [if_neg hsame])
end Go.I

/-! GIQEi -/
set_option linter.unusedVariables false
set_option linter.unusedSimpArgs false
set_option maxRecDepth 100000
set_option maxHeartbeats 4000000
namespace Go.I
open Go
/-! ### the program reads entries -/
def GoodE (a : List Int) (r : List GEntry × Bool) : Prop := r = ([], false) ∨ ∃ L, r = (L, true) ∧ EOk L = true ∧ std.strOf (PEn L) = std.strOf a
theorem impl_tailE (a : List Int) (L : List GEntry) (b : Bool) : ∃ r, Ev (fun k => if b = true then some (([] : List GEntry), false) else (impl_EntriesOk.f k L).bind fun r => if r = true then (impl_entriesText.f k L).bind fun s => if s = std.strOf a then some (L, true) else some ([], false) else some ([], false)) r ∧ GoodE a r ∧ (b = false → EOk L = true → std.strOf (PEn L) = std.strOf a → r = (L, true)) := by
  cases b with
  | true => exact ⟨([], false), Ev.ret fun k => by rw [if_pos rfl], .inl rfl, fun h => by cases h⟩
  | false =>
    have hO := impl_Ok L
    simp only [Bool.false_eq_true, if_false]
    by_cases hn : EOk L = true
    · rw [hn] at hO
      have hT := impl_enc L hn
      by_cases hl : std.strOf (PEn L) = std.strOf a
      · exact ⟨(L, true), Ev.bind hO (by simp only [if_true]; exact Ev.bind hT (Ev.ret fun k => by rw [if_pos hl])), .inr ⟨L, rfl, hn, hl⟩, fun _ _ _ => rfl⟩
      · exact ⟨([], false), Ev.bind hO (by simp only [if_true]; exact Ev.bind hT (Ev.ret fun k => by rw [if_neg hl])), .inl rfl, fun _ _ h => absurd h hl⟩
    · rw [Bool.eq_false_iff.2 hn] at hO
      exact ⟨([], false), Ev.bind hO (by simp only [Bool.false_eq_true, if_false]; exact Ev.ret fun k => rfl), .inl rfl, fun _ h => absurd h hn⟩
theorem up3 {α : Type} {f : Nat → Option α} {P : α → Prop} (h : ∃ r, Ev (fun k => f (k + 1)) r ∧ P r) : ∃ r, Ev f r ∧ P r := by
  obtain ⟨r, hr, hp⟩ := h
  exact ⟨r, Ev.up hr, hp⟩
theorem impl_ents_tot (a : List Int) (r0 : Int × GReader) : ∀ (m : Nat) (L : List GEntry) (i : Int) (q : GEntry) (l : List Int) (b : Bool), i + m = 201 → 0 ≤ i → L.length + m ≤ 1000 → q.Path.size + 20000 * m ≤ 100000000 → Byt l → l.length ≤ 1000000000 →
    ∃ r, Ev (fun k => impl_GetEntries.l0 k a r0 L i q.Path q.Kind q.Mode q.Time q.Size q.Target q.Group (std.strOf l) b) r ∧ GoodE a r := by
  intro m
  induction m with
  | zero =>
    intro L i q l b hi h0 hL hq hl hll
    obtain ⟨r, h1, h2, _⟩ := impl_tailE a L b
    have c2 : ¬ i ≤ 200 := by omega
    refine up3 ⟨r, ?_, h2⟩
    by_cases c1 : i < r0.1
    · simp only [impl_GetEntries.l0, if_pos c1, if_neg c2]; exact h1
    · simp only [impl_GetEntries.l0, if_neg c1]; exact h1
  | succ m ih =>
    intro L i q l b hi h0 hL hq hl hll
    obtain ⟨r, h1, h2, _⟩ := impl_tailE a L b
    by_cases c1 : i < r0.1
    · have c2 : i ≤ 200 := by omega
      cases b with
      | true =>
        refine up3 ⟨r, ?_, h2⟩
        simp only [impl_GetEntries.l0, if_pos c1, if_pos c2, if_true]
        simpa only [if_true] using h1
      | false =>
        obtain ⟨e, l', b', h3, y3, z3, s3⟩ := entry_tot l false hl hll q (by omega)
        obtain ⟨r', h4, h5⟩ := ih (L ++ [e]) (i + 1) e l' b' (by omega) (by omega) (by simp; omega) (by omega) y3 (by omega)
        have w1 : IntKind.wrap .i64 (i + 1) = i + 1 := w64 (by omega) (by omega)
        refine up3 ⟨r', ?_, h5⟩
        simp only [impl_GetEntries.l0, if_pos c1, if_pos c2, Bool.false_eq_true, if_false, w1]
        refine Ev.bind h3 (Ev.guard (by simp; omega) h4)
    · refine up3 ⟨r, ?_, h2⟩
      simp only [impl_GetEntries.l0, if_neg c1]; exact h1
theorem impl_Get (a : List Int) (ha : Byt a) (hal : a.length ≤ 1000000000) : ∃ r, Ev (fun k => impl_GetEntries.f k a) r ∧ GoodE a r := by
  obtain ⟨n, l', b', h1, y1, _, _, s1⟩ := number_tot' a false ha
  obtain ⟨r, h2, h3⟩ := impl_ents_tot a (n, ⟨std.strOf l', b'⟩) 201 [] 0 E0 l' b' rfl (by decide) (by decide) (by decide) y1 (by omega)
  refine ⟨r, ?_, h3⟩
  simp only [impl_GetEntries.f]
  exact Ev.bind h1 h2
theorem impl_ents_ok (a : List Int) (L : List GEntry) (hL : EOk L = true) (ha : std.strOf (PEn L) = std.strOf a) (r0 : Int × GReader) (hr0 : r0.1 = L.length) (suf : List GEntry) : ∀ (A : List GEntry) (p : Option GEntry) (i : Int) (q : GEntry), L = A ++ suf → i = A.length → q = p.getD E0 → ords p suf = true → q.Path.size ≤ 1000000 →
    Ev (fun k => impl_GetEntries.l0 k a r0 A i q.Path q.Kind q.Mode q.Time q.Size q.Target q.Group (std.strOf (encL p suf)) false) (L, true) := by
  have hLl : (L.length : Int) ≤ 200 := by unfold EOk at hL; simp only [Bool.and_eq_true, decide_eq_true_eq] at hL; exact hL.1
  induction suf with
  | nil =>
    intro A p i q h hi hq ho hqs
    rw [List.append_nil] at h
    subst h
    obtain ⟨r, h1, _, h3⟩ := impl_tailE a L false
    rw [h3 rfl hL ha] at h1
    have c1 : ¬ i < r0.1 := by rw [hr0]; omega
    refine Ev.up ?_
    simp only [impl_GetEntries.l0, if_neg c1]
    exact h1
  | cons e t ih =>
    intro A p i q h hi hq ho hqs
    have hA : (L.length : Int) = A.length + t.length + 1 := by rw [h]; simp; omega
    unfold ords at ho
    simp only [Bool.and_eq_true] at ho
    obtain ⟨he, _, ho⟩ := ho
    have hP := (eOk_facts he).1
    have hel := encL_len (some e) t ho
    have hn := ih (A ++ [e]) (some e) (i + 1) e (by rw [h]; simp) (by simp; omega) rfl ho (by omega)
    have c1 : i < r0.1 := by rw [hr0]; omega
    have c2 : i ≤ 200 := by omega
    have w1 : IntKind.wrap .i64 (i + 1) = i + 1 := w64 (by omega) (by omega)
    refine Ev.up ?_
    simp only [impl_GetEntries.l0, if_pos c1, if_pos c2, Bool.false_eq_true, if_false, w1, encL]
    exact Ev.bind (entry_ok p q e hq he hqs (encL (some e) t) (encL_byt _ _) (by omega)) (Ev.guard (by simp; omega) hn)
theorem impl_Get_ok (a : List Int) (L : List GEntry) (hL : EOk L = true) (hb : Byt a) (ha : std.strOf (PEn L) = std.strOf a) : Ev (fun k => impl_GetEntries.f k a) (L, true) := by
  have hL' := hL
  unfold EOk at hL'
  simp only [Bool.and_eq_true, decide_eq_true_eq] at hL'
  have yb : Byt (PEn L) := (dg_byt _).app (encL_byt _ _)
  have e : a = PEn L := (str_inj yb hb ha).symm
  have hel := encL_len none L hL'.2
  have hd := dg_len10 L.length (by omega)
  simp only [impl_GetEntries.f]
  rw [← ha]
  refine Ev.bind (number_ok L.length (by omega) (encL none L) (encL_byt _ _)) ?_
  exact impl_ents_ok a L hL ha _ rfl L [] none 0 E0 rfl rfl rfl hL'.2 (by decide)
/-! ### the reference reads entries -/
theorem spec_tailE (a : List Int) (L : List GEntry) (l : List Int) (b : Bool) : ∃ r, Ev (fun k => if b = true then some (([] : List GEntry), false) else if 0 < (l.length : Int) then some ([], false) else (spec_PutEntries.f k L).bind fun s => if std.strOf s = std.strOf a then ((spec_PutEntries.f k L).bind fun s' => if (s'.length : Int) = 0 then some ([], false) else some (L, true)) else some ([], false)) r ∧ GoodE a r ∧ (b = false → l = [] → EOk L = true → std.strOf (PEn L) = std.strOf a → r = (L, true)) := by
  cases b with
  | true => exact ⟨([], false), Ev.ret fun k => by rw [if_pos rfl], .inl rfl, fun h => by cases h⟩
  | false =>
    have hT := spec_enc L
    simp only [Bool.false_eq_true, if_false]
    by_cases hl0 : 0 < (l.length : Int)
    · exact ⟨([], false), Ev.ret fun k => by rw [if_pos hl0], .inl rfl, fun _ h => by subst h; simp at hl0⟩
    · simp only [if_neg hl0]
      by_cases hn : EOk L = true
      · rw [if_pos hn] at hT
        have hp : ¬ ((PEn L).length : Int) = 0 := by unfold PEn; have := dg_pos L.length; rw [List.length_append]; omega
        by_cases hl : std.strOf (PEn L) = std.strOf a
        · exact ⟨(L, true), Ev.bind hT (by simp only [if_pos hl]; exact Ev.bind hT (Ev.ret fun k => by rw [if_neg hp])), .inr ⟨L, rfl, hn, hl⟩, fun _ _ _ _ => rfl⟩
        · exact ⟨([], false), Ev.bind hT (by simp only [if_neg hl]; exact Ev.sm), .inl rfl, fun _ _ _ h => absurd h hl⟩
      · rw [if_neg hn] at hT
        by_cases hl : std.strOf [] = std.strOf a
        · exact ⟨([], false), Ev.bind hT (by simp only [if_pos hl]; exact Ev.bind hT (Ev.ret fun k => by rw [if_pos (by rfl)])), .inl rfl, fun _ _ h => absurd h hn⟩
        · exact ⟨([], false), Ev.bind hT (by simp only [if_neg hl]; exact Ev.sm), .inl rfl, fun _ _ h => absurd h hn⟩
end Go.I

/-! GIQE1 -/
set_option linter.unusedVariables false
set_option linter.unusedSimpArgs false
set_option maxRecDepth 100000
set_option maxHeartbeats 4000000
namespace Go.I
open Go
/-! ### the draws' generator: from every state every state is reached -/
def LC (h : Int) : Int := IntKind.wrap .i64 (IntKind.wrap .i64 (h * 6364136223846793005) + 1442695040888963407)
def GC (h : Int) : Int := h * 6364136223846793005 + 1442695040888963407
def it (f : Int → Int) : Nat → Int → Int
  | 0, x => x
  | n + 1, x => it f n (f x)
theorem it_add (f : Int → Int) (m n : Nat) : ∀ x, it f (m + n) x = it f n (it f m x) := by
  induction m with
  | zero => intro x; simp [it]
  | succ m ih => intro x; rw [show m + 1 + n = (m + n) + 1 by omega]; simp only [it]; exact ih (f x)
theorem it_pow (k : Nat) : ∃ a c : Int, ∀ x, it GC (2 ^ k) x = (1 + 4 * 2 ^ k * a) * x + 2 ^ k * (1 + 2 * c) := by
  induction k with
  | zero => exact ⟨1591034055961698251, 721347520444481703, fun x => by simp [it, GC]; omega⟩
  | succ k ih =>
    obtain ⟨a, c, h⟩ := ih
    refine ⟨a + 2 * 2 ^ k * a * a, 2 ^ k * a + c + 2 * 2 ^ k * a * c, fun x => ?_⟩
    rw [show 2 ^ (k + 1) = 2 ^ k + 2 ^ k by omega, it_add, h, h, show (2 : Int) ^ (k + 1) = 2 * 2 ^ k by rw [Int.pow_succ, Int.mul_comm]]
    generalize (2 : Int) ^ k = P
    grind
theorem reach (k : Nat) (x y : Int) : ∃ n : Nat, ∃ q : Int, it GC n x = y + 2 ^ k * q := by
  induction k with
  | zero => exact ⟨0, x - y, by simp [it]; omega⟩
  | succ k ih =>
    obtain ⟨n, q, h⟩ := ih
    obtain ⟨a, c, hp⟩ := it_pow k
    have e : (2 : Int) ^ (k + 1) = 2 * 2 ^ k := by rw [Int.pow_succ, Int.mul_comm]
    by_cases hq : q % 2 = 0
    · refine ⟨n, q / 2, ?_⟩
      obtain ⟨r, rfl⟩ : ∃ r, q = 2 * r := ⟨q / 2, by omega⟩
      rw [h, e, show 2 * r / 2 = r by omega]
      generalize (2 : Int) ^ k = P
      grind
    · obtain ⟨r, rfl⟩ : ∃ r, q = 2 * r + 1 := ⟨q / 2, by omega⟩
      refine ⟨n + 2 ^ k, r + 1 + c + 2 * a * (y + 2 ^ k * (2 * r + 1)), ?_⟩
      rw [it_add, h, hp, e]
      generalize (2 : Int) ^ k = P
      grind
theorem wrap_dvd (x : Int) : ∃ q, IntKind.wrap .i64 x = x + 18446744073709551616 * q := ⟨-((x + 9223372036854775808) / 18446744073709551616), by rw [IntKind.wrap_i64]; omega⟩
theorem LC_range (h : Int) : -9223372036854775808 ≤ LC h ∧ LC h < 9223372036854775808 := by unfold LC; rw [IntKind.wrap_i64]; omega
theorem it_LC (n : Nat) : ∀ x y q : Int, x = y + 18446744073709551616 * q → ∃ q', it LC n x = it GC n y + 18446744073709551616 * q' := by
  induction n with
  | zero => intro x y q h; exact ⟨q, h⟩
  | succ n ih =>
    intro x y q h
    obtain ⟨q1, h1⟩ := wrap_dvd (x * 6364136223846793005)
    obtain ⟨q2, h2⟩ := wrap_dvd (IntKind.wrap .i64 (x * 6364136223846793005) + 1442695040888963407)
    exact ih (LC x) (GC y) (6364136223846793005 * q + q1 + q2) (by unfold LC GC; omega)
theorem it_range (n : Nat) : ∀ x, (-9223372036854775808 ≤ x ∧ x < 9223372036854775808) → -9223372036854775808 ≤ it LC n x ∧ it LC n x < 9223372036854775808 := by
  induction n with
  | zero => intro x h; exact h
  | succ n ih => intro x _; exact ih (LC x) (LC_range x)
theorem reach64 (m : Nat) (x y : Int) (hy : -9223372036854775808 ≤ y ∧ y < 9223372036854775808) (hx : -9223372036854775808 ≤ x ∧ x < 9223372036854775808) : ∃ n, m ≤ n ∧ it LC n x = y := by
  obtain ⟨n, q, h⟩ := reach 64 (it LC m x) y
  obtain ⟨q', h'⟩ := it_LC n (it LC m x) (it LC m x) 0 (by omega)
  refine ⟨m + n, by omega, ?_⟩
  rw [it_add]
  have hr := it_range n (it LC m x) (it_range m x hx)
  have e : (2 : Int) ^ 64 = 18446744073709551616 := by decide
  rw [e] at h
  omega
theorem i64_and255 (n : Int) : std.bits .and .i64 n 255 = n % 256 := by
  have h255 : (BitVec.ofInt 64 255).toNat = 2 ^ 8 - 1 := by decide
  have key : (BitVec.ofInt 64 n &&& BitVec.ofInt 64 255).toNat = (n % ((2 ^ 64 : Nat) : Int)).toNat % 2 ^ 8 := by
    rw [BitVec.toNat_and, BitVec.toNat_ofInt, h255, Nat.and_two_pow_sub_one_eq_mod]
  show IntKind.wrap .i64 ((BitVec.ofInt 64 n &&& BitVec.ofInt 64 255).toNat : Nat) = n % 256
  rw [key, IntKind.wrap_i64]
  omega
/-- A draw's byte, where the code is at its end. -/
def vb (x : Int) : Int := std.bits .xor .i64 (std.shr .i64 x 33) (std.shr .i64 x 45) % 256
def nx (l : List Int) (i : Int) : Int := if i < (l.length : Int) then i + 1 else i
def dn (l : List Int) : Nat → Int → Int
  | 0, i => i
  | m + 1, i => dn l m (nx l i)
theorem dn_add (l : List Int) (m n : Nat) : ∀ i, dn l (m + n) i = dn l n (dn l m i) := by
  induction m with
  | zero => intro i; simp [dn]
  | succ m ih => intro i; rw [show m + 1 + n = (m + n) + 1 by omega]; simp only [dn]; exact ih _
theorem dn_eq (l : List Int) (m : Nat) : ∀ i, i ≤ (l.length : Int) → dn l m i = min (i + m) l.length := by
  induction m with
  | zero => intro i h; simp [dn]; omega
  | succ m ih =>
    intro i h
    simp only [dn]
    unfold nx
    split
    · rw [ih _ (by omega)]; omega
    · rw [ih _ h]; omega
theorem byte_ev (l : List Int) (hl : l.length ≤ 4611686018427387904) (i h : Int) (hi : 0 ≤ i) :
    ∃ v, spec_l01Byte_i.f ⟨l, i, h⟩ = some (v, ⟨l, nx l i, LC h⟩) ∧ 0 ≤ v ∧ v ≤ 255 ∧ ((l.length : Int) ≤ i → v = vb (LC h)) := by
  unfold spec_l01Byte_i.f nx
  dsimp only
  rw [show IntKind.wrap .i64 (IntKind.wrap .i64 (h * 6364136223846793005) + 1442695040888963407) = LC h from rfl, if_pos (by decide), if_pos (by decide)]
  by_cases hlt : i < (l.length : Int)
  · rw [if_pos hlt, if_pos hi, if_pos hlt, if_pos hlt, w64 (x := i + 1) (by omega) (by omega)]
    refine ⟨_, rfl, ?_, ?_, fun h => by omega⟩
    · rw [i64_and255]; omega
    · rw [i64_and255]; omega
  · rw [if_neg hlt, if_neg hlt]
    refine ⟨_, rfl, ?_, ?_, fun _ => ?_⟩
    · rw [i64_and255]; omega
    · rw [i64_and255]; omega
    · rw [i64_and255]; rfl
def Okst (l : List Int) (i h : Int) : Prop := 0 ≤ i ∧ i ≤ (l.length : Int) ∧ -9223372036854775808 ≤ h ∧ h < 9223372036854775808
theorem Okst.dn {l : List Int} {i h : Int} (k : Okst l i h) (m : Nat) : Okst l (dn l m i) (it LC m h) := by
  have hd := dn_eq l m i k.2.1
  exact ⟨by rw [hd]; have := k.1; omega, by rw [hd]; omega, it_range m h k.2.2⟩
theorem below_ev (l : List Int) (hl : l.length ≤ 4611686018427387904) (i h : Int) (k : Okst l i h) (a : Int) (ha : a ≤ 256) (ha1 : 1 ≤ a) :
    ∃ v, spec_l01Below_i.f ⟨l, i, h⟩ a = some (v, ⟨l, nx l i, LC h⟩) ∧ 0 ≤ v ∧ v < a ∧ ((l.length : Int) ≤ i → v = vb (LC h) % a) := by
  unfold spec_l01Below_i.f
  rw [if_neg (by omega), if_pos ha]
  obtain ⟨v1, e1, a1, b1, c1⟩ := byte_ev l hl i h k.1
  rw [e1, bnd, if_neg (by omega)]
  dsimp only
  rw [Int.tmod_eq_emod_of_nonneg a1]
  exact ⟨v1 % a, rfl, Int.emod_nonneg _ (by omega), Int.emod_lt_of_pos _ (by omega), fun hi => by rw [c1 hi]⟩
theorem belowN_ev (l : List Int) (hl : l.length ≤ 4611686018427387904) (i h : Int) (k : Okst l i h) (a : Int) :
    ∃ v m, spec_l01Below_i.f ⟨l, i, h⟩ a = some (v, ⟨l, dn l m i, it LC m h⟩) ∧ m ≤ 4 ∧ (0 < a → 0 ≤ v ∧ v < a) := by
  by_cases h0 : a ≤ 0
  · refine ⟨0, 0, ?_, by decide, fun h => by omega⟩
    unfold spec_l01Below_i.f
    rw [if_pos h0]; rfl
  by_cases h1 : a ≤ 256
  · obtain ⟨v, e, b, c, _⟩ := below_ev l hl i h k a h1 (by omega)
    exact ⟨v, 1, e, by decide, fun _ => ⟨b, c⟩⟩
  · unfold spec_l01Below_i.f
    rw [if_neg h0, if_neg h1]
    obtain ⟨v1, e1, a1, b1, _⟩ := byte_ev l hl i h k.1
    have k1 : Okst l (nx l i) (LC h) := k.dn 1
    obtain ⟨v2, e2, a2, b2, _⟩ := byte_ev l hl _ (LC h) k1.1
    have k2 : Okst l (nx l (nx l i)) (LC (LC h)) := k.dn 2
    obtain ⟨v3, e3, a3, b3, _⟩ := byte_ev l hl _ (LC (LC h)) k2.1
    have k3 : Okst l (nx l (nx l (nx l i))) (LC (LC (LC h))) := k.dn 3
    obtain ⟨v4, e4, a4, b4, _⟩ := byte_ev l hl _ (LC (LC (LC h))) k3.1
    rw [e1, bnd]
    dsimp only
    rw [e2, bnd]
    dsimp only
    rw [e3, bnd]
    dsimp only
    rw [e4, bnd]
    dsimp only
    rw [if_neg (by omega), w64 (x := v1 * 16777216) (by omega) (by omega), w64 (x := v2 * 65536) (by omega) (by omega), w64 (x := v1 * 16777216 + v2 * 65536) (by omega) (by omega), w64 (x := v3 * 256) (by omega) (by omega), w64 (x := v1 * 16777216 + v2 * 65536 + v3 * 256) (by omega) (by omega), w64 (x := v1 * 16777216 + v2 * 65536 + v3 * 256 + v4) (by omega) (by omega), Int.tmod_eq_emod_of_nonneg (by omega)]
    exact ⟨_, 4, rfl, by decide, fun h => ⟨Int.emod_nonneg _ (by omega), Int.emod_lt_of_pos _ h⟩⟩
end Go.I

/-! GIQE2 -/
set_option linter.unusedVariables false
set_option linter.unusedSimpArgs false
set_option maxRecDepth 100000
set_option maxHeartbeats 4000000
namespace Go.I
open Go
def g3 (v : Int) : Prop := v = 0 ∨ v = 3 ∨ v = 4
instance (v : Int) : Decidable (g3 v) := by unfold g3; infer_instance
/-- The next draw lets a text grow. -/
def Grow (l : List Int) (i h : Int) : Prop := (l.length : Int) ≤ i ∧ g3 (vb (LC h) % 5)
def Win (l : List Int) (i h : Int) (d : Nat) : Prop := (l.length : Int) ≤ i + d ∧ ∀ j, j < 6 → g3 (vb (it LC (d + j + 1) h) % 5)
theorem win33 : ∀ j, j < 6 → g3 (vb (it LC (j + 1) 33) % 5) := by decide +kernel
theorem it_succ (f : Int → Int) (n : Nat) (x : Int) : it f (n + 1) x = f (it f n x) := it_add f n 1 x
theorem win_ex (l : List Int) (i h : Int) (k : Okst l i h) : ∃ d, 0 < d ∧ Win l i h d := by
  obtain ⟨n, hn, he⟩ := reach64 (l.length + 1) h 33 (by decide) k.2.2
  refine ⟨n, by omega, by have := k.1; omega, fun j hj => ?_⟩
  rw [show n + j + 1 = n + (j + 1) by omega, it_add, he]
  exact win33 j hj
theorem Win.good {l : List Int} {i h : Int} {d m : Nat} (k : Okst l i h) (w : Win l i h d) (h1 : d ≤ m) (h2 : m ≤ d + 5) : Grow l (dn l m i) (it LC m h) := by
  refine ⟨?_, ?_⟩
  · rw [dn_eq l m i k.2.1]; have := w.1; omega
  · have := w.2 (m - d) (by omega)
    rwa [show d + (m - d) + 1 = m + 1 by omega, it_succ] at this
theorem Win.later {l : List Int} {i h : Int} {d m : Nat} (k : Okst l i h) (w : Win l i h d) (h1 : m < d) : Win l (dn l m i) (it LC m h) (d - m) := by
  refine ⟨?_, fun j hj => ?_⟩
  · rw [dn_eq l m i k.2.1]; have := w.1; omega
  · rw [← it_add, show m + (d - m + j + 1) = d + j + 1 by omega]
    exact w.2 j hj
theorem one_len {α : Type} (x : α) : (([x] : List α).length : Int) = 1 := rfl
theorem text_l3 (n : Int) (r40 r41 : Int × GL01Cur) (h40 : r40.1 ≤ 1000) (c : Nat) : ∀ (out : List Int) (x : Int), 0 ≤ x → r40.1 - x = c → out.length + c ≤ 100000000 → ∀ r,
    Ev (fun k => spec_l01Text_i.l0 k n (out ++ List.replicate c (IntKind.wrap .u8 (IntKind.wrap .i64 (97 + r41.1)))) r41.2.B r41.2.I r41.2.H) r → Ev (fun k => spec_l01Text_i.l3 k n r40 r41 out x) r := by
  induction c with
  | zero =>
    intro out x h0 hc hs r hr
    refine Ev.step (fun k => ?_) (by simpa using hr)
    simp only [spec_l01Text_i.l3]
    rw [if_neg (by omega)]
  | succ c ih =>
    intro out x h0 hc hs r hr
    have hr2 : Ev (fun k => spec_l01Text_i.l0 k n (out ++ [IntKind.wrap .u8 (IntKind.wrap .i64 (97 + r41.1))] ++ List.replicate c (IntKind.wrap .u8 (IntKind.wrap .i64 (97 + r41.1)))) r41.2.B r41.2.I r41.2.H) r := by simpa [List.replicate_succ] using hr
    refine Ev.step (fun k => ?_) (ih (out ++ [IntKind.wrap .u8 (IntKind.wrap .i64 (97 + r41.1))]) (x + 1) (by omega) (by omega) (by simp; omega) r hr2)
    simp only [spec_l01Text_i.l3, one_len]
    rw [if_pos (by omega), if_pos (by omega), w64 (x := x + 1) (by omega) (by omega)]
theorem text_l5 (n : Int) (r46 r47 : Int × GL01Cur) (h46 : 0 ≤ r46.1) (h46b : r46.1 ≤ 100000000) (h47 : r47.1 ≤ 1000) (c : Nat) : ∀ (out : List Int) (x : Int), 0 ≤ x → r47.1 - x = c → out.length + c ≤ 100000000 →
    ∃ ex : List Int, ex.length ≤ c ∧ ∀ r, Ev (fun k => spec_l01Text_i.l0 k n (out ++ ex) r47.2.B r47.2.I r47.2.H) r → Ev (fun k => spec_l01Text_i.l5 k n r46 r47 out x) r := by
  induction c with
  | zero =>
    intro out x h0 hc hs
    refine ⟨[], Nat.le_refl _, fun r hr => Ev.step (fun k => ?_) (by simpa using hr)⟩
    simp only [spec_l01Text_i.l5]
    rw [if_neg (by omega)]
  | succ c ih =>
    intro out x h0 hc hs
    have e9 : IntKind.wrap .i64 (r46.1 + x) = r46.1 + x := w64 (by omega) (by omega)
    have e11 : IntKind.wrap .i64 (x + 1) = x + 1 := w64 (by omega) (by omega)
    by_cases hlt : r46.1 + x < (out.length : Int)
    · obtain ⟨ex, hex, he⟩ := ih (out ++ [out.getD (r46.1 + x).toNat 0]) (x + 1) (by omega) (by omega) (by simp; omega)
      refine ⟨out.getD (r46.1 + x).toNat 0 :: ex, by simp; omega, fun r hr => Ev.step (fun k => ?_) (he r (by simpa using hr))⟩
      simp only [spec_l01Text_i.l5, one_len, e9, e11]
      rw [if_pos (by omega), if_pos hlt, if_pos (by omega), if_pos hlt, if_pos (by omega)]
    · refine ⟨[], Nat.zero_le _, fun r hr => Ev.step (fun k => ?_) (by simpa using hr)⟩
      simp only [spec_l01Text_i.l5, e9]
      rw [if_pos (by omega), if_neg hlt]
/-- One round of l01Text: some draws, and the text grows or not; where the next draw is a good one, it does. -/
theorem text_iter (l : List Int) (hl : l.length ≤ 4611686018427387904) (n : Int) (hn : n ≤ 256) (out : List Int) (hout : (out.length : Int) < n) (i h : Int) (k : Okst l i h) :
    ∃ (m : Nat) (ex : List Int), 1 ≤ m ∧ m ≤ 6 ∧ ex.length ≤ 20 ∧ (Grow l i h → ex ≠ []) ∧ ∀ r, Ev (fun k => spec_l01Text_i.l0 k n (out ++ ex) l (dn l m i) (it LC m h)) r → Ev (fun k => spec_l01Text_i.l0 k n out l i h) r := by
  obtain ⟨v, e1, hv0, hv5, hg⟩ := below_ev l hl i h k 5 (by decide) (by decide)
  have k1 : Okst l (nx l i) (LC h) := k.dn 1
  have hstep : ∀ (F : Nat → Option (ByteArray × GL01Cur)) (r : ByteArray × GL01Cur), Ev F r → (∀ k, spec_l01Text_i.l0 (k + 1) n out l i h = F k) → Ev (fun k => spec_l01Text_i.l0 k n out l i h) r := fun F r hF he => Ev.step (f := fun k => spec_l01Text_i.l0 k n out l i h) he hF
  have hbad : v = 1 ∨ v = 2 → Grow l i h → False := by
    intro hv hg2
    have h5 := hg hg2.1
    have := hg2.2
    unfold g3 at this
    omega
  by_cases v0 : v = 0
  · obtain ⟨b, e2, _, _, _⟩ := byte_ev l hl _ (LC h) k1.1
    refine ⟨2, [IntKind.wrap .u8 b], by decide, by decide, by simp, fun _ => by simp, fun r hr => hstep _ r hr (fun k => ?_)⟩
    simp only [spec_l01Text_i.l0, one_len]
    rw [if_pos hout, e1, bnd]
    dsimp only
    rw [if_pos v0, e2, bnd]
    dsimp only
    rw [if_pos (by omega)]
    rfl
  by_cases v1 : v = 1
  · obtain ⟨c, e2, hc0, hc9, _⟩ := below_ev l hl _ (LC h) k1 9 (by decide) (by decide)
    have k2 : Okst l (nx l (nx l i)) (LC (LC h)) := k.dn 2
    obtain ⟨y, e3, hy0, hy4, _⟩ := below_ev l hl _ (LC (LC h)) k2 4 (by decide) (by decide)
    refine ⟨3, List.replicate c.toNat (IntKind.wrap .u8 (IntKind.wrap .i64 (97 + y))), by decide, by decide, by simp; omega, fun hg2 => (hbad (.inl v1) hg2).elim,
      fun r hr => hstep _ r (text_l3 n (c, ⟨l, nx l (nx l i), LC (LC h)⟩) (y, ⟨l, nx l (nx l (nx l i)), LC (LC (LC h))⟩) (by dsimp only; omega) c.toNat out 0 (by decide) (by dsimp only; omega) (by omega) r hr) (fun k => ?_)⟩
    simp only [spec_l01Text_i.l0]
    rw [if_pos hout, e1, bnd]
    dsimp only
    rw [if_neg v0, if_pos v1, e2, bnd]
    dsimp only
    rw [e3, bnd]
  by_cases v2 : v = 2
  · by_cases hpos : 0 < (out.length : Int)
    · obtain ⟨x, e2, hx0, hx1, _⟩ := below_ev l hl _ (LC h) k1 out.length (by omega) (by omega)
      have k2 : Okst l (nx l (nx l i)) (LC (LC h)) := k.dn 2
      obtain ⟨c, e3, hc0, hc2, _⟩ := below_ev l hl _ (LC (LC h)) k2 20 (by decide) (by decide)
      obtain ⟨ex, hex, he⟩ := text_l5 n (x, ⟨l, nx l (nx l i), LC (LC h)⟩) (c, ⟨l, nx l (nx l (nx l i)), LC (LC (LC h))⟩) hx0 (by dsimp only; omega) (by dsimp only; omega) c.toNat out 0 (by decide) (by dsimp only; omega) (by omega)
      refine ⟨3, ex, by omega, by omega, by omega, fun hg2 => (hbad (.inr v2) hg2).elim, fun r hr => hstep _ r (he r hr) (fun k => ?_)⟩
      simp only [spec_l01Text_i.l0]
      rw [if_pos hout, e1, bnd]
      dsimp only
      rw [if_neg v0, if_neg v1, if_pos v2, if_pos hpos, e2, bnd]
      dsimp only
      rw [e3, bnd]
    · refine ⟨1, [], by decide, by decide, by simp, fun hg2 => (hbad (.inr v2) hg2).elim, fun r hr => hstep _ r (by simpa using hr) (fun k => ?_)⟩
      simp only [spec_l01Text_i.l0]
      rw [if_pos hout, e1, bnd]
      dsimp only
      rw [if_neg v0, if_neg v1, if_pos v2, if_neg hpos]
      rfl
  · obtain ⟨y, e2, hy0, hy1, _⟩ := below_ev l hl _ (LC h) k1 26 (by decide) (by decide)
    refine ⟨2, [IntKind.wrap .u8 (IntKind.wrap .i64 (97 + y))], by decide, by decide, by simp, fun _ => by simp, fun r hr => hstep _ r hr (fun k => ?_)⟩
    simp only [spec_l01Text_i.l0, one_len]
    rw [if_pos hout, e1, bnd]
    dsimp only
    rw [if_neg v0, if_neg v1, if_neg v2, e2, bnd]
    dsimp only
    rw [if_pos (by omega)]
    rfl
theorem text_end (l : List Int) (hl : l.length ≤ 4611686018427387904) (n : Int) (hn0 : 0 ≤ n) (hn : n ≤ 256) (R : Nat) :
    ∀ (d : Nat) (out : List Int) (i h : Int), Okst l i h → (d = 0 ∧ Grow l i h ∨ 0 < d ∧ Win l i h d) → n - out.length ≤ R → (out.length : Int) ≤ n + 20 →
    ∃ s i' h', (s.size : Int) ≤ n ∧ Okst l i' h' ∧ Ev (fun k => spec_l01Text_i.l0 k n out l i h) (s, ⟨l, i', h'⟩) := by
  have hdone : ∀ (out : List Int) (i h : Int), Okst l i h → n ≤ (out.length : Int) → ∃ s i' h', (s.size : Int) ≤ n ∧ Okst l i' h' ∧ Ev (fun k => spec_l01Text_i.l0 k n out l i h) (s, ⟨l, i', h'⟩) := by
    intro out i h k hge
    refine ⟨std.strOf (std.ext out 0 n), i, h, ?_, k, Ev.at (fun k => ?_)⟩
    · have h1 : (std.strOf (std.ext out 0 n)).size = (std.ext out 0 n).length := strOfNums_size _
      have h2 : (std.ext out 0 n).length ≤ n.toNat - 0 := List.length_take_le _ _
      omega
    · simp only [spec_l01Text_i.l0]
      rw [if_neg (by omega), if_pos (by decide), if_pos hn0, if_pos hge]
  induction R with
  | zero => intro d out i h k _ hR _; exact hdone out i h k (by omega)
  | succ R ih =>
    intro d
    induction d using Nat.strongRecOn with
    | ind d ihd =>
      intro out i h k hw hR hsz
      by_cases hlt : n ≤ (out.length : Int)
      · exact hdone out i h k hlt
      obtain ⟨m, ex, hm1, hm6, hex, hgood, hgo⟩ := text_iter l hl n hn out (by omega) i h k
      by_cases he : ex = []
      · subst he
        have hd : 0 < d ∧ Win l i h d := by
          rcases hw with ⟨_, hg⟩ | hw
          · exact absurd rfl (hgood hg)
          · exact hw
        simp only [List.append_nil] at hgo
        by_cases hmd : m < d
        · obtain ⟨s, i', h', h1, h2, h3⟩ := ihd (d - m) (by omega) out _ _ (k.dn m) (.inr ⟨by omega, hd.2.later k hmd⟩) hR hsz
          exact ⟨s, i', h', h1, h2, hgo _ h3⟩
        · obtain ⟨s, i', h', h1, h2, h3⟩ := ihd 0 hd.1 out _ _ (k.dn m) (.inl ⟨rfl, hd.2.good k (by omega) (by omega)⟩) hR hsz
          exact ⟨s, i', h', h1, h2, hgo _ h3⟩
      · have hlen : 1 ≤ ex.length := by
          cases ex with
          | nil => exact absurd rfl he
          | cons _ _ => simp
        obtain ⟨d2, hd2, hw2⟩ := win_ex l _ _ (k.dn m)
        obtain ⟨s, i', h', h1, h2, h3⟩ := ih d2 (out ++ ex) _ _ (k.dn m) (.inr ⟨hd2, hw2⟩) (by simp; omega) (by simp; omega)
        exact ⟨s, i', h', h1, h2, hgo _ h3⟩
theorem text_ev (l : List Int) (hl : l.length ≤ 4611686018427387904) (n : Int) (hn0 : 0 ≤ n) (hn : n ≤ 256) (i h : Int) (k : Okst l i h) : ∃ s i' h', (s.size : Int) ≤ n ∧ Okst l i' h' ∧ Ev (fun k => spec_l01Text_i.f k ⟨l, i, h⟩ n) (s, ⟨l, i', h'⟩) := by
  obtain ⟨d, hd, hw⟩ := win_ex l i h k
  exact text_end l hl n hn0 hn n.toNat d [] i h k (.inr ⟨hd, hw⟩) (by simp; omega) (by simp; omega)
end Go.I

/-! GIQE3 -/
set_option linter.unusedVariables false
set_option linter.unusedSimpArgs false
set_option maxRecDepth 100000
set_option maxHeartbeats 4000000
namespace Go.I
open Go
/-! ### what the draws of a tree give -/
section
variable (l : List Int) (hl : l.length ≤ 4611686018427387904)
include hl
theorem once_ev (i h : Int) (k : Okst l i h) (a : Int) (ha1 : 1 ≤ a) (ha : a ≤ 256) : ∃ b i' h', spec_l01Once_i.f ⟨l, i, h⟩ a = some (b, ⟨l, i', h'⟩) ∧ Okst l i' h' := by
  obtain ⟨v, e, _⟩ := below_ev l hl i h k a ha ha1
  refine ⟨decide (v = 0), nx l i, LC h, ?_, k.dn 1⟩
  unfold spec_l01Once_i.f
  rw [e, bnd]
theorem pickInt_ev (i h : Int) (k : Okst l i h) (L : List Int) (h0 : 1 ≤ (L.length : Int)) (h1 : (L.length : Int) ≤ 256) : ∃ v i' h', spec_l01PickInt_i.f ⟨l, i, h⟩ L = some (v, ⟨l, i', h'⟩) ∧ v ∈ L ∧ Okst l i' h' := by
  obtain ⟨v, e, b, c, _⟩ := below_ev l hl i h k L.length h1 h0
  refine ⟨L.getD v.toNat 0, nx l i, LC h, ?_, ?_, k.dn 1⟩
  · unfold spec_l01PickInt_i.f
    rw [e, bnd]
    dsimp only
    rw [if_pos b, if_pos c]
  · rw [List.getD_eq_getElem?_getD, List.getElem?_eq_getElem (by omega)]
    exact List.getElem_mem _
theorem pick_ev (i h : Int) (k : Okst l i h) (L : List ByteArray) (h0 : 1 ≤ (L.length : Int)) (h1 : (L.length : Int) ≤ 256) : ∃ v i' h', spec_l01Pick_i.f ⟨l, i, h⟩ L = some (v, ⟨l, i', h'⟩) ∧ v ∈ L ∧ Okst l i' h' := by
  obtain ⟨v, e, b, c, _⟩ := below_ev l hl i h k L.length h1 h0
  refine ⟨L.getD v.toNat (⟨#[]⟩ : ByteArray), nx l i, LC h, ?_, ?_, k.dn 1⟩
  · unfold spec_l01Pick_i.f
    rw [e, bnd]
    dsimp only
    rw [if_pos b, if_pos c]
  · rw [List.getD_eq_getElem?_getD, List.getElem?_eq_getElem (by omega)]
    exact List.getElem_mem _
theorem name_ev (i h : Int) (k : Okst l i h) : ∃ v i' h', spec_l02Name_i.f ⟨l, i, h⟩ = some (v, ⟨l, i', h'⟩) ∧ v.size ≤ 20 ∧ Okst l i' h' := by
  unfold spec_l02Name_i.f
  obtain ⟨v, i', h', e, hm, k'⟩ := pick_ev l hl i h k [(⟨#[97]⟩ : ByteArray), (⟨#[98]⟩ : ByteArray), (⟨#[99]⟩ : ByteArray), (⟨#[100, 111, 99, 115]⟩ : ByteArray), (⟨#[105, 109, 103]⟩ : ByteArray), (⟨#[120, 46, 116, 120, 116]⟩ : ByteArray), (⟨#[121, 46, 116, 120, 116]⟩ : ByteArray), (⟨#[122, 46, 111]⟩ : ByteArray), (⟨#[110, 111, 116, 101, 95, 49]⟩ : ByteArray), (⟨#[66]⟩ : ByteArray), (⟨#[111, 108, 100]⟩ : ByteArray), (⟨#[107, 101, 101, 112, 46, 109, 101]⟩ : ByteArray), (⟨#[97, 45, 98]⟩ : ByteArray), (⟨#[108, 105, 98]⟩ : ByteArray)] (by decide) (by decide)
  refine ⟨v, i', h', by rw [e, bnd], ?_, k'⟩
  clear e
  revert v
  intro v hm
  simp only [List.mem_cons, List.not_mem_nil, or_false] at hm
  rcases hm with h | h | h | h | h | h | h | h | h | h | h | h | h | h <;> subst h <;> decide
theorem node_ev (i h : Int) (k : Okst l i h) (p : ByteArray) (hp : pth p.data.toList = true) : ∃ n i' h', Ev (fun k => spec_l10Node_i.f k ⟨l, i, h⟩ p) (n, ⟨l, i', h'⟩) ∧ n.Path = p ∧ nOk n = true ∧ Okst l i' h' := by
  obtain ⟨kd, i1, h1, e1, m1, k1⟩ := pickInt_ev l hl i h k [0, 1, 1, 1, 2] (by decide) (by decide)
  obtain ⟨md, i2, h2, e2, m2, k2⟩ := pickInt_ev l hl i1 h1 k1 [420, 493, 384, 511, 0] (by decide) (by decide)
  obtain ⟨t, e3, t0, t1, _⟩ := below_ev l hl i2 h2 k2 6 (by decide) (by decide)
  have k3 : Okst l (nx l i2) (LC h2) := k2.dn 1
  have hw : IntKind.wrap .i64 (100 + t) = 100 + t := w64 (by omega) (by omega)
  have hmd : 0 ≤ md ∧ md ≤ 511 := by
    simp only [List.mem_cons, List.not_mem_nil, or_false] at m2
    omega
  have hkd : kd = 0 ∨ kd = 1 ∨ kd = 2 := by
    simp only [List.mem_cons, List.not_mem_nil, or_false] at m1
    omega
  by_cases c1 : kd = 1
  · obtain ⟨s, e4, s0, s1, _⟩ := below_ev l hl _ _ k3 40 (by decide) (by decide)
    obtain ⟨d, i5, h5, d1, k5, e5⟩ := text_ev l hl s s0 (by omega) _ _ (k3.dn 1)
    refine ⟨⟨p, kd, md, 100 + t, d, (⟨#[]⟩ : ByteArray), 0⟩, i5, h5, ?_, rfl, ?_, k5⟩
    · refine Ev.congr (g := fun k => (spec_l01Text_i.f k ⟨l, nx l (nx l i2), LC (LC h2)⟩ s).bind fun r4 => some ((⟨p, kd, md, 100 + t, r4.1, (⟨#[]⟩ : ByteArray), 0⟩ : GNode), r4.2)) (fun k => ?_) (Ev.bind e5 Ev.sm)
      unfold spec_l10Node_i.f
      rw [e1, bnd]
      dsimp only
      rw [e2, bnd]
      dsimp only
      rw [e3, bnd]
      dsimp only
      rw [if_pos c1, e4, bnd]
      dsimp only
      rw [hw]
    · have hd : (d.size : Int) ≤ 20000 := by omega
      simp only [nOk, hp, c1, Bool.true_and, Bool.and_eq_true, decide_eq_true_eq, if_neg (show ¬ (1 : Int) = 0 by decide), if_true]
      exact ⟨hmd, by omega, hd, trivial, by decide⟩
  by_cases c2 : kd = 2
  · obtain ⟨s, i5, h5, e5, m5, k5⟩ := pick_ev l hl _ _ k3 [(⟨#[97]⟩ : ByteArray), (⟨#[46, 46, 47, 120]⟩ : ByteArray), (⟨#[100, 111, 99, 115, 47, 121, 46, 116, 120, 116]⟩ : ByteArray), (⟨#[47, 101, 116, 99]⟩ : ByteArray)] (by decide) (by decide)
    refine ⟨⟨p, kd, 0, 100 + t, (⟨#[]⟩ : ByteArray), s, 0⟩, i5, h5, Ev.ret fun k => ?_, rfl, ?_, k5⟩
    · unfold spec_l10Node_i.f
      rw [e1, bnd]
      dsimp only
      rw [e2, bnd]
      dsimp only
      rw [e3, bnd]
      dsimp only
      rw [if_neg c1, if_pos c2, e5, bnd]
      dsimp only
      rw [hw]
    · have hs : (1 ≤ (s.size : Int) ∧ (s.size : Int) ≤ 60) ∧ (!decide ((10 : UInt8) ∈ s.data.toList)) = true := by
        clear e5
        simp only [List.mem_cons, List.not_mem_nil, or_false] at m5
        rcases m5 with h | h | h | h <;> subst h <;> decide
      simp only [nOk, hp, c2, Bool.true_and, Bool.and_eq_true, decide_eq_true_eq, if_neg (show ¬ (2 : Int) = 0 by decide), if_neg (show ¬ (2 : Int) = 1 by decide), if_true]
      exact ⟨by decide, by omega, trivial, trivial, trivial, hs⟩
  · have c0 : kd = 0 := by omega
    refine ⟨⟨p, kd, md, 100 + t, (⟨#[]⟩ : ByteArray), (⟨#[]⟩ : ByteArray), 0⟩, _, _, Ev.ret fun k => ?_, rfl, ?_, k3⟩
    · unfold spec_l10Node_i.f
      rw [e1, bnd]
      dsimp only
      rw [e2, bnd]
      dsimp only
      rw [e3, bnd]
      dsimp only
      rw [if_neg c1, if_neg c2, hw]
    · simp only [nOk, hp, c0, Bool.true_and, Bool.and_eq_true, decide_eq_true_eq, if_true]
      exact ⟨hmd, by omega, trivial, trivial, trivial⟩
end
theorem Path_ev (p : ByteArray) : Ev (fun k => spec_PathOk.f k p) (pth p.data.toList) := by
  have := spec_Path' p.data.toList
  rwa [mk_self] at this
/-- JoinPath gives a path, or nothing. -/
theorem join_ev (a b : ByteArray) (ha : a.size ≤ 1000) (hb : b.size ≤ 1000) : ∃ r, Ev (fun k => spec_JoinPath.f k a b) r ∧ (r = (⟨#[]⟩ : ByteArray) ∨ pth r.data.toList = true) := by
  have fin : ∀ (c : ByteArray), ∃ r, Ev (fun k => (spec_NameOk.f k b).bind fun r8 => if r8 = true then ((spec_PathOk.f k c).bind fun r9 => if r9 = true then some c else some (⟨#[]⟩ : ByteArray)) else some (⟨#[]⟩ : ByteArray)) r ∧ (r = (⟨#[]⟩ : ByteArray) ∨ pth r.data.toList = true) := by
    intro c
    cases hn : nmB b with
    | false => exact ⟨_, Ev.bind (hn ▸ spec_NameB b (by omega)) (Ev.ret fun k => by simp), .inl rfl⟩
    | true =>
      cases hc : pth c.data.toList with
      | false => exact ⟨_, Ev.bind (hn ▸ spec_NameB b (by omega)) (Ev.congr (fun k => if_pos rfl) (Ev.bind (hc ▸ Path_ev c) (Ev.ret fun k => by simp))), .inl rfl⟩
      | true => exact ⟨c, Ev.bind (hn ▸ spec_NameB b (by omega)) (Ev.congr (fun k => if_pos rfl) (Ev.bind (hc ▸ Path_ev c) (Ev.ret fun k => by simp))), .inr hc⟩
  unfold spec_JoinPath.f
  by_cases h0 : a = (⟨#[]⟩ : ByteArray)
  · obtain ⟨r, e, hr⟩ := fin b
    exact ⟨r, Ev.congr (fun k => by rw [if_pos h0, if_pos h0]) e, hr⟩
  · obtain ⟨r, e, hr⟩ := fin ((a ++ (⟨#[47]⟩ : ByteArray)) ++ b)
    have s1 : ((⟨#[47]⟩ : ByteArray).size : Int) = 1 := rfl
    have s2 : (((a ++ (⟨#[47]⟩ : ByteArray)).size : Nat) : Int) = a.size + 1 := by rw [ByteArray.size_append]; rfl
    have g1 : ((a.size : Int) + ((⟨#[47]⟩ : ByteArray).size : Int)) ≤ 140737488351232 := by omega
    have g2 : (((a ++ (⟨#[47]⟩ : ByteArray)).size : Int) + (b.size : Int)) ≤ 140737488351232 := by omega
    cases hp : pth a.data.toList with
    | true =>
      have e' : Ev (fun k => (spec_PathOk.f k a).bind fun r0 => if r0 = true then ((spec_NameOk.f k b).bind fun r8 => if r8 = true then ((spec_PathOk.f k ((a ++ (⟨#[47]⟩ : ByteArray)) ++ b)).bind fun r9 => if r9 = true then some ((a ++ (⟨#[47]⟩ : ByteArray)) ++ b) else some (⟨#[]⟩ : ByteArray)) else some (⟨#[]⟩ : ByteArray)) else some (⟨#[]⟩ : ByteArray)) r :=
        Ev.bind (hp ▸ Path_ev a) (by simpa using e)
      exact ⟨r, Ev.congr (fun k => by rw [if_neg h0, if_pos g1, if_pos g2, if_neg h0]) e', hr⟩
    | false =>
      have e' : Ev (fun k => (spec_PathOk.f k a).bind fun r0 => if r0 = true then ((spec_NameOk.f k b).bind fun r8 => if r8 = true then ((spec_PathOk.f k ((a ++ (⟨#[47]⟩ : ByteArray)) ++ b)).bind fun r9 => if r9 = true then some ((a ++ (⟨#[47]⟩ : ByteArray)) ++ b) else some (⟨#[]⟩ : ByteArray)) else some (⟨#[]⟩ : ByteArray)) else some (⟨#[]⟩ : ByteArray)) (⟨#[]⟩ : ByteArray) :=
        Ev.bind (hp ▸ Path_ev a) (Ev.ret fun k => by simp)
      exact ⟨_, Ev.congr (fun k => by rw [if_neg h0, if_pos g1, if_pos g2, if_neg h0]) e', .inl rfl⟩
end Go.I

/-! GIQE4 -/
set_option linter.unusedVariables false
set_option linter.unusedSimpArgs false
set_option maxRecDepth 100000
set_option maxHeartbeats 4000000
namespace Go.I
open Go
abbrev DN : GNode := ⟨(⟨#[]⟩ : ByteArray), 0, 0, 0, (⟨#[]⟩ : ByteArray), (⟨#[]⟩ : ByteArray), 0⟩
theorem bl_tot : ∀ x y : List UInt8, Op.bytesLess x y = false → x ≠ y → Op.bytesLess y x = true
  | [], [], _, h => (h rfl).elim
  | [], b :: y, h, _ => by simp [Op.bytesLess] at h
  | a :: x, [], _, _ => by simp [Op.bytesLess]
  | a :: x, b :: y, h, hne => by
    have ih := bl_tot x y
    simp only [Op.bytesLess, Bool.or_eq_false_iff, decide_eq_false_iff_not, Bool.and_eq_false_iff, Bool.or_eq_true, decide_eq_true_eq, Bool.and_eq_true, beq_iff_eq, beq_eq_false_iff_ne] at h ⊢
    by_cases e : a = b
    · subst e
      refine .inr ⟨rfl, ih (h.2.resolve_left fun h => h rfl) fun e => hne (by rw [e])⟩
    · left
      have h1 := h.1
      rw [UInt8.lt_iff_toNat_lt] at h1 ⊢
      have : a.toNat ≠ b.toNat := fun h => e (UInt8.toNat_inj.1 h)
      omega
theorem slt_tot {a b : ByteArray} (h : std.slt a b = false) (hne : a ≠ b) : std.slt b a = true := by
  refine bl_tot _ _ h fun e => hne ?_
  rw [ByteArray.toList_eq, ByteArray.toList_eq] at e
  rw [← mk_self a, ← mk_self b, e]
def ascP : Option ByteArray → List GNode → Prop
  | _, [] => True
  | p, n :: t => (∀ q, p = some q → std.slt q n.Path = true) ∧ ascP (some n.Path) t
theorem asc_ins (n : GNode) (suf : List GNode) (hs : ∀ y t, suf = y :: t → std.slt n.Path y.Path = true) : ∀ (A : List GNode) (p : Option ByteArray), ascP p (A ++ suf) → (∀ x ∈ A, std.slt x.Path n.Path = true) → (A = [] → ∀ q, p = some q → std.slt q n.Path = true) → ascP p (A ++ n :: suf)
  | [], p, h, _, h0 => by
    refine ⟨h0 rfl, ?_⟩
    cases suf with
    | nil => trivial
    | cons y t => exact ⟨fun q hq => by injection hq with hq; subst hq; exact hs y t rfl, h.2⟩
  | x :: A, p, h, hA, _ => ⟨h.1, asc_ins n suf hs A (some x.Path) h.2 (fun y hy => hA y (List.mem_cons_of_mem _ hy)) fun _ q hq => by injection hq with hq; subst hq; exact hA x (List.mem_cons_self ..)⟩
theorem at_l0 (T : List GNode) (a : ByteArray) (hT : T.length ≤ 1000) (suf : List GNode) : ∀ (A : List GNode) (i : Int), T = A ++ suf → i = A.length → (∀ x ∈ A, x.Path ≠ a) → ∃ v, Ev (fun k => spec_l10At.l0 k T a i) v ∧ (0 ≤ v ∨ ∀ x ∈ T, x.Path ≠ a) := by
  induction suf with
  | nil =>
    intro A i h1 h2 h3
    refine ⟨-1, Ev.at fun k => ?_, .inr (by rw [h1, List.append_nil]; exact h3)⟩
    have : ¬ i < (T.length : Int) := by rw [h1]; simp; omega
    simp only [spec_l10At.l0, if_neg this]
  | cons x t ih =>
    intro A i h1 h2 h3
    have hlen : (T.length : Int) = A.length + t.length + 1 := by rw [h1]; exact len_mid A x t
    have hget : T.getD i.toNat DN = x := by rw [h1]; exact get_mid A x DN t h2
    have c1 : i < (T.length : Int) := by omega
    have c0 : 0 ≤ i := by omega
    by_cases hp : x.Path = a
    · refine ⟨i, Ev.at fun k => ?_, .inl c0⟩
      simp only [spec_l10At.l0, if_pos c1, if_pos c0]
      rw [hget, if_pos hp]
    · obtain ⟨v, hv, hr⟩ := ih (A ++ [x]) (i + 1) (by simp [h1]) (by simp; omega) (fun y hy => (List.mem_append.1 hy).elim (h3 y) fun hy => by rw [List.mem_singleton.1 hy]; exact hp)
      refine ⟨v, Ev.step (fun k => ?_) hv, hr⟩
      simp only [spec_l10At.l0, if_pos c1, if_pos c0]
      rw [hget, if_neg hp, w64 (by omega) (by omega)]
theorem at_ev (T : List GNode) (a : ByteArray) (hT : T.length ≤ 1000) : ∃ v, Ev (fun k => spec_l10At.f k T a) v ∧ (0 ≤ v ∨ ∀ x ∈ T, x.Path ≠ a) := at_l0 T a hT T [] 0 rfl rfl (fun x hx => by cases hx)
theorem put_done (T : List GNode) (n : GNode) (hT : T.length ≤ 1000) (suf : List GNode) : ∀ (A out : List GNode) (i : Int), T = A ++ suf → i = A.length → (∀ x ∈ suf, x.Path ≠ n.Path) → out.length + suf.length ≤ 10000 → Ev (fun k => spec_l10Put.l0 k T n out true i) (out ++ suf) := by
  induction suf with
  | nil =>
    intro A out i h1 h2 h3 h4
    refine Ev.at fun k => ?_
    have : ¬ i < (T.length : Int) := by rw [h1]; simp; omega
    simp only [spec_l10Put.l0, if_neg this]
    simp
  | cons x t ih =>
    intro A out i h1 h2 h3 h4
    simp only [List.length_cons] at h4
    have hlen : (T.length : Int) = A.length + t.length + 1 := by rw [h1]; exact len_mid A x t
    have hget : T.getD i.toNat DN = x := by rw [h1]; exact get_mid A x DN t h2
    have c1 : i < (T.length : Int) := by omega
    have c0 : 0 ≤ i := by omega
    have hp : ¬ x.Path = n.Path := h3 x (List.mem_cons_self ..)
    have hi := ih (A ++ [x]) (out ++ [x]) (i + 1) (by simp [h1]) (by simp; omega) (fun y hy => h3 y (List.mem_cons_of_mem _ hy)) (by simp; omega)
    rw [List.append_assoc] at hi
    refine Ev.step (fun k => ?_) hi
    simp only [spec_l10Put.l0, if_pos c1, if_pos c0, one_len]
    rw [if_pos trivial, hget, if_neg hp, if_pos (by omega), w64 (by omega) (by omega)]
theorem put_go (T : List GNode) (n : GNode) (hT : T.length ≤ 1000) (hne : ∀ x ∈ T, x.Path ≠ n.Path) (suf : List GNode) : ∀ (A : List GNode) (i : Int), T = A ++ suf → i = A.length → (∀ x ∈ A, std.slt x.Path n.Path = true) →
    ∃ A2 suf2, T = A2 ++ suf2 ∧ (∀ x ∈ A2, std.slt x.Path n.Path = true) ∧ (∀ y t, suf2 = y :: t → std.slt n.Path y.Path = true) ∧ Ev (fun k => spec_l10Put.l0 k T n A false i) (A2 ++ n :: suf2) := by
  induction suf with
  | nil =>
    intro A i h1 h2 h3
    refine ⟨A, [], h1, h3, (fun y t h => by cases h), Ev.at fun k => ?_⟩
    have : ¬ i < (T.length : Int) := by rw [h1]; simp; omega
    have hl : (A.length : Int) ≤ 1000 := by rw [h1] at hT; simp at hT; omega
    simp only [spec_l10Put.l0, if_neg this, one_len]
    rw [if_neg (by decide), if_pos (by omega)]
  | cons x t ih =>
    intro A i h1 h2 h3
    have hlen : (T.length : Int) = A.length + t.length + 1 := by rw [h1]; exact len_mid A x t
    have hget : T.getD i.toNat DN = x := by rw [h1]; exact get_mid A x DN t h2
    have c1 : i < (T.length : Int) := by omega
    have c0 : 0 ≤ i := by omega
    have hp : ¬ x.Path = n.Path := hne x (by rw [h1]; simp)
    have hw : IntKind.wrap .i64 (i + 1) = i + 1 := w64 (by omega) (by omega)
    cases hs : std.slt x.Path n.Path with
    | true =>
      obtain ⟨A2, suf2, r1, r2, r3, r4⟩ := ih (A ++ [x]) (i + 1) (by simp [h1]) (by simp; omega) (fun y hy => (List.mem_append.1 hy).elim (h3 y) fun hy => by rw [List.mem_singleton.1 hy]; exact hs)
      refine ⟨A2, suf2, r1, r2, r3, Ev.step (fun k => ?_) r4⟩
      simp only [spec_l10Put.l0, if_pos c1, if_pos c0, one_len]
      rw [if_neg (by decide), hget, if_pos hs, if_neg hp, if_pos (by omega), hw]
    | false =>
      have hd := put_done T n hT t (A ++ [x]) ((A ++ [n]) ++ [x]) (i + 1) (by simp [h1]) (by simp; omega) (fun y hy => hne y (by rw [h1]; simp [hy])) (by simp; omega)
      rw [show (A ++ [n]) ++ [x] ++ t = A ++ n :: x :: t by simp] at hd
      refine ⟨A, x :: t, h1, h3, (fun y t' h => by injection h with h _; rw [← h]; exact slt_tot hs hp), Ev.step (fun k => ?_) hd⟩
      have hl2 : (((A ++ [n]).length : Nat) : Int) = A.length + 1 := by simp
      simp only [spec_l10Put.l0, if_pos c1, if_pos c0, one_len, hl2]
      rw [if_neg (by decide), hget, if_neg (by rw [hs]; decide), if_pos (by omega), if_neg hp, if_pos (by omega), hw]
/-- A tree of right nodes that stand in order. -/
def Inv (T : List GNode) : Prop := (∀ n ∈ T, nOk n = true) ∧ ascP none T
theorem put_ev (T : List GNode) (n : GNode) (hT : T.length ≤ 900) (h : Inv T) (hn : nOk n = true) (hne : ∀ x ∈ T, x.Path ≠ n.Path) : ∃ T', Ev (fun k => spec_l10Put.f k T n) T' ∧ Inv T' ∧ T'.length = T.length + 1 := by
  obtain ⟨A, suf, r1, r2, r3, r4⟩ := put_go T n (by omega) hne T [] 0 rfl rfl (fun x hx => by cases hx)
  refine ⟨A ++ n :: suf, r4, ⟨fun x hx => ?_, asc_ins n suf r3 A none (r1 ▸ h.2) r2 (fun _ q hq => by cases hq)⟩, by rw [r1]; simp; omega⟩
  rcases List.mem_append.1 hx with hx | hx
  · exact h.1 x (by rw [r1]; simp [hx])
  · rcases List.mem_cons.1 hx with hx | hx
    · rw [hx]; exact hn
    · exact h.1 x (by rw [r1]; simp [hx])
end Go.I

/-! GIQE5 -/
set_option linter.unusedVariables false
set_option linter.unusedSimpArgs false
set_option maxRecDepth 100000
set_option maxHeartbeats 4000000
namespace Go.I
open Go
theorem nOk_g0 {z : GNode} (h : nOk z = true) : nOk ⟨z.Path, z.Kind, z.Mode, z.Time, z.Data, z.Target, 0⟩ = true := by
  unfold nOk at h ⊢
  dsimp only at h ⊢
  simp only [Bool.and_eq_true, decide_eq_true_eq] at h ⊢
  refine ⟨h.1, h.2.1, h.2.2.1, ?_⟩
  have h4 := h.2.2.2
  split at h4
  · rename_i hk
    rw [if_pos hk]
    simp only [Bool.and_eq_true, decide_eq_true_eq] at h4
    simp [h4.1, h4.2.1]
  · rename_i hk
    rw [if_neg hk]
    split at h4
    · rename_i hk1
      rw [if_pos hk1]
      simp only [Bool.and_eq_true, decide_eq_true_eq] at h4
      simp [h4.1, h4.2.1]
    · rename_i hk1
      rw [if_neg hk1]
      split at h4
      · rename_i hk2
        rw [if_pos hk2]
        simp only [Bool.and_eq_true, decide_eq_true_eq] at h4 ⊢
        exact ⟨h4.1, h4.2.1, trivial, h4.2.2.2⟩
      · cases h4
theorem nOk_copy {a b : GNode} (ha : nOk a = true) (hb : nOk b = true) (hk : a.Kind = 1) : nOk ⟨b.Path, a.Kind, a.Mode, a.Time, a.Data, a.Target, 3⟩ = true := by
  unfold nOk at ha hb ⊢
  dsimp only at ha hb ⊢
  simp only [Bool.and_eq_true, decide_eq_true_eq, hk, if_true, if_neg (show ¬ (1 : Int) = 0 by decide)] at ha hb ⊢
  exact ⟨hb.1, ha.2.1, ha.2.2.1, ha.2.2.2.1, ha.2.2.2.2.1, by decide⟩
def OkP (ps : List ByteArray) (L : List GNode) : Prop := (∀ n ∈ L, nOk n = true) ∧ L.map (·.Path) = ps
theorem OkP.len {ps : List ByteArray} {L : List GNode} (h : OkP ps L) : L.length = ps.length := by rw [← h.2, List.length_map]
theorem okP_mod (f : GNode → GNode) : ∀ (L : List GNode) (i : Nat), (∀ n ∈ L, nOk n = true) → (∀ z, L[i]? = some z → nOk (f z) = true ∧ (f z).Path = z.Path) → OkP (L.map (·.Path)) (L.modify i f)
  | [], i, h, _ => by cases i <;> exact ⟨fun n hn => by simp at hn, by simp⟩
  | x :: t, 0, h, hf => by
    have hx := hf x rfl
    refine ⟨fun n hn => ?_, ?_⟩
    · rw [List.modify_zero_cons] at hn
      rcases List.mem_cons.1 hn with hn | hn
      · rw [hn]; exact hx.1
      · exact h n (List.mem_cons_of_mem _ hn)
    · rw [List.modify_zero_cons, List.map_cons, List.map_cons, hx.2]
  | x :: t, i + 1, h, hf => by
    have ih := okP_mod f t i (fun n hn => h n (List.mem_cons_of_mem _ hn)) (fun z hz => hf z (by simpa using hz))
    refine ⟨fun n hn => ?_, ?_⟩
    · rw [List.modify_succ_cons] at hn
      rcases List.mem_cons.1 hn with hn | hn
      · rw [hn]; exact h x (List.mem_cons_self ..)
      · exact ih.1 n hn
    · rw [List.modify_succ_cons, List.map_cons, List.map_cons, ih.2]
theorem OkP.modify {ps : List ByteArray} {L : List GNode} (h : OkP ps L) (i : Nat) (f : GNode → GNode) (hf : ∀ z, L[i]? = some z → nOk (f z) = true ∧ (f z).Path = z.Path) : OkP ps (L.modify i f) := by
  have := okP_mod f L i h.1 hf
  rwa [h.2] at this
theorem ascP_paths : ∀ (L L' : List GNode) (p : Option ByteArray), L.map (·.Path) = L'.map (·.Path) → ascP p L → ascP p L'
  | [], [], _, _, _ => trivial
  | [], y :: L', _, h, _ => by simp at h
  | x :: L, [], _, h, _ => by simp at h
  | x :: L, y :: L', p, h, ha => by
    rw [List.map_cons, List.map_cons] at h
    injection h with h1 h2
    exact ⟨fun q hq => h1 ▸ ha.1 q hq, h1 ▸ ascP_paths L L' (some x.Path) h2 ha.2⟩
theorem lone_l0 (T : List GNode) (hT : T.length ≤ 1000) (ps : List ByteArray) (hps : ps.length = T.length) : ∀ (m : Nat) (i : Int) (L : List GNode), i + m = T.length → 0 ≤ i → OkP ps L → ∃ r, Ev (fun k => spec_l10Lone.l0 k T L i) r ∧ OkP ps r := by
  intro m
  induction m with
  | zero =>
    intro i L h1 h2 h3
    refine ⟨L, Ev.at fun k => ?_, h3⟩
    simp only [spec_l10Lone.l0]
    rw [if_neg (by omega)]
  | succ m ih =>
    intro i L h1 h2 h3
    have hL : (L.length : Int) = T.length := by rw [h3.len, hps]
    have in_l2 : ∀ (m2 : Nat) (j c : Int), j + m2 = T.length → 0 ≤ j → 0 ≤ c → c ≤ j → ∃ r, Ev (fun k => spec_l10Lone.l2 k T L i c j) r ∧ OkP ps r := by
      intro m2
      induction m2 with
      | zero =>
        intro j c g1 g2 g3 g4
        by_cases hc : c < 2
        · obtain ⟨r, e, hr⟩ := ih (i + 1) (L.modify i.toNat fun z => ⟨z.Path, z.Kind, z.Mode, z.Time, z.Data, z.Target, 0⟩) (by omega) (by omega) (h3.modify _ _ fun z hz => ⟨nOk_g0 (h3.1 z (List.mem_of_getElem? hz)), rfl⟩)
          refine ⟨r, Ev.step (fun k => ?_) e, hr⟩
          simp only [spec_l10Lone.l2]
          rw [if_neg (by omega), if_pos hc, if_pos h2, if_pos (by omega), w64 (by omega) (by omega)]
        · obtain ⟨r, e, hr⟩ := ih (i + 1) L (by omega) (by omega) h3
          refine ⟨r, Ev.step (fun k => ?_) e, hr⟩
          simp only [spec_l10Lone.l2]
          rw [if_neg (by omega), if_neg hc, w64 (by omega) (by omega)]
      | succ m2 ih2 =>
        intro j c g1 g2 g3 g4
        have w1 : IntKind.wrap .i64 (j + 1) = j + 1 := w64 (by omega) (by omega)
        have w2 : IntKind.wrap .i64 (c + 1) = c + 1 := w64 (by omega) (by omega)
        have c1 : j < (T.length : Int) := by omega
        have c2 : i < (T.length : Int) := by omega
        by_cases hg : (T.getD j.toNat DN).Group = (T.getD i.toNat DN).Group
        · obtain ⟨r, e, hr⟩ := ih2 (j + 1) (c + 1) (by omega) (by omega) (by omega) (by omega)
          refine ⟨r, Ev.step (fun k => ?_) e, hr⟩
          simp only [spec_l10Lone.l2, if_pos c1, if_pos g2, if_pos c2, if_pos h2, w1, w2]
          rw [if_pos hg]
        · obtain ⟨r, e, hr⟩ := ih2 (j + 1) c (by omega) (by omega) (by omega) (by omega)
          refine ⟨r, Ev.step (fun k => ?_) e, hr⟩
          simp only [spec_l10Lone.l2, if_pos c1, if_pos g2, if_pos c2, if_pos h2, w1, w2]
          rw [if_neg hg]
    obtain ⟨r, e, hr⟩ := in_l2 T.length 0 0 (by omega) (by omega) (by omega) (by omega)
    refine ⟨r, Ev.step (fun k => ?_) e, hr⟩
    simp only [spec_l10Lone.l0]
    rw [if_pos (by omega)]
theorem lone_ev (T : List GNode) (hT : T.length ≤ 1000) (ps : List ByteArray) (h : OkP ps T) : ∃ r, Ev (fun k => spec_l10Lone.f k T) r ∧ OkP ps r := by
  obtain ⟨r, e, hr⟩ := lone_l0 T hT ps h.len.symm T.length 0 T (by omega) (by decide) h
  refine ⟨r, Ev.congr (fun k => ?_) e, hr⟩
  unfold spec_l10Lone.f
  rw [if_pos (by simp only [List.length_nil]; omega), List.nil_append]
/-- The draws' last part: files under one Group. -/
theorem group_step (L : List GNode) (ps : List ByteArray) (h : OkP ps L) (f i : Int) (hf : 0 ≤ f) (hfi : f < i) (hi : i < (L.length : Int)) (hl : L.length ≤ 1000) (hk : (L.getD f.toNat DN).Kind = 1) (hki : (L.getD i.toNat DN).Kind = 1) (b : List Int) (c d : Int) (q : Bool × GL01Cur)
    (hq : spec_l01Once_i.f ⟨b, c, d⟩ 2 = some q) (hq1 : q.1 = true) : ∃ L', (∀ k, spec_l10Tree_i.l2 (k + 1) L f i b c d = spec_l10Tree_i.l2 k L' f (i + 1) q.2.B q.2.I q.2.H) ∧ OkP ps L' ∧ (L'.getD f.toNat DN).Kind = 1 := by
  have hi0 : 0 ≤ i := by omega
  have hfl : f < (L.length : Int) := by omega
  have hw : IntKind.wrap .i64 (i + 1) = i + 1 := w64 (by omega) (by omega)
  have hfn : ¬ f < 0 := by omega
  have key : ∃ L', (∀ k, spec_l10Tree_i.l2 (k + 1) L f i b c d = spec_l10Tree_i.l2 k L' f (i + 1) q.2.B q.2.I q.2.H) ∧
      L' = (L.modify f.toNat fun z => ⟨z.Path, z.Kind, z.Mode, z.Time, z.Data, z.Target, 3⟩).modify i.toNat fun z => ⟨(L.getD i.toNat DN).Path, ((L.modify f.toNat fun z => ⟨z.Path, z.Kind, z.Mode, z.Time, z.Data, z.Target, 3⟩).getD f.toNat DN).Kind,
        ((L.modify f.toNat fun z => ⟨z.Path, z.Kind, z.Mode, z.Time, z.Data, z.Target, 3⟩).getD f.toNat DN).Mode, ((L.modify f.toNat fun z => ⟨z.Path, z.Kind, z.Mode, z.Time, z.Data, z.Target, 3⟩).getD f.toNat DN).Time,
        ((L.modify f.toNat fun z => ⟨z.Path, z.Kind, z.Mode, z.Time, z.Data, z.Target, 3⟩).getD f.toNat DN).Data, ((L.modify f.toNat fun z => ⟨z.Path, z.Kind, z.Mode, z.Time, z.Data, z.Target, 3⟩).getD f.toNat DN).Target,
        ((L.modify f.toNat fun z => ⟨z.Path, z.Kind, z.Mode, z.Time, z.Data, z.Target, 3⟩).getD f.toNat DN).Group⟩ := by
    apply Exists.intro
    apply And.intro
    · intro k
      simp only [spec_l10Tree_i.l2, List.length_modify, if_pos hi, if_pos hi0, if_pos hfl, if_pos hf, if_pos hki, if_neg hfn, hq, bnd, if_pos hq1, hw]
      rfl
    · simp only [List.modify_modify_eq, Function.comp_def]
  obtain ⟨L', hstep, hL'⟩ := key
  have ef : L[f.toNat]? = some (L.getD f.toNat DN) := by
    rw [List.getD_eq_getElem?_getD, List.getElem?_eq_getElem (by omega)]; rfl
  have ei : L[i.toNat]? = some (L.getD i.toNat DN) := by
    rw [List.getD_eq_getElem?_getD, List.getElem?_eq_getElem (by omega)]; rfl
  have hne : ¬ f.toNat = i.toNat := by omega
  have hM : (L.modify f.toNat fun z => ⟨z.Path, z.Kind, z.Mode, z.Time, z.Data, z.Target, 3⟩).getD f.toNat DN = ⟨(L.getD f.toNat DN).Path, (L.getD f.toNat DN).Kind, (L.getD f.toNat DN).Mode, (L.getD f.toNat DN).Time, (L.getD f.toNat DN).Data, (L.getD f.toNat DN).Target, 3⟩ := by
    rw [List.getD_eq_getElem?_getD, List.getElem?_modify, ef]
    simp
  have okf := h.1 _ (List.mem_of_getElem? ef)
  have oki := h.1 _ (List.mem_of_getElem? ei)
  have h1 := h.modify f.toNat (fun z => ⟨z.Path, z.Kind, z.Mode, z.Time, z.Data, z.Target, 3⟩) (fun z hz => by
    rw [ef] at hz
    injection hz with hz
    subst hz
    exact ⟨nOk_copy okf okf hk, rfl⟩)
  refine ⟨L', hstep, ?_, ?_⟩
  · rw [hL', hM]
    refine h1.modify _ _ fun z hz => ⟨nOk_copy (a := L.getD f.toNat DN) (b := L.getD i.toNat DN) okf oki hk, ?_⟩
    rw [List.getElem?_modify, ei] at hz
    generalize L.getD i.toNat DN = zi at hz ⊢
    simp only [hne, if_false, Option.map_eq_map, Option.map_some, Option.some.injEq] at hz
    rw [← hz]
  · rw [hL', List.getD_eq_getElem?_getD, List.getElem?_modify, List.getElem?_modify, ef]
    have hne' : ¬ i.toNat = f.toNat := by omega
    simp [hne']
    simpa using hk
end Go.I

/-! GIQE6 -/
set_option linter.unusedVariables false
set_option linter.unusedSimpArgs false
set_option maxRecDepth 100000
set_option maxHeartbeats 4000000
namespace Go.I
open Go
theorem nOk_path {n : GNode} (h : nOk n = true) : n.Path.size ≤ 168 := by
  unfold nOk at h
  simp only [Bool.and_eq_true, decide_eq_true_eq] at h
  have := pth_small h.1
  rwa [ba_len] at this
section
variable (l : List Int) (hl : l.length ≤ 4611686018427387904)
include hl
theorem tree_l2 (ps : List ByteArray) : ∀ (m : Nat) (L : List GNode) (f i c d : Int), Okst l c d → OkP ps L → L.length ≤ 1000 → i + m = L.length → 0 ≤ i → (f < 0 ∨ 0 ≤ f ∧ f < i ∧ (L.getD f.toNat DN).Kind = 1) →
    ∃ r q, Ev (fun k => spec_l10Tree_i.l2 k L f i l c d) (r, q) ∧ OkP ps r := by
  intro m
  induction m with
  | zero =>
    intro L f i c d hk h hL h1 h2 h3
    obtain ⟨r, e, hr⟩ := lone_ev L hL ps h
    refine ⟨r, ⟨l, c, d⟩, Ev.step (g := fun k => (spec_l10Lone.f k L).bind fun r92 => some (r92, (⟨l, c, d⟩ : GL01Cur))) (fun k => ?_) (Ev.bind e Ev.sm), hr⟩
    simp only [spec_l10Tree_i.l2]
    rw [if_neg (by omega)]
  | succ m ih =>
    intro L f i c d hk h hL h1 h2 h3
    have hi : i < (L.length : Int) := by omega
    have hw : IntKind.wrap .i64 (i + 1) = i + 1 := w64 (by omega) (by omega)
    by_cases hki : (L.getD i.toNat DN).Kind = 1
    · rcases h3 with hf | ⟨hf0, hf1, hfk⟩
      · obtain ⟨r, q, e, hr⟩ := ih L i (i + 1) c d hk h hL (by omega) (by omega) (.inr ⟨h2, by omega, hki⟩)
        refine ⟨r, q, Ev.step (fun k => ?_) e, hr⟩
        simp only [spec_l10Tree_i.l2, if_pos hi, if_pos h2, if_pos hki, if_pos hf, hw]
      · obtain ⟨bo, c', d', eo, hk'⟩ := once_ev l hl c d hk 2 (by decide) (by decide)
        have hfn : ¬ f < 0 := by omega
        cases bo with
        | true =>
          obtain ⟨L', hs, hL', hfk'⟩ := group_step L ps h f i hf0 hf1 hi hL hfk hki l c d _ eo rfl
          have hln : L'.length = L.length := by rw [hL'.len, h.len]
          obtain ⟨r, q, e, hr⟩ := ih L' f (i + 1) c' d' hk' hL' (by omega) (by omega) (by omega) (.inr ⟨hf0, by omega, hfk'⟩)
          exact ⟨r, q, Ev.step hs e, hr⟩
        | false =>
          obtain ⟨r, q, e, hr⟩ := ih L f (i + 1) c' d' hk' h hL (by omega) (by omega) (.inr ⟨hf0, by omega, hfk⟩)
          refine ⟨r, q, Ev.step (fun k => ?_) e, hr⟩
          simp only [spec_l10Tree_i.l2, if_pos hi, if_pos h2, if_pos hki, if_neg hfn, eo, bnd, hw]
          rw [if_neg (by decide)]
    · obtain ⟨r, q, e, hr⟩ := ih L f (i + 1) c d hk h hL (by omega) (by omega) (h3.imp id fun h => ⟨h.1, by omega, h.2.2⟩)
      refine ⟨r, q, Ev.step (fun k => ?_) e, hr⟩
      simp only [spec_l10Tree_i.l2, if_pos hi, if_pos h2, if_neg hki, hw]
theorem body_ev (n j : Int) (dir : ByteArray) (hdir : dir.size ≤ 1000) (L : List GNode) (hL : L.length ≤ 100) (hI : Inv L) (c d : Int) (hk : Okst l c d)
    (next : ∀ (L' : List GNode) (c' d' : Int), Okst l c' d' → Inv L' → L'.length ≤ L.length + 1 → ∃ r q, Ev (fun k => spec_l10Tree_i.l0 k n L' j l c' d') (r, q) ∧ Inv r ∧ r.length ≤ 100) :
    ∃ r q, Ev (fun k => (spec_l02Name_i.f ⟨l, c, d⟩).bind fun r71 => (spec_JoinPath.f k dir r71.1).bind fun r72 => if r72 = (⟨#[]⟩ : ByteArray) then spec_l10Tree_i.l0 k n L j r71.2.B r71.2.I r71.2.H else
      (spec_l10At.f k L r72).bind fun r73 => if 0 ≤ r73 then spec_l10Tree_i.l0 k n L j r71.2.B r71.2.I r71.2.H else
        (spec_l10Node_i.f k r71.2 r72).bind fun r74 => (spec_l10Put.f k L r74.1).bind fun r75 => spec_l10Tree_i.l0 k n r75 j r74.2.B r74.2.I r74.2.H) (r, q) ∧ Inv r ∧ r.length ≤ 100 := by
  obtain ⟨v, c1, d1, e1, hv, k1⟩ := name_ev l hl c d hk
  obtain ⟨p, e2, hp⟩ := join_ev dir v hdir (by omega)
  have hsame := next L c1 d1 k1 hI (by omega)
  have head : ∀ {r : List GNode} {q : GL01Cur}, Ev (fun k => if p = (⟨#[]⟩ : ByteArray) then spec_l10Tree_i.l0 k n L j l c1 d1 else
      (spec_l10At.f k L p).bind fun r73 => if 0 ≤ r73 then spec_l10Tree_i.l0 k n L j l c1 d1 else
        (spec_l10Node_i.f k ⟨l, c1, d1⟩ p).bind fun r74 => (spec_l10Put.f k L r74.1).bind fun r75 => spec_l10Tree_i.l0 k n r75 j r74.2.B r74.2.I r74.2.H) (r, q) →
      Ev (fun k => (spec_l02Name_i.f ⟨l, c, d⟩).bind fun r71 => (spec_JoinPath.f k dir r71.1).bind fun r72 => if r72 = (⟨#[]⟩ : ByteArray) then spec_l10Tree_i.l0 k n L j r71.2.B r71.2.I r71.2.H else
      (spec_l10At.f k L r72).bind fun r73 => if 0 ≤ r73 then spec_l10Tree_i.l0 k n L j r71.2.B r71.2.I r71.2.H else
        (spec_l10Node_i.f k r71.2 r72).bind fun r74 => (spec_l10Put.f k L r74.1).bind fun r75 => spec_l10Tree_i.l0 k n r75 j r74.2.B r74.2.I r74.2.H) (r, q) := by
    intro r q e
    refine Ev.congr (g := fun k => (spec_JoinPath.f k dir v).bind fun r72 => if r72 = (⟨#[]⟩ : ByteArray) then spec_l10Tree_i.l0 k n L j l c1 d1 else
      (spec_l10At.f k L r72).bind fun r73 => if 0 ≤ r73 then spec_l10Tree_i.l0 k n L j l c1 d1 else
        (spec_l10Node_i.f k ⟨l, c1, d1⟩ r72).bind fun r74 => (spec_l10Put.f k L r74.1).bind fun r75 => spec_l10Tree_i.l0 k n r75 j r74.2.B r74.2.I r74.2.H) (fun k => by rw [e1, bnd]) (Ev.bind e2 e)
  by_cases h0 : p = (⟨#[]⟩ : ByteArray)
  · obtain ⟨r, q, e, hr⟩ := hsame
    exact ⟨r, q, head (Ev.iteP (fun _ => e) fun h => absurd h0 h), hr⟩
  obtain ⟨a, e3, ha⟩ := at_ev L p (by omega)
  by_cases hge : 0 ≤ a
  · obtain ⟨r, q, e, hr⟩ := hsame
    exact ⟨r, q, head (Ev.iteP (fun h => absurd h h0) fun _ => Ev.bind e3 (Ev.iteP (fun _ => e) fun h => absurd hge h)), hr⟩
  · obtain ⟨nd, c2, d2, e4, hnp, hnd, k2⟩ := node_ev l hl c1 d1 k1 p (hp.resolve_left h0)
    obtain ⟨T', e5, hI', hl'⟩ := put_ev L nd (by omega) hI hnd (by rw [hnp]; exact ha.resolve_left hge)
    obtain ⟨r, q, e, hr⟩ := next T' c2 d2 k2 hI' (by omega)
    exact ⟨r, q, head (Ev.iteP (fun h => absurd h h0) fun _ => Ev.bind e3 (Ev.iteP (fun h => absurd h hge) fun _ => Ev.bind e4 (Ev.bind e5 e))), hr⟩
theorem tree_l0 (n : Int) (hn : n ≤ 14) : ∀ (m : Nat) (L : List GNode) (j c d : Int), Okst l c d → Inv L → (L.length : Int) ≤ j → 0 ≤ j → n ≤ j + m → j ≤ 20 → ∃ r q, Ev (fun k => spec_l10Tree_i.l0 k n L j l c d) (r, q) ∧ Inv r ∧ r.length ≤ 100 := by
  have fin : ∀ (L : List GNode) (j c d : Int), Okst l c d → Inv L → (L.length : Int) ≤ j → 0 ≤ j → n ≤ j → j ≤ 20 → ∃ r q, Ev (fun k => spec_l10Tree_i.l0 k n L j l c d) (r, q) ∧ Inv r ∧ r.length ≤ 100 := by
    intro L j c d hk hI h1 h2 h3 h4
    have back : ∀ {r : List GNode}, OkP (L.map (·.Path)) r → Inv r ∧ r.length ≤ 100 := fun {r} h => ⟨⟨h.1, ascP_paths L r none h.2.symm hI.2⟩, by have := h.len; rw [List.length_map] at this; omega⟩
    have hO : OkP (L.map (·.Path)) L := ⟨hI.1, rfl⟩
    obtain ⟨bo, c', d', eo, hk'⟩ := once_ev l hl c d hk 3 (by decide) (by decide)
    cases bo with
    | true =>
      obtain ⟨r, q, e, hr⟩ := tree_l2 l hl _ L.length L (-1) 0 c' d' hk' hO (by omega) (by omega) (by decide) (.inl (by decide))
      refine ⟨r, q, Ev.step (fun k => ?_) e, back hr⟩
      simp only [spec_l10Tree_i.l0]
      rw [if_neg (by omega), eo, bnd]
      dsimp only
      rw [if_pos rfl]
    | false =>
      obtain ⟨r, e, hr⟩ := lone_ev L (by omega) _ hO
      refine ⟨r, ⟨l, c', d'⟩, Ev.step (g := fun k => (spec_l10Lone.f k L).bind fun r93 => some (r93, (⟨l, c', d'⟩ : GL01Cur))) (fun k => ?_) (Ev.bind e Ev.sm), back hr⟩
      simp only [spec_l10Tree_i.l0]
      rw [if_neg (by omega), eo, bnd]
      dsimp only
      rw [if_neg (by decide)]
  intro m
  induction m with
  | zero => intro L j c d hk hI h1 h2 h3 h4; exact fin L j c d hk hI h1 h2 (by omega) h4
  | succ m ih =>
    intro L j c d hk hI h1 h2 h3 h4
    by_cases hj : j < n
    · have hw : IntKind.wrap .i64 (j + 1) = j + 1 := w64 (by omega) (by omega)
      have hbody := fun (dir : ByteArray) (hdir : dir.size ≤ 1000) (c' d' : Int) (hk' : Okst l c' d') => body_ev l hl n (j + 1) dir hdir L (by omega) hI c' d' hk' (fun L' c2 d2 k2 hI2 hl2 => ih L' (j + 1) c2 d2 k2 hI2 (by omega) (by omega) (by omega) (by omega))
      by_cases hpos : 0 < (L.length : Int)
      · obtain ⟨bo, c1, d1, eo, k1⟩ := once_ev l hl c d hk 3 (by decide) (by decide)
        cases bo with
        | true =>
          obtain ⟨r, q, e, hr⟩ := hbody (⟨#[]⟩ : ByteArray) (by decide) c1 d1 k1
          refine ⟨r, q, Ev.step (fun k => ?_) e, hr⟩
          simp only [spec_l10Tree_i.l0, hw]
          rw [if_pos hj, if_pos hpos, eo, bnd]
          dsimp only
          rw [if_pos rfl]
        | false =>
          obtain ⟨x, e2, hx0, hx1, _⟩ := below_ev l hl c1 d1 k1 L.length (by omega) (by omega)
          have k2 : Okst l (nx l c1) (LC d1) := k1.dn 1
          by_cases hkd : (L.getD x.toNat DN).Kind = 0
          · have hsz : (L.getD x.toNat DN).Path.size ≤ 1000 := by
              have : L.getD x.toNat DN ∈ L := by
                rw [List.getD_eq_getElem?_getD, List.getElem?_eq_getElem (by omega)]
                exact List.getElem_mem _
              have := nOk_path (hI.1 _ this)
              omega
            obtain ⟨r, q, e, hr⟩ := hbody (L.getD x.toNat DN).Path hsz _ _ k2
            refine ⟨r, q, Ev.step (fun k => ?_) e, hr⟩
            simp only [spec_l10Tree_i.l0, hw]
            rw [if_pos hj, if_pos hpos, eo, bnd]
            dsimp only
            rw [if_neg (by decide), e2, bnd]
            dsimp only
            rw [if_pos hx0, if_pos hx1, if_pos hkd, if_pos hx0, if_pos hx1]
          · obtain ⟨r, q, e, hr⟩ := hbody (⟨#[]⟩ : ByteArray) (by decide) _ _ k2
            refine ⟨r, q, Ev.step (fun k => ?_) e, hr⟩
            simp only [spec_l10Tree_i.l0, hw]
            rw [if_pos hj, if_pos hpos, eo, bnd]
            dsimp only
            rw [if_neg (by decide), e2, bnd]
            dsimp only
            rw [if_pos hx0, if_pos hx1, if_neg hkd]
      · obtain ⟨r, q, e, hr⟩ := hbody (⟨#[]⟩ : ByteArray) (by decide) c d hk
        refine ⟨r, q, Ev.step (fun k => ?_) e, hr⟩
        simp only [spec_l10Tree_i.l0, hw]
        rw [if_pos hj, if_neg hpos]
    · exact fin L j c d hk hI h1 h2 (by omega) h4
end
theorem and30 (n : Int) : 0 ≤ std.bits .and .i64 n 1073741823 ∧ std.bits .and .i64 n 1073741823 < 1073741824 := by
  have h255 : (BitVec.ofInt 64 1073741823).toNat = 2 ^ 30 - 1 := by decide
  have key : (BitVec.ofInt 64 n &&& BitVec.ofInt 64 1073741823).toNat = (n % ((2 ^ 64 : Nat) : Int)).toNat % 2 ^ 30 := by
    rw [BitVec.toNat_and, BitVec.toNat_ofInt, h255, Nat.and_two_pow_sub_one_eq_mod]
  have : std.bits .and .i64 n 1073741823 = IntKind.wrap .i64 ((BitVec.ofInt 64 n &&& BitVec.ofInt 64 1073741823).toNat : Nat) := rfl
  rw [this, key, w64 (by omega) (by omega)]
  omega
theorem new_l0 (l : List Int) (hl : l.length ≤ 4611686018427387904) : ∀ (m : Nat) (h i : Int), i + m = l.length → 0 ≤ i → (-9223372036854775808 ≤ h ∧ h < 9223372036854775808) → ∃ h', Ev (fun k => spec_l01New.l0 k l h i) (⟨l, 0, h'⟩ : GL01Cur) ∧ (-9223372036854775808 ≤ h' ∧ h' < 9223372036854775808) := by
  intro m
  induction m with
  | zero =>
    intro h i h1 h2 h3
    refine ⟨h, Ev.at fun k => ?_, h3⟩
    simp only [spec_l01New.l0]
    rw [if_neg (by omega)]
  | succ m ih =>
    intro h i h1 h2 h3
    by_cases h4 : i < 4000
    · obtain ⟨h', e, hr⟩ := ih (std.bits .and .i64 (IntKind.wrap .i64 ((IntKind.wrap .i64 ((IntKind.wrap .i64 (h * 131)) + (IntKind.wrap .i64 (l.getD (Int.toNat i) 0)))) + 7)) 1073741823) (i + 1) (by omega) (by omega) (by have := and30 (IntKind.wrap .i64 ((IntKind.wrap .i64 ((IntKind.wrap .i64 (h * 131)) + (IntKind.wrap .i64 (l.getD (Int.toNat i) 0)))) + 7)); omega)
      refine ⟨h', Ev.step (fun k => ?_) e, hr⟩
      simp only [spec_l01New.l0]
      rw [if_pos (by omega), if_pos h4, if_pos h2, if_pos (by omega), w64 (x := i + 1) (by omega) (by omega)]
    · refine ⟨h, Ev.at fun k => ?_, h3⟩
      simp only [spec_l01New.l0]
      rw [if_pos (by omega), if_neg h4]
/-- Every drawn tree is right. -/
theorem draw_ev (l : List Int) (hl : l.length ≤ 1048576) : ∃ T, Ev (fun k => spec_DrawTree.f k l) T ∧ Inv T ∧ T.length ≤ 100 := by
  obtain ⟨h', e1, hr⟩ := new_l0 l (by omega) l.length (100100 + l.length) 0 (by omega) (by decide) (by omega)
  have e1' : Ev (fun k => spec_l01New.f k l) (⟨l, 0, h'⟩ : GL01Cur) := Ev.congr (fun k => by unfold spec_l01New.f; rw [w64 (by omega) (by omega)]) e1
  obtain ⟨s, e2, hs⟩ : ∃ s, spec_l01Size.f l 14 = some s ∧ s ≤ 14 := by
    unfold spec_l01Size.f
    rw [if_neg (by decide)]
    split
    · exact ⟨14, rfl, by decide⟩
    · rename_i h
      exact ⟨_, rfl, by omega⟩
  obtain ⟨T, q, e3, hI, hT⟩ := tree_l0 l (by omega) s hs 14 [] 0 0 h' ⟨by decide, by omega, hr⟩ ⟨(fun n hn => by cases hn), trivial⟩ (by decide) (by decide) (by omega) (by decide)
  refine ⟨T, ?_, hI, hT⟩
  unfold spec_DrawTree.f
  refine Ev.bind e1' ?_
  refine Ev.congr (g := fun k => (spec_l10Tree_i.f k ⟨l, 0, h'⟩ s).bind fun r2 => some r2.1) (fun k => by rw [e2, bnd]) ?_
  exact Ev.bind (a := (T, q)) e3 Ev.sm
end Go.I

/-! GIQE7 -/
set_option linter.unusedVariables false
set_option linter.unusedSimpArgs false
set_option maxRecDepth 100000
set_option maxHeartbeats 4000000
namespace Go.I
open Go
/-! ### the list of a right tree comes back -/
abbrev DE : GEntry := ⟨(⟨#[]⟩ : ByteArray), 0, 0, 0, 0, (⟨#[]⟩ : ByteArray), 0⟩
theorem bytes_str {b : List Int} (h : Byt b) : std.bytesOf (std.strOf b) = b := str_inj (nb_byt (std.strOf b)) h (strOf_nb (std.strOf b))
theorem tail_bad (a : List Int) (L : List GEntry) (hL : EOk L = true) (ha : std.strOf (PEn L) ≠ std.strOf a) : Ev (fun k => if false = true then some (([] : List GEntry), false) else (impl_EntriesOk.f k L).bind fun r => if r = true then (impl_entriesText.f k L).bind fun s => if s = std.strOf a then some (L, true) else some ([], false) else some ([], false)) ([], false) :=
  Ev.congr (fun k => if_neg (by decide)) (Ev.bind (hL ▸ impl_Ok L) (Ev.iteP (fun _ => Ev.bind (impl_enc L hL) (Ev.iteP (fun h => absurd h ha) fun _ => Ev.sm)) fun h => absurd rfl h))
theorem ents_bad (a : List Int) (x : List Int) (hx : Byt x) (hxl : x.length ≤ 1000) (L : List GEntry) (hL : EOk L = true) (ha : std.strOf (PEn L) ≠ std.strOf a) (r0 : Int × GReader) (hr0 : r0.1 = L.length) (suf : List GEntry) : ∀ (A : List GEntry) (p : Option GEntry) (i : Int) (q : GEntry), L = A ++ suf → i = A.length → q = p.getD E0 → ords p suf = true → q.Path.size ≤ 1000000 →
    Ev (fun k => impl_GetEntries.l0 k a r0 A i q.Path q.Kind q.Mode q.Time q.Size q.Target q.Group (std.strOf (encL p suf ++ x)) false) ([], false) := by
  have hLl : (L.length : Int) ≤ 200 := by unfold EOk at hL; simp only [Bool.and_eq_true, decide_eq_true_eq] at hL; exact hL.1
  induction suf with
  | nil =>
    intro A p i q h hi hq ho hqs
    rw [List.append_nil] at h
    subst h
    have c1 : ¬ i < r0.1 := by rw [hr0]; omega
    refine Ev.up ?_
    simp only [impl_GetEntries.l0, if_neg c1]
    exact tail_bad a L hL ha
  | cons e t ih =>
    intro A p i q h hi hq ho hqs
    have hA : (L.length : Int) = A.length + t.length + 1 := by rw [h]; simp; omega
    unfold ords at ho
    simp only [Bool.and_eq_true] at ho
    obtain ⟨he, _, ho⟩ := ho
    have hP := (eOk_facts he).1
    have hel := encL_len (some e) t ho
    have hn := ih (A ++ [e]) (some e) (i + 1) e (by rw [h]; simp) (by simp; omega) rfl ho (by omega)
    have c1 : i < r0.1 := by rw [hr0]; omega
    have c2 : i ≤ 200 := by omega
    have w1 : IntKind.wrap .i64 (i + 1) = i + 1 := w64 (by omega) (by omega)
    refine Ev.up ?_
    simp only [impl_GetEntries.l0, if_pos c1, if_pos c2, Bool.false_eq_true, if_false, w1, encL, List.append_assoc]
    exact Ev.bind (entry_ok p q e hq he hqs (encL (some e) t ++ x) ((encL_byt _ _).app hx) (by rw [List.length_append]; omega)) (Ev.guard (by simp; omega) hn)
theorem Get_bad (L : List GEntry) (hL : EOk L = true) : Ev (fun k => impl_GetEntries.f k (PEn L ++ [1])) ([], false) := by
  have hL' := hL
  unfold EOk at hL'
  simp only [Bool.and_eq_true, decide_eq_true_eq] at hL'
  have hel := encL_len none L hL'.2
  have hx : Byt [1] := fun x hx => by rw [List.mem_singleton.1 hx]; decide
  have ha : std.strOf (PEn L) ≠ std.strOf (PEn L ++ [1]) := fun h => by
    have h1 := congrArg ByteArray.size h
    rw [str_size, str_size, List.length_append] at h1
    simp at h1
  simp only [impl_GetEntries.f]
  have e : PEn L ++ [1] = dg L.length ++ (encL none L ++ [1]) := by rw [PEn, List.append_assoc]
  refine Ev.bind (a := ((L.length : Int), (⟨std.strOf (encL none L ++ [1]), false⟩ : GReader))) ?_ ?_
  · rw [e]
    exact number_ok L.length (by omega) (encL none L ++ [1]) ((encL_byt _ _).app hx)
  · exact ents_bad _ [1] hx (by decide) L hL ha _ rfl L [] none 0 E0 rfl rfl rfl hL'.2 (by decide)
def entOf (n : GNode) : GEntry := ⟨n.Path, n.Kind, n.Mode, n.Time, n.Data.size, n.Target, n.Group⟩
theorem eOk_of {n : GNode} (h : nOk n = true) : eOk (entOf n) = true := by
  unfold eOk nodeOf entOf
  unfold nOk at h ⊢
  dsimp only at h ⊢
  simp only [Bool.and_eq_true, decide_eq_true_eq, Bool.or_eq_true] at h ⊢
  have h4 := h.2.2.2
  have hz : ((⟨#[]⟩ : ByteArray).size : Int) = 0 := rfl
  split at h4
  · rename_i hk
    simp only [Bool.and_eq_true, decide_eq_true_eq] at h4
    rw [if_pos hk, h4.1]
    refine ⟨⟨h.1, h.2.1, h.2.2.1, ?_⟩, by decide, .inr rfl⟩
    simp [h4.2.1, h4.2.2]
  · rename_i hk
    rw [if_neg hk]
    split at h4
    · rename_i hk1
      simp only [Bool.and_eq_true, decide_eq_true_eq] at h4
      rw [if_pos hk1]
      refine ⟨⟨h.1, h.2.1, h.2.2.1, ?_⟩, ⟨by omega, h4.1⟩, .inl hk1⟩
      simp only [Bool.and_eq_true, decide_eq_true_eq]
      exact ⟨by decide, h4.2.1, h4.2.2⟩
    · rename_i hk1
      rw [if_neg hk1]
      split at h4
      · rename_i hk2
        simp only [Bool.and_eq_true, decide_eq_true_eq] at h4
        rw [if_pos hk2, h4.1]
        refine ⟨⟨h.1, h.2.1, h.2.2.1, ?_⟩, by decide, .inr rfl⟩
        simp only [Bool.and_eq_true, decide_eq_true_eq]
        exact ⟨trivial, h4.2⟩
      · cases h4
theorem ords_of : ∀ (T : List GNode) (p : Option GEntry), (∀ n ∈ T, nOk n = true) → ascP (p.map (·.Path)) T → ords p (T.map entOf) = true
  | [], _, _, _ => rfl
  | n :: T, p, h, ha => by
    rw [List.map_cons]
    unfold ords
    simp only [Bool.and_eq_true]
    refine ⟨eOk_of (h n (List.mem_cons_self ..)), ?_, ords_of T (some (entOf n)) (fun m hm => h m (List.mem_cons_of_mem _ hm)) ha.2⟩
    cases p with
    | none => rfl
    | some q => exact ha.1 q.Path rfl
theorem EOk_of {T : List GNode} (h : Inv T) (hl : T.length ≤ 100) : EOk (T.map entOf) = true := by
  unfold EOk
  simp only [Bool.and_eq_true, decide_eq_true_eq]
  exact ⟨by rw [List.length_map]; omega, ords_of T none h.1 h.2⟩
theorem Put_ev (L : List GEntry) (h : EOk L = true) : Ev (fun k => impl_PutEntries.f k L) (PEn L) := by
  have hL' := h
  unfold EOk at hL'
  simp only [Bool.and_eq_true, decide_eq_true_eq] at hL'
  have hel := encL_len none L hL'.2
  have hd := dg_len10 L.length (by omega)
  have hs : ((std.strOf (PEn L)).size : Int) ≤ 140737488351232 := by
    rw [so_size, PEn, List.length_append]; omega
  have yb : Byt (PEn L) := (dg_byt _).app (encL_byt _ _)
  unfold impl_PutEntries.f
  refine Ev.bind (h ▸ impl_Ok L) (Ev.iteP (fun _ => Ev.bind (impl_enc L h) (Ev.guard hs ?_)) fun h => absurd rfl h)
  rw [bytes_str yb]
  exact Ev.sm
theorem same_l2 (L : List GEntry) (hE : EOk L = true) (hL : L.length ≤ 1000) (hb : (PEn L).length ≤ 1000000) : ∀ (m : Nat) (i : Int), i + m = L.length → 0 ≤ i → Ev (fun k => laws_FnEntries.l2 k L (PEn L) (L, true) i) true := by
  intro m
  induction m with
  | zero =>
    intro i h1 h2
    have c1 : ¬ i < (L.length : Int) := by omega
    refine Ev.step (g := fun k => (impl_GetEntries.f k (PEn L ++ [1])).bind fun r15 => some (!r15.2)) (fun k => ?_) (Ev.bind (Get_bad L hE) Ev.sm)
    simp only [laws_FnEntries.l2, if_neg c1, List.nil_append, one_len, List.length_nil]
    rw [if_pos (by omega), if_pos (by omega)]
  | succ m ih =>
    intro i h1 h2
    have c1 : i < (L.length : Int) := by omega
    refine Ev.step (fun k => ?_) (ih (i + 1) (by omega) (by omega))
    simp only [laws_FnEntries.l2, if_pos c1, if_pos h2, if_true]
    rw [w64 (by omega) (by omega)]
theorem law_l0 (T : List GNode) (hI : Inv T) (hl : T.length ≤ 100) (suf : List GNode) : ∀ (A : List GNode) (i : Int), T = A ++ suf → i = A.length → Ev (fun k => laws_FnEntries.l0 k T (A.map entOf) i) true := by
  have hE := EOk_of hI hl
  have hlen : (T.map entOf).length = T.length := List.length_map ..
  have hE' := hE
  unfold EOk at hE'
  simp only [Bool.and_eq_true, decide_eq_true_eq] at hE'
  have hel := encL_len none _ hE'.2
  have hd := dg_len10 (T.map entOf).length (by omega)
  have hb : (PEn (T.map entOf)).length ≤ 1000000 := by rw [PEn, List.length_append]; omega
  have yb : Byt (PEn (T.map entOf)) := (dg_byt _).app (encL_byt _ _)
  induction suf with
  | nil =>
    intro A i h1 h2
    rw [List.append_nil] at h1
    subst h1
    have c1 : ¬ i < (T.length : Int) := by omega
    refine Ev.up ?_
    simp only [laws_FnEntries.l0, if_neg c1]
    refine Ev.bind (Put_ev _ hE) (Ev.bind (impl_Get_ok _ _ hE yb rfl) (Ev.bind (hE ▸ impl_Ok (T.map entOf)) ?_))
    refine Ev.iteP (fun _ => Ev.iteP (fun _ => Ev.iteP (fun _ => ?_) fun h => absurd rfl h) fun h => absurd rfl h) fun h => absurd rfl h
    have hsp := spec_enc (T.map entOf)
    rw [if_pos hE] at hsp
    refine Ev.bind hsp (Ev.iteP (fun _ => ?_) fun h => absurd rfl h)
    exact same_l2 _ hE (by omega) hb (T.map entOf).length 0 (by omega) (by decide)
  | cons x t ih =>
    intro A i h1 h2
    have hln : (T.length : Int) = A.length + t.length + 1 := by rw [h1]; exact len_mid A x t
    have hget : T.getD i.toNat DN = x := by rw [h1]; exact get_mid A x DN t h2
    have c1 : i < (T.length : Int) := by omega
    have c0 : 0 ≤ i := by omega
    have hn := ih (A ++ [x]) (i + 1) (by simp [h1]) (by simp; omega)
    rw [List.map_append, List.map_cons, List.map_nil] at hn
    have hA : ((A.map entOf).length : Int) = A.length := by rw [List.length_map]
    refine Ev.step (fun k => ?_) hn
    simp only [laws_FnEntries.l0, impl_EntryOf.f, bnd, if_pos c1, if_pos c0, if_true, one_len]
    rw [hget, if_pos (by omega), w64 (by omega) (by omega)]
    rfl
/-- The list of a right tree comes back from its bytes. -/
theorem FnEntries_law (l : List Int) : Ev (fun k => laws_FnEntries.f k l) true := by
  unfold laws_FnEntries.f
  by_cases hb : (1048576 : Int) < (l.length : Int)
  · refine Ev.ret fun k => ?_
    rw [laws_big.f, bnd, if_pos (decide_eq_true hb)]
  · obtain ⟨T, e, hI, hl⟩ := draw_ev l (by omega)
    refine Ev.congr (g := fun k => (spec_DrawTree.f k l).bind fun r1 => laws_FnEntries.l0 k r1 ([] : List GEntry) 0) (fun k => ?_) (Ev.bind e (law_l0 T hI hl T [] 0 rfl rfl))
    rw [laws_big.f, bnd, if_neg (by rw [decide_eq_false hb]; decide)]
theorem FnEntries_lawW (l : List Int) (h : l.length ≤ maxLen ∧ l.length * 1 ≤ 140737488351232 ∧ ∀ x ∈ l, (Lit.int .u8 x).wf = true) : ∃ k, laws_FnEntries.f k l = some true := by
  obtain ⟨K, h⟩ := FnEntries_law l
  exact ⟨K, h K (Nat.le_refl _)⟩
end Go.I
