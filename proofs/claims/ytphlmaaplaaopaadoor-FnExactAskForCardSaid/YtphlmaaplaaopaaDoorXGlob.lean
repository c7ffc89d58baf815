import Derived.Test.YtphlmaaplaaopaaDoorXApp
set_option linter.unusedVariables false
set_option linter.unusedSimpArgs false
namespace Go.Proofs.YtphlmaaplaaopaaDoorW.PrintWords.XS
open Go Go.RowKit Go.Proofs.YtphlmaaplaaopaaDoorW.PrintWords
def sines : List Int := [3614090360, 3905402710, 606105819, 3250441966, 4118548399, 1200080426, 2821735955, 4249261313, 1770035416, 2336552879, 4294925233, 2304563134, 1804603682, 4254626195, 2792965006, 1236535329, 4129170786, 3225465664, 643717713, 3921069994, 3593408605, 38016083, 3634488961, 3889429448, 568446438, 3275163606, 4107603335, 1163531501, 2850285829, 4243563512, 1735328473, 2368359562, 4294588738, 2272392833, 1839030562, 4259657740, 2763975236, 1272893353, 4139469664, 3200236656, 681279174, 3936430074, 3572445317, 76029189, 3654602809, 3873151461, 530742520, 3299628645, 4096336452, 1126891415, 2878612391, 4237533241, 1700485571, 2399980690, 4293915773, 2240044497, 1873313359, 4264355552, 2734768916, 1309151649, 4149444226, 3174756917, 718787259, 3951481745]
def turns : List Int := [7, 12, 17, 22, 5, 9, 14, 20, 4, 11, 16, 23, 6, 10, 15, 21]
structure Glob (gs gt : Nat) (w : World) : Prop where
  s : ∀ i : Nat, i < 64 → w.cell? ⟨gs, i, none⟩ = some (.int .u32 (sines.getD i 0))
  t : ∀ i : Nat, i < 16 → w.cell? ⟨gt, i, none⟩ = some (.int .i64 (turns.getD i 0))
theorem Glob.below {gs gt : Nat} {w w1 : World} (h : Glob gs gt w) (hb : Below w.heap.size w w1) : Glob gs gt w1 :=
  ⟨fun i hi => (hb.cell (World.block_lt_of_cell? _ _ (h.s i hi))).trans (h.s i hi), fun i hi => (hb.cell (World.block_lt_of_cell? _ _ (h.t i hi))).trans (h.t i hi)⟩
theorem Glob.alloc {gs gt : Nat} {w : World} (h : Glob gs gt w) (o : Obj) : Glob gs gt (w.alloc o) := h.below ((Below.refl _ _).alloc (Nat.le_refl _) o)
theorem Glob.drewN {gs gt : Nat} {w : World} (h : Glob gs gt w) (n : Nat) : Glob gs gt (w.drewN n) := h.below (Drawn0.below ⟨n, rfl⟩)
theorem Glob.drew {gs gt : Nat} {w : World} (h : Glob gs gt w) : Glob gs gt w.drew := h.below (Below.refl _ _).drew
def fF (i : Nat) (q r t : Int) : Int :=
  if i < 16 then Go.bits .or .u32 (Go.bits .and .u32 q r) (Go.bits .and .u32 (Go.bits .xor .u32 IntKind.u32.max q) t)
  else if i < 32 then Go.bits .or .u32 (Go.bits .and .u32 t q) (Go.bits .and .u32 (Go.bits .xor .u32 IntKind.u32.max t) r)
  else if i < 48 then Go.bits .xor .u32 (Go.bits .xor .u32 q r) t
  else Go.bits .xor .u32 r (Go.bits .or .u32 q (Go.bits .xor .u32 IntKind.u32.max t))
def fG (i : Nat) : Nat := if i < 16 then i else if i < 32 then (5 * i + 1) % 16 else if i < 48 then (3 * i + 5) % 16 else 7 * i % 16
def rt (x n : Int) : Int := Go.bits .or .u32 (shl .u32 x n) (shr .u32 x (32 - n))
abbrev Q4 := Int × Int × Int × Int
def step (M : Nat → Int) (i : Nat) (s : Q4) : Q4 := (s.2.2.2, (s.2.1 + rt ((s.1 + fF i s.2.1 s.2.2.1 s.2.2.2 + sines.getD i 0 + M (fG i)) % 4294967296) (turns.getD (i / 16 * 4 + i % 4) 0)) % 4294967296, s.2.1, s.2.2.1)
def iter (M : Nat → Int) : Nat → Q4 → Q4
  | 0, s => s
  | n + 1, s => step M n (iter M n s)
def mix (M : Nat → Int) (s : Q4) : Q4 := let x := iter M 64 s; ((s.1 + x.1) % 4294967296, (s.2.1 + x.2.1) % 4294967296, (s.2.2.1 + x.2.2.1) % 4294967296, (s.2.2.2 + x.2.2.2) % 4294967296)
theorem fG_lt (i : Nat) (h : i < 64) : fG i < 16 := by unfold fG; split; omega; split; omega; split <;> omega
theorem d0t {a b c : World} (h1 : Drawn0 a b) (h2 : Drawn0 b c) : Drawn0 a c := by
  obtain ⟨n, rfl⟩ := h2.out
  exact h1.step n
theorem results_c {P : Program} {fn : Func} {p : Tmp} {ty : TypeId} (h : fn.results = #[.cell p ty]) (tmps : Array Value) (w : World) (g : Nat) (t : TypeId) (cs : Array Value) (fr : Nat × Nat) (d : TypeDesc)
    (hp : tmps.getD p undef = .pointer (some ⟨g, 0, none⟩)) (hg : w.heap[g]? = some (.cells cs t fr))
    (hu : P.underlying ty = some d) (hd : (match d with | .struct _ | .array _ _ => true | _ => false) = true) (hi : (P.info? ty).map (·.size) = some cs.size) :
    (results fn tmps).run P w = .ok (.agg cs) w := by
  have hp' : tmps[p]?.getD undef = .pointer (some ⟨g, 0, none⟩) := by simpa using hp
  simp [results, h, hp', asAddr, run_loadVar_row w g t ty cs fr d hg hu hd hi]
def padK (n : Nat) : Nat := (119 - n % 64) % 64
def padRow (s : ByteArray) (j : Nat) : List Int := bytesOf s ++ 128 :: List.replicate j 0
def w4 (n : Int) : List Int := [n % 256, n / 256 % 256, n / 65536 % 256, n / 16777216 % 256]
def pad (s : ByteArray) : ByteArray := strOfNums (padRow s (padK s.size)) ++ strOfNums (w4 (8 * (s.size : Int) % 4294967296)) ++ strOfNums (w4 (8 * (s.size : Int) / 4294967296 % 4294967296))
theorem padRow_length (s : ByteArray) (j : Nat) : (padRow s j).length = s.size + 1 + j := by simp [padRow, bytesOf_length]; omega
theorem padRow_snoc (s : ByteArray) (j : Nat) : padRow s j ++ [0] = padRow s (j + 1) := by simp [padRow, List.replicate_succ']
theorem padK_eq (n : Nat) : (n + 1 + padK n) % 64 = 56 := by unfold padK; omega
theorem padK_ne (n j : Nat) (h : j < padK n) : (n + 1 + j) % 64 ≠ 56 := by unfold padK at h; omega
theorem padK_lt (n : Nat) : padK n < 64 := by unfold padK; omega
theorem bt_nn (s : ByteArray) (i : Int) : 0 ≤ bt s i := by unfold bt; split <;> omega
theorem bt_le (s : ByteArray) (i : Int) : bt s i ≤ 255 := by
  unfold bt
  split
  · rename_i h
    have := (s[i.toNat]'h).toNat_lt
    omega
  · omega
theorem or_sum (i j : Nat) (hj : j ≤ 32) (hij : i ≤ j) (x y : Int) (hx0 : 0 ≤ x) (hx : x < 2 ^ i) (hy0 : 0 ≤ y) (hy : y % 2 ^ i = 0) (hy1 : y < 2 ^ j) : Go.bits .or .u32 x y = x + y := by
  have hx1 : x < 2 ^ j := Int.lt_of_lt_of_le hx (by exact_mod_cast Nat.pow_le_pow_right (by decide) hij)
  have wr : ∀ n : Int, 0 ≤ n → n < 2 ^ j → IntKind.u32.wrap n = n := by
    intro n h0 h1
    have : (2 : Int) ^ j ≤ 2 ^ 32 := by exact_mod_cast Nat.pow_le_pow_right (by decide) hj
    rw [IntKind.wrap_u32]
    have e : (2 : Int) ^ 32 = 4294967296 := by decide
    omega
  have h := bits_join .u32 j hj wr i y x hy0 hy hy1 hx0 hx hx1
  obtain ⟨a, rfl⟩ := Int.eq_ofNat_of_zero_le hx0
  obtain ⟨b, rfl⟩ := Int.eq_ofNat_of_zero_le hy0
  have ha : a < 2 ^ j := by exact_mod_cast hx1
  have hb : b < 2 ^ j := by exact_mod_cast hy1
  rw [(bits_nat .u32 j hj wr a b ha hb).2, Nat.or_comm, ← (bits_nat .u32 j hj wr b a hb ha).2, h]
  omega
def WD (s : ByteArray) : Int := bt s 0 + 256 * bt s 1 + 65536 * bt s 2 + 16777216 * bt s 3
theorem word_or (a b c d : Int) (a0 : 0 ≤ a) (a1 : a ≤ 255) (b0 : 0 ≤ b) (b1 : b ≤ 255) (c0 : 0 ≤ c) (c1 : c ≤ 255) (d0 : 0 ≤ d) (d1 : d ≤ 255) :
    Go.bits .or .u32 (Go.bits .or .u32 (Go.bits .or .u32 (a % 4294967296) (((b % 4294967296) * 256) % 4294967296)) (((c % 4294967296) * 65536) % 4294967296)) (((d % 4294967296) * 16777216) % 4294967296) = a + 256 * b + 65536 * c + 16777216 * d := by
  rw [show a % 4294967296 = a by omega, show ((b % 4294967296) * 256) % 4294967296 = b * 256 by omega, show ((c % 4294967296) * 65536) % 4294967296 = c * 65536 by omega, show ((d % 4294967296) * 16777216) % 4294967296 = d * 16777216 by omega]
  rw [or_sum 8 16 (by decide) (by decide) a (b * 256) a0 (by omega) (by omega) (by omega) (by omega)]
  rw [or_sum 16 24 (by decide) (by decide) (a + b * 256) (c * 65536) (by omega) (by omega) (by omega) (by omega) (by omega)]
  rw [or_sum 24 32 (by decide) (by decide) (a + b * 256 + c * 65536) (d * 16777216) (by omega) (by omega) (by omega) (by omega) (by omega)]
  omega
theorem bt_extract (s : ByteArray) (n : Nat) (hn : n ≤ s.size) (i : Nat) (hi : i < n) : bt (s.extract 0 n) i = bt s i := by
  unfold bt
  have h1 : ((i : Int)).toNat < (s.extract 0 n).size := by simp; omega
  have h2 : ((i : Int)).toNat < s.size := by simp; omega
  rw [dif_pos h1, dif_pos h2]
  simp only [Int.toNat_natCast, ByteArray.getElem_extract, Nat.zero_add]
def Mb (b : ByteArray) (g : Nat) : Int := WD (b.extract (4 * g) 64)
def init : Q4 := (1732584193, 4023233417, 2562383102, 271733878)
def run : Nat → ByteArray → Q4 → Q4
  | 0, _, s => s
  | n + 1, p, s => run n (p.extract 64 p.size) (mix (Mb (p.extract 0 64)) s)
def out (s : Q4) : ByteArray := strOfNums (w4 s.1) ++ strOfNums (w4 s.2.1) ++ strOfNums (w4 s.2.2.1) ++ strOfNums (w4 s.2.2.2)
def strong (s : ByteArray) : ByteArray := out (run ((pad s).size / 64) (pad s) init)
theorem w4_size (n : Int) : (strOfNums (w4 n)).size = 4 := rfl
theorem pad_size (s : ByteArray) : (pad s).size = 64 * ((pad s).size / 64) := by
  have h1 : (pad s).size = s.size + 1 + padK s.size + 8 := by
    unfold pad
    rw [ByteArray.size_append, ByteArray.size_append, w4_size, w4_size, strOfNums_size, padRow_length]
  have h2 := padK_eq s.size
  omega
def vlen : Value → Nat
  | .string s => s.size
  | _ => 0
theorem notEmpty {p : ByteArray} (h : 0 < p.size) : p.toList.isEmpty = false := by
  rw [ByteArray.toList_eq, List.isEmpty_eq_false_iff]
  intro h0
  have h1 : p.data.toList.length = p.size := data_length p
  rw [h0] at h1
  simp at h1
  omega
def le : Nat → Nat → List Int
  | 0, _ => []
  | i + 1, n => le i n ++ [((n / 256 ^ i % 256 : Nat) : Int)]
theorem le_length (i n : Nat) : (le i n).length = i := by induction i with
  | zero => rfl
  | succ i ih => simp [le, ih]
theorem strOfNums_append (x y : List Int) : strOfNums (x ++ y) = strOfNums x ++ strOfNums y := by
  apply ByteArray.ext
  simp [strOfNums, ByteArray.data_append]
theorem pad_le (s : ByteArray) : strOfNums (padRow s (padK s.size) ++ le 8 (8 * s.size)) = pad s := by
  have e : le 8 (8 * s.size) = w4 (8 * (s.size : Int) % 4294967296) ++ w4 (8 * (s.size : Int) / 4294967296 % 4294967296) := by
    simp only [le, w4, List.nil_append, List.cons_append]
    have h (k : Nat) : ((8 * s.size / 256 ^ k % 256 : Nat) : Int) = 8 * (s.size : Int) / 256 ^ k % 256 := by rw [Int.natCast_emod, Int.natCast_ediv, Int.natCast_mul, Int.natCast_pow]; rfl
    simp only [h]
    rw [show (256 : Int) ^ 0 = 1 from rfl, show (256 : Int) ^ 1 = 256 from rfl, show (256 : Int) ^ 2 = 65536 from rfl, show (256 : Int) ^ 3 = 16777216 from rfl, show (256 : Int) ^ 4 = 4294967296 from rfl, show (256 : Int) ^ 5 = 1099511627776 from rfl, show (256 : Int) ^ 6 = 281474976710656 from rfl, show (256 : Int) ^ 7 = 72057594037927936 from rfl]
    generalize 8 * (s.size : Int) = n
    simp only [List.cons.injEq, and_true]
    refine ⟨?_, ?_, ?_, ?_, ?_, ?_, ?_, ?_⟩ <;> omega
  rw [e, ← List.append_assoc, strOfNums_append, strOfNums_append]
  rfl
theorem shl_ (x τ : Int) (h1 : τ ≤ 31) : shl .u32 x τ = x * 2 ^ τ.toNat % 4294967296 := by
  unfold shl
  rw [IntKind.wrap_u32, show min τ.toNat IntKind.u32.bits = τ.toNat from Nat.min_eq_left (show τ.toNat ≤ 32 by omega)]
theorem shr_ (x τ : Int) (h0 : 0 ≤ τ) : shr .u32 x (32 - τ) = x / 2 ^ (32 - τ).toNat := by
  unfold shr
  rw [show min (32 - τ).toNat IntKind.u32.bits = (32 - τ).toNat from Nat.min_eq_left (show (32 - τ).toNat ≤ 32 by omega)]
theorem not32 : (if IntKind.u32.signed = true then (-1 : Int) else IntKind.u32.max) = IntKind.u32.max := if_neg (by decide)
theorem size0 {p : ByteArray} (h : p.size = 0) : p = ⟨#[]⟩ := by
  obtain ⟨⟨l⟩⟩ := p
  have : l = [] := List.eq_nil_of_length_eq_zero (show l.length = 0 from h)
  rw [this]
def mkA (O : List Int) (n : Nat) : Array Value := ((O.take n ++ List.replicate (16 - n) 0).map fun x => Value.int .u8 x).toArray
theorem mkA_get {O : List Int} (hO : O.length = 16) {n : Nat} (hn : n ≤ 16) (j : Nat) (hj : j < 16) : ∃ x : Int, (mkA O n)[j]? = some (.int .u8 x) := by
  have hl : j < (O.take n ++ List.replicate (16 - n) 0).length := by simp; omega
  refine ⟨(O.take n ++ List.replicate (16 - n) 0)[j], ?_⟩
  unfold mkA
  rw [List.getElem?_toArray, List.getElem?_map, List.getElem?_eq_getElem hl]
  rfl
theorem mkA_step {O : List Int} (hO : O.length = 16) {n : Nat} (hn : n < 16) : (mkA O n).setIfInBounds n (.int .u8 (O.getD n 0)) = mkA O (n + 1) := by
  obtain ⟨q, hq⟩ : ∃ q, 16 - n = q + 1 := ⟨15 - n, by omega⟩
  have hq2 : 16 - (n + 1) = q := by omega
  have ht : O.take (n + 1) = O.take n ++ [O.getD n 0] := by
    rw [List.take_succ_eq_append_getElem (by omega)]
    simp [List.getD_eq_getElem?_getD, show n < O.length by omega]
  have hl : (O.take n).length = n := by rw [List.length_take]; omega
  unfold mkA
  rw [hq, hq2, ht, List.replicate_succ]
  apply Array.ext'
  simp only [Array.toList_setIfInBounds, List.map_append, List.map_cons, List.append_assoc, List.map_nil, List.singleton_append]
  rw [List.set_append_right _ _ (by rw [List.length_map, hl]; exact Nat.le_refl _)]
  rw [List.length_map, hl, Nat.sub_self, List.set_cons_zero]
theorem mkA_none (O : List Int) : mkA O 0 = (List.replicate 16 (Value.int .u8 0)).toArray := by
  unfold mkA
  simp
def outL (s : Q4) : List Int := w4 s.1 ++ w4 s.2.1 ++ w4 s.2.2.1 ++ w4 s.2.2.2
theorem outL_get (s : Q4) (k i : Nat) (hk : k < 4) (hi : i < 4) : (outL s).getD (4 * k + i) 0 = (w4 ([s.1, s.2.1, s.2.2.1, s.2.2.2].getD k 0)).getD i 0 := by
  have h1 : k = 0 ∨ k = 1 ∨ k = 2 ∨ k = 3 := by omega
  have h2 : i = 0 ∨ i = 1 ∨ i = 2 ∨ i = 3 := by omega
  rcases h1 with rfl | rfl | rfl | rfl <;> rcases h2 with rfl | rfl | rfl | rfl <;> rfl
theorem out_outL (s : Q4) : strOfNums (outL s) = out s := by
  unfold outL out
  rw [strOfNums_append, strOfNums_append, strOfNums_append]
theorem strOfNums_mid (R : List Int) (q k : Nat) : strOfNums ((R.take (q + k)).drop q) = (strOfNums R).extract q (q + k) := by
  apply ByteArray.ext
  rw [ByteArray.data_extract]
  unfold strOfNums
  apply Array.ext'
  simp [List.map_drop, List.map_take]
  rw [List.drop_take, Nat.add_sub_cancel_left]
theorem ext_ext (P : ByteArray) (q : Nat) (h : q + 64 ≤ P.size) : (P.extract q P.size).extract 0 64 = P.extract q (q + 64) := by
  apply ByteArray.ext
  simp only [ByteArray.data_extract]
  rw [Array.extract_extract]
  congr 1
  have : P.data.size = P.size := rfl
  omega
theorem ext_next (P : ByteArray) (q : Nat) (h : q + 64 ≤ P.size) : (P.extract q P.size).extract 64 (P.extract q P.size).size = P.extract (q + 64) P.size := by
  apply ByteArray.ext
  simp only [ByteArray.data_extract, ByteArray.size_extract]
  rw [Array.extract_extract]
  congr 1
  have : P.data.size = P.size := rfl
  omega
theorem ext_all (P : ByteArray) : P.extract 0 P.size = P := by
  apply ByteArray.ext
  rw [ByteArray.data_extract]
  exact Array.extract_size
theorem padR_size (s : ByteArray) : (padRow s (padK s.size) ++ le 8 (8 * s.size)).length = (pad s).size := by
  rw [← pad_le, strOfNums_size]
theorem pad_pos (s : ByteArray) : 64 ≤ (pad s).size := by
  have h := pad_size s
  have h2 : (pad s).size = s.size + 1 + padK s.size + 8 := by
    unfold pad
    rw [ByteArray.size_append, ByteArray.size_append, w4_size, w4_size, strOfNums_size, padRow_length]
  omega
theorem pad_le' (s : ByteArray) : (pad s).size ≤ s.size + 72 := by
  have h2 : (pad s).size = s.size + 1 + padK s.size + 8 := by
    unfold pad
    rw [ByteArray.size_append, ByteArray.size_append, w4_size, w4_size, strOfNums_size, padRow_length]
  have := padK_lt s.size
  omega
def Rng (s : Q4) : Prop := (0 ≤ s.1 ∧ s.1 < 4294967296) ∧ (0 ≤ s.2.1 ∧ s.2.1 < 4294967296) ∧ (0 ≤ s.2.2.1 ∧ s.2.2.1 < 4294967296) ∧ (0 ≤ s.2.2.2 ∧ s.2.2.2 < 4294967296)
theorem mix_rng (M : Nat → Int) (s : Q4) : Rng (mix M s) := by
  unfold mix Rng
  refine ⟨⟨?_, ?_⟩, ⟨?_, ?_⟩, ⟨?_, ?_⟩, ⟨?_, ?_⟩⟩ <;> dsimp only <;> omega
theorem rng_get {x0 x1 x2 x3 : Int} (h : Rng (x0, x1, x2, x3)) (k : Nat) (hk : k < 4) : 0 ≤ [x0, x1, x2, x3].getD k 0 ∧ [x0, x1, x2, x3].getD k 0 < 4294967296 := by
  obtain ⟨h1, h2, h3, h4⟩ := h
  have : k = 0 ∨ k = 1 ∨ k = 2 ∨ k = 3 := by omega
  rcases this with rfl | rfl | rfl | rfl
  · exact h1
  · exact h2
  · exact h3
  · exact h4
theorem four_get (x0 x1 x2 x3 : Int) (k : Nat) (hk : k < 4) : (#[Value.int .u32 x0, .int .u32 x1, .int .u32 x2, .int .u32 x3] : Array Value)[k]? = some (.int .u32 ([x0, x1, x2, x3].getD k 0)) := by
  have : k = 0 ∨ k = 1 ∨ k = 2 ∨ k = 3 := by omega
  rcases this with rfl | rfl | rfl | rfl <;> rfl
theorem cons_of {n : Nat} {O : List Int} (h : O.length = n + 1) : ∃ a t, O = a :: t ∧ t.length = n := by
  cases O with
  | nil => simp at h
  | cons a t => exact ⟨a, t, rfl, by simpa using h⟩
theorem list16 {O : List Int} (h : O.length = 16) : ∃ o0 o1 o2 o3 o4 o5 o6 o7 o8 o9 o10 o11 o12 o13 o14 o15, O = [o0, o1, o2, o3, o4, o5, o6, o7, o8, o9, o10, o11, o12, o13, o14, o15] := by
  obtain ⟨o0, t0, rfl, h0⟩ := cons_of h
  obtain ⟨o1, t1, rfl, h1⟩ := cons_of h0
  obtain ⟨o2, t2, rfl, h2⟩ := cons_of h1
  obtain ⟨o3, t3, rfl, h3⟩ := cons_of h2
  obtain ⟨o4, t4, rfl, h4⟩ := cons_of h3
  obtain ⟨o5, t5, rfl, h5⟩ := cons_of h4
  obtain ⟨o6, t6, rfl, h6⟩ := cons_of h5
  obtain ⟨o7, t7, rfl, h7⟩ := cons_of h6
  obtain ⟨o8, t8, rfl, h8⟩ := cons_of h7
  obtain ⟨o9, t9, rfl, h9⟩ := cons_of h8
  obtain ⟨o10, t10, rfl, h10⟩ := cons_of h9
  obtain ⟨o11, t11, rfl, h11⟩ := cons_of h10
  obtain ⟨o12, t12, rfl, h12⟩ := cons_of h11
  obtain ⟨o13, t13, rfl, h13⟩ := cons_of h12
  obtain ⟨o14, t14, rfl, h14⟩ := cons_of h13
  obtain ⟨o15, t15, rfl, h15⟩ := cons_of h14
  obtain rfl := List.eq_nil_of_length_eq_zero h15
  exact ⟨o0, o1, o2, o3, o4, o5, o6, o7, o8, o9, o10, o11, o12, o13, o14, o15, rfl⟩
theorem ext_succ {O : List Int} {i : Nat} (h : i < O.length) : (strOfNums O).extract 0 (i + 1) = (strOfNums O).extract 0 i ++ strOfNums [O.getD i 0] := by
  have h1 := strOfNums_mid O 0 (i + 1)
  have h2 := strOfNums_mid O 0 i
  rw [Nat.zero_add, List.drop_zero] at h1 h2
  rw [← h1, ← h2, ← strOfNums_append]
  congr 1
  rw [List.take_succ_eq_append_getElem h]
  simp [List.getD_eq_getElem?_getD, h]
theorem ext_zero (P : ByteArray) : P.extract 0 0 = ⟨#[]⟩ := by
  apply ByteArray.ext
  rw [ByteArray.data_extract]
  simp
theorem put16 {w : World} {g : Nat} {t : TypeId} (o0 o1 o2 o3 o4 o5 o6 o7 o8 o9 o10 o11 o12 o13 o14 o15 : Int) (h : w.heap[g]? = some (.cells #[.int .u8 0, .int .u8 0, .int .u8 0, .int .u8 0, .int .u8 0, .int .u8 0, .int .u8 0, .int .u8 0, .int .u8 0, .int .u8 0, .int .u8 0, .int .u8 0, .int .u8 0, .int .u8 0, .int .u8 0, .int .u8 0] t (0, 0))) : ((((((((((((((((w.setCell ⟨g, 0, none⟩ (.int .u8 o0)).setCell ⟨g, 1, none⟩ (.int .u8 o1)).setCell ⟨g, 2, none⟩ (.int .u8 o2)).setCell ⟨g, 3, none⟩ (.int .u8 o3)).setCell ⟨g, 4, none⟩ (.int .u8 o4)).setCell ⟨g, 5, none⟩ (.int .u8 o5)).setCell ⟨g, 6, none⟩ (.int .u8 o6)).setCell ⟨g, 7, none⟩ (.int .u8 o7)).setCell ⟨g, 8, none⟩ (.int .u8 o8)).setCell ⟨g, 9, none⟩ (.int .u8 o9)).setCell ⟨g, 10, none⟩ (.int .u8 o10)).setCell ⟨g, 11, none⟩ (.int .u8 o11)).setCell ⟨g, 12, none⟩ (.int .u8 o12)).setCell ⟨g, 13, none⟩ (.int .u8 o13)).setCell ⟨g, 14, none⟩ (.int .u8 o14)).setCell ⟨g, 15, none⟩ (.int .u8 o15)).heap[g]? = some (.cells #[.int .u8 o0, .int .u8 o1, .int .u8 o2, .int .u8 o3, .int .u8 o4, .int .u8 o5, .int .u8 o6, .int .u8 o7, .int .u8 o8, .int .u8 o9, .int .u8 o10, .int .u8 o11, .int .u8 o12, .int .u8 o13, .int .u8 o14, .int .u8 o15] t (0, 0)) := by
  have h0 := blk_put (cs' := #[.int .u8 o0, .int .u8 0, .int .u8 0, .int .u8 0, .int .u8 0, .int .u8 0, .int .u8 0, .int .u8 0, .int .u8 0, .int .u8 0, .int .u8 0, .int .u8 0, .int .u8 0, .int .u8 0, .int .u8 0, .int .u8 0]) h 0 (.int .u8 o0) rfl
  have h1 := blk_put (cs' := #[.int .u8 o0, .int .u8 o1, .int .u8 0, .int .u8 0, .int .u8 0, .int .u8 0, .int .u8 0, .int .u8 0, .int .u8 0, .int .u8 0, .int .u8 0, .int .u8 0, .int .u8 0, .int .u8 0, .int .u8 0, .int .u8 0]) h0 1 (.int .u8 o1) rfl
  have h2 := blk_put (cs' := #[.int .u8 o0, .int .u8 o1, .int .u8 o2, .int .u8 0, .int .u8 0, .int .u8 0, .int .u8 0, .int .u8 0, .int .u8 0, .int .u8 0, .int .u8 0, .int .u8 0, .int .u8 0, .int .u8 0, .int .u8 0, .int .u8 0]) h1 2 (.int .u8 o2) rfl
  have h3 := blk_put (cs' := #[.int .u8 o0, .int .u8 o1, .int .u8 o2, .int .u8 o3, .int .u8 0, .int .u8 0, .int .u8 0, .int .u8 0, .int .u8 0, .int .u8 0, .int .u8 0, .int .u8 0, .int .u8 0, .int .u8 0, .int .u8 0, .int .u8 0]) h2 3 (.int .u8 o3) rfl
  have h4 := blk_put (cs' := #[.int .u8 o0, .int .u8 o1, .int .u8 o2, .int .u8 o3, .int .u8 o4, .int .u8 0, .int .u8 0, .int .u8 0, .int .u8 0, .int .u8 0, .int .u8 0, .int .u8 0, .int .u8 0, .int .u8 0, .int .u8 0, .int .u8 0]) h3 4 (.int .u8 o4) rfl
  have h5 := blk_put (cs' := #[.int .u8 o0, .int .u8 o1, .int .u8 o2, .int .u8 o3, .int .u8 o4, .int .u8 o5, .int .u8 0, .int .u8 0, .int .u8 0, .int .u8 0, .int .u8 0, .int .u8 0, .int .u8 0, .int .u8 0, .int .u8 0, .int .u8 0]) h4 5 (.int .u8 o5) rfl
  have h6 := blk_put (cs' := #[.int .u8 o0, .int .u8 o1, .int .u8 o2, .int .u8 o3, .int .u8 o4, .int .u8 o5, .int .u8 o6, .int .u8 0, .int .u8 0, .int .u8 0, .int .u8 0, .int .u8 0, .int .u8 0, .int .u8 0, .int .u8 0, .int .u8 0]) h5 6 (.int .u8 o6) rfl
  have h7 := blk_put (cs' := #[.int .u8 o0, .int .u8 o1, .int .u8 o2, .int .u8 o3, .int .u8 o4, .int .u8 o5, .int .u8 o6, .int .u8 o7, .int .u8 0, .int .u8 0, .int .u8 0, .int .u8 0, .int .u8 0, .int .u8 0, .int .u8 0, .int .u8 0]) h6 7 (.int .u8 o7) rfl
  have h8 := blk_put (cs' := #[.int .u8 o0, .int .u8 o1, .int .u8 o2, .int .u8 o3, .int .u8 o4, .int .u8 o5, .int .u8 o6, .int .u8 o7, .int .u8 o8, .int .u8 0, .int .u8 0, .int .u8 0, .int .u8 0, .int .u8 0, .int .u8 0, .int .u8 0]) h7 8 (.int .u8 o8) rfl
  have h9 := blk_put (cs' := #[.int .u8 o0, .int .u8 o1, .int .u8 o2, .int .u8 o3, .int .u8 o4, .int .u8 o5, .int .u8 o6, .int .u8 o7, .int .u8 o8, .int .u8 o9, .int .u8 0, .int .u8 0, .int .u8 0, .int .u8 0, .int .u8 0, .int .u8 0]) h8 9 (.int .u8 o9) rfl
  have h10 := blk_put (cs' := #[.int .u8 o0, .int .u8 o1, .int .u8 o2, .int .u8 o3, .int .u8 o4, .int .u8 o5, .int .u8 o6, .int .u8 o7, .int .u8 o8, .int .u8 o9, .int .u8 o10, .int .u8 0, .int .u8 0, .int .u8 0, .int .u8 0, .int .u8 0]) h9 10 (.int .u8 o10) rfl
  have h11 := blk_put (cs' := #[.int .u8 o0, .int .u8 o1, .int .u8 o2, .int .u8 o3, .int .u8 o4, .int .u8 o5, .int .u8 o6, .int .u8 o7, .int .u8 o8, .int .u8 o9, .int .u8 o10, .int .u8 o11, .int .u8 0, .int .u8 0, .int .u8 0, .int .u8 0]) h10 11 (.int .u8 o11) rfl
  have h12 := blk_put (cs' := #[.int .u8 o0, .int .u8 o1, .int .u8 o2, .int .u8 o3, .int .u8 o4, .int .u8 o5, .int .u8 o6, .int .u8 o7, .int .u8 o8, .int .u8 o9, .int .u8 o10, .int .u8 o11, .int .u8 o12, .int .u8 0, .int .u8 0, .int .u8 0]) h11 12 (.int .u8 o12) rfl
  have h13 := blk_put (cs' := #[.int .u8 o0, .int .u8 o1, .int .u8 o2, .int .u8 o3, .int .u8 o4, .int .u8 o5, .int .u8 o6, .int .u8 o7, .int .u8 o8, .int .u8 o9, .int .u8 o10, .int .u8 o11, .int .u8 o12, .int .u8 o13, .int .u8 0, .int .u8 0]) h12 13 (.int .u8 o13) rfl
  have h14 := blk_put (cs' := #[.int .u8 o0, .int .u8 o1, .int .u8 o2, .int .u8 o3, .int .u8 o4, .int .u8 o5, .int .u8 o6, .int .u8 o7, .int .u8 o8, .int .u8 o9, .int .u8 o10, .int .u8 o11, .int .u8 o12, .int .u8 o13, .int .u8 o14, .int .u8 0]) h13 14 (.int .u8 o14) rfl
  have h15 := blk_put (cs' := #[.int .u8 o0, .int .u8 o1, .int .u8 o2, .int .u8 o3, .int .u8 o4, .int .u8 o5, .int .u8 o6, .int .u8 o7, .int .u8 o8, .int .u8 o9, .int .u8 o10, .int .u8 o11, .int .u8 o12, .int .u8 o13, .int .u8 o14, .int .u8 o15]) h14 15 (.int .u8 o15) rfl
  exact h15
theorem bel16 {base g : Nat} {w0 w : World} (o0 o1 o2 o3 o4 o5 o6 o7 o8 o9 o10 o11 o12 o13 o14 o15 : Int) (h : Below base w0 w) (hg : base ≤ g) : Below base w0 ((((((((((((((((w.setCell ⟨g, 0, none⟩ (.int .u8 o0)).setCell ⟨g, 1, none⟩ (.int .u8 o1)).setCell ⟨g, 2, none⟩ (.int .u8 o2)).setCell ⟨g, 3, none⟩ (.int .u8 o3)).setCell ⟨g, 4, none⟩ (.int .u8 o4)).setCell ⟨g, 5, none⟩ (.int .u8 o5)).setCell ⟨g, 6, none⟩ (.int .u8 o6)).setCell ⟨g, 7, none⟩ (.int .u8 o7)).setCell ⟨g, 8, none⟩ (.int .u8 o8)).setCell ⟨g, 9, none⟩ (.int .u8 o9)).setCell ⟨g, 10, none⟩ (.int .u8 o10)).setCell ⟨g, 11, none⟩ (.int .u8 o11)).setCell ⟨g, 12, none⟩ (.int .u8 o12)).setCell ⟨g, 13, none⟩ (.int .u8 o13)).setCell ⟨g, 14, none⟩ (.int .u8 o14)).setCell ⟨g, 15, none⟩ (.int .u8 o15)) := by
  have h0 := h.setCell (p := ⟨g, 0, none⟩) hg (.int .u8 o0)
  have h1 := h0.setCell (p := ⟨g, 1, none⟩) hg (.int .u8 o1)
  have h2 := h1.setCell (p := ⟨g, 2, none⟩) hg (.int .u8 o2)
  have h3 := h2.setCell (p := ⟨g, 3, none⟩) hg (.int .u8 o3)
  have h4 := h3.setCell (p := ⟨g, 4, none⟩) hg (.int .u8 o4)
  have h5 := h4.setCell (p := ⟨g, 5, none⟩) hg (.int .u8 o5)
  have h6 := h5.setCell (p := ⟨g, 6, none⟩) hg (.int .u8 o6)
  have h7 := h6.setCell (p := ⟨g, 7, none⟩) hg (.int .u8 o7)
  have h8 := h7.setCell (p := ⟨g, 8, none⟩) hg (.int .u8 o8)
  have h9 := h8.setCell (p := ⟨g, 9, none⟩) hg (.int .u8 o9)
  have h10 := h9.setCell (p := ⟨g, 10, none⟩) hg (.int .u8 o10)
  have h11 := h10.setCell (p := ⟨g, 11, none⟩) hg (.int .u8 o11)
  have h12 := h11.setCell (p := ⟨g, 12, none⟩) hg (.int .u8 o12)
  have h13 := h12.setCell (p := ⟨g, 13, none⟩) hg (.int .u8 o13)
  have h14 := h13.setCell (p := ⟨g, 14, none⟩) hg (.int .u8 o14)
  have h15 := h14.setCell (p := ⟨g, 15, none⟩) hg (.int .u8 o15)
  exact h15
end Go.Proofs.YtphlmaaplaaopaaDoorW.PrintWords.XS
