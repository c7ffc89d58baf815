import Derived.Test.YtphlmaaplaaopaaDoorProg
import Derived.Lib.Hide
import Derived.WalkSpells
import Derived.Below
import Derived.Deep.Draws
import Derived.Deep.LoopGhost
import Derived.WalkKit
import Derived.KernelRfl
import Derived.Tactics
import Derived.RowKit3
import Derived.Test.YtphlmaaplaaopaaDoorWKept
import Derived.Test.YtphlmaaplaaopaaDoorXConv
set_option linter.unusedVariables false
set_option linter.unusedSimpArgs false
namespace Go.Proofs.YtphlmaaplaaopaaDoorW.PrintWords.Cw
open Go.RowKit Go.Proofs.YtphlmaaplaaopaaDoorW.PrintWords Go.Proofs.YtphlmaaplaaopaaDoorW.PrintLast
def R (e : Nat) (w : World) (base : Nat) (ok : Nat → Prop) (v : Value) (xs : List Int) : Prop :=
  (xs = [] ∧ v = .slice none 0 0) ∨ ∃ b c cells m, v = .slice (some ⟨b, 0, none⟩) xs.length c ∧ xs.length ≤ c ∧ xs.length ≤ 9223372036854775807 ∧ ok b ∧ base ≤ b ∧ w.heap[b]? = some (.cells cells e m) ∧ xs.length ≤ cells.size ∧ xs.length ≤ m.1 ∧ ∀ j, j < xs.length → cells[j]? = some (.int .u8 (xs.getD j 0))
section
variable {e : Nat} {w w1 W W2 : World} {base base' : Nat} {ok ok' ok1 S : Nat → Prop} {u v : Value} {xs : List Int}
theorem R_nil (e : Nat) (w : World) (base : Nat) (ok : Nat → Prop) : R e w base ok (.slice none 0 0) [] := .inl ⟨rfl, rfl⟩
theorem R_imp {base base' : Nat} (h : R e w base ok v xs) (hm : ∀ b, ok b → base ≤ b → b < w.heap.size → w1.heap[b]? = w.heap[b]? ∧ ok' b ∧ base' ≤ b) : R e w1 base' ok' v xs := by
  rcases h with h | ⟨b, c, cells, m, h1, h2, h3, h4, h5, h6, h7⟩
  · exact .inl h
  · obtain ⟨k1, k2, k3⟩ := hm b h4 h5 (blk_lt h6)
    exact .inr ⟨b, c, cells, m, h1, h2, h3, k2, k3, k1.trans h6, h7⟩
theorem R_block (h : R e w base ok v xs) : ∀ k, v.ownBlock = some k → ok k ∧ base ≤ k ∧ k < w.heap.size ∧ ∃ cells m, w.heap[k]? = some (.cells cells e m) := by
  rcases h with ⟨_, rfl⟩ | ⟨b, c, cells, m, rfl, h2, h3, h4, h5, h6, h7⟩
  · intro k hk; simp [Value.ownBlock] at hk
  · intro k hk
    obtain rfl : b = k := by simpa [Value.ownBlock] using hk
    exact ⟨h4, h5, blk_lt h6, cells, m, h6⟩
theorem R_typed (h : R e w base ok v xs) : ∀ k, v.ownBlock = some k → ∃ cells m, w.heap[k]? = some (.cells cells e m) := fun k hk => (R_block h k hk).2.2.2
theorem R_lower (h : R e w base ok v xs) (hb : base' ≤ base) : R e w base' ok v xs := R_imp h (fun b h1 h2 _ => ⟨rfl, h1, by omega⟩)
theorem R_mono (h : R e w base ok v xs) (hok : ∀ k, ok k → ok' k) : R e w base ok' v xs := R_imp h (fun b h1 h2 _ => ⟨rfl, hok b h1, h2⟩)
theorem R_below (h : R e w base ok v xs) (hb : Below w.heap.size w w1) : R e w1 base ok v xs := R_imp h (fun b h1 h2 h3 => ⟨hb.block b h3, h1, h2⟩)
theorem R_alloc (h : R e w base ok v xs) (o : Obj) : R e (w.alloc o) base ok v xs := R_below h (below_alloc (Below.refl _ _) o)
theorem R_drew (h : R e w base ok v xs) : R e w.drew base ok v xs := R_below h (below_drew (Below.refl _ _))
theorem R_drewN (h : R e w base ok v xs) (m : Nat) : R e (w.drewN m) base ok v xs := R_below h (pw_below_drewN (Below.refl _ _) m)
theorem R_base (h : R e w base ok v xs) : ∀ k, v.ownBlock = some k → base ≤ k := fun k hk => (R_block h k hk).2.1
theorem R_lt (h : R e w base ok v xs) : ∀ k, v.ownBlock = some k → k < w.heap.size := fun k hk => (R_block h k hk).2.2.1
theorem R_new' (h : R e w1 W.heap.size ok v xs) (hlt : ∀ k, u.ownBlock = some k → k < W.heap.size) : R e w1 W.heap.size (fun k => ok k ∧ some k ≠ u.ownBlock) v xs :=
  R_imp h (fun b h1 h2 _ => ⟨rfl, ⟨h1, fun he => by have := hlt b he.symm; omega⟩, h2⟩)
theorem R_elder' (hu : R e W base ok u xs) (hbase : ∀ k, v.ownBlock = some k → W.heap.size ≤ k) (hb : Below W.heap.size W w1) : R e w1 base (fun k => ok k ∧ some k ≠ v.ownBlock) u xs :=
  R_imp hu (fun b h1 h2 h3 => ⟨hb.block b h3, ⟨h1, fun he => by have := hbase b he.symm; omega⟩, h2⟩)
theorem R_slice (h : R e w base ok v xs) : ∃ A c, v = .slice A xs.length c := by
  rcases h with ⟨rfl, rfl⟩ | ⟨b, c, cells, m, rfl, _⟩
  · exact ⟨_, _, rfl⟩
  · exact ⟨_, _, rfl⟩
theorem R_reads' {A : Option Addr} {n c : Nat} (h : R e w base ok (.slice A n c) xs) : n = xs.length ∧ n ≤ c ∧ Kd.C (Kd.int .u8) w A xs.length xs := by
  rcases h with ⟨rfl, h⟩ | ⟨b, c', cells, m, h, h2, h3, h4, h5, h6, h7, h8, h9⟩
  · cases h
    exact ⟨rfl, Nat.le_refl _, Kd.C_of_reads (d := (0 : Int)) (h1 := fun _ => rfl) ⟨rfl, by decide, fun h0 => absurd h0 (by decide)⟩⟩
  · cases h
    refine ⟨rfl, h2, Kd.C_of_reads (d := (0 : Int)) (h1 := fun _ => rfl) ⟨rfl, h3, fun h0 => ⟨_, rfl, fun j hj => ?_⟩⟩⟩
    rw [add_plain]
    unfold World.cell?
    rw [h6]
    exact h9 j hj
theorem R_tight (_hE : (Kd.int .u8).E = []) (h : R e w base ok v xs) : R e w base (fun k => some k = v.ownBlock) v xs := by
  rcases h with h | ⟨b, c, cells, m, rfl, h2, h3, h4, h5, h6⟩
  · exact .inl h
  · exact .inr ⟨b, c, cells, m, rfl, h2, h3, by simp [Value.ownBlock], h5, h6⟩
theorem R_reok (_hE : (Kd.int .u8).E = []) (h : R e W base ok1 v xs) (hok : ∀ k, v.ownBlock = some k → ok k) : R e W base ok v xs := by
  rcases h with h | ⟨b, c, cells, m, rfl, h2, h3, h4, h5, h6⟩
  · exact .inl h
  · exact .inr ⟨b, c, cells, m, rfl, h2, h3, hok b (by simp [Value.ownBlock]), h5, h6⟩
theorem R_ne (h : R e w base ok v xs) {g t : Nat} {cells : Array Value} (hb : w.heap[g]? = some (.cells cells t (0, 0))) (ht : e ≠ t) : some g ≠ v.ownBlock := by
  intro he
  obtain ⟨_, _, _, cs, m, hc⟩ := R_block h g he.symm
  rw [hb] at hc
  injection hc with hc
  injection hc with h1 h2
  exact ht h2.symm
theorem R_apart' {e' : Nat} (h : R e W base ok u xs) (hty : ∀ k, v.ownBlock = some k → ∃ cells, W.heap[k]? = some (.cells cells e' (0, 0))) (ht : ∀ q, q ∈ e :: (Kd.int .u8).E → q ≠ e') : R e W base (fun k => ok k ∧ some k ≠ v.ownBlock) u xs := by
  rcases h with h | ⟨b, c, cells, m, rfl, h2, h3, h4, h5, h6, h7⟩
  · exact .inl h
  · refine .inr ⟨b, c, cells, m, rfl, h2, h3, ⟨h4, fun he => ?_⟩, h5, h6, h7⟩
    obtain ⟨cs, hc⟩ := hty b he.symm
    rw [h6] at hc
    injection hc with hc
    injection hc with h8 h9
    exact ht e (List.mem_cons_self ..) h9
theorem R_keptB (h : R e W base ok v xs) (hk : Kept W W2 S) (hne : ∀ k, ok k → ¬ S k) : R e W2 base (fun k => ok k ∧ (¬ S k ∧ k < W.heap.size)) v xs :=
  R_imp h (fun b h1 h2 h3 => ⟨hk.2 b h3 (hne b h1), ⟨h1, hne b h1, h3⟩, h2⟩)
theorem R_form (h : R e w base ok v xs) (hp : 0 < xs.length) : ∃ g cap, v = .slice (some ⟨g, 0, none⟩) xs.length cap ∧ base ≤ g ∧ g < w.heap.size ∧ ∃ cells m, w.heap[g]? = some (.cells cells e m) := by
  rcases h with ⟨rfl, rfl⟩ | ⟨b, c, cells, m, rfl, h2, h3, h4, h5, h6, _⟩
  · exact absurd hp (by decide)
  · exact ⟨b, c, rfl, h5, blk_lt h6, cells, m, h6⟩
theorem R_celln {g : Nat} {n cap : Nat} (h : R e W base ok (.slice (some ⟨g, 0, none⟩) n cap) xs) (i : Int) (h0 : 0 ≤ i) (hi : i < n) : W.cell? ⟨g, i.toNat, none⟩ = some (.int .u8 (rd xs i)) ∧ W.frozen? ⟨g, i.toNat, none⟩ = false := by
  rcases h with ⟨rfl, h⟩ | ⟨b, c, cells, m, h, h2, h3, h4, h5, h6, h7, h8, h9⟩
  · cases h
  · cases h
    constructor
    · unfold World.cell?
      rw [h6]
      exact h9 i.toNat (by omega)
    · have hi2 : i.toNat < m.1 := by omega
      unfold World.frozen?
      rw [h6]
      dsimp only
      simp
      omega
theorem R_putg {g : Nat} {n cap : Nat} (h : R e W base ok (.slice (some ⟨g, 0, none⟩) n cap) xs) (i : Int) (x : Int) : R e (W.setCell ⟨g, i.toNat, none⟩ (.int .u8 x)) base ok (.slice (some ⟨g, 0, none⟩) n cap) (xs.set i.toNat x) ∧ W.grownBy (W.setCell ⟨g, i.toNat, none⟩ (.int .u8 x)) (some g) := by
  refine ⟨?_, ⟨rfl, rfl, rfl, by simp [World.setCell], fun k hk hne => Below.heap_setCell _ _ _ _ (fun he => hne (congrArg some he))⟩⟩
  rcases h with ⟨rfl, h⟩ | ⟨b, c, cells, m, h, h2, h3, h4, h5, h6, h7, h8, h9⟩
  · cases h
  · cases h
    refine .inr ⟨g, cap, cells.setIfInBounds i.toNat (.int .u8 x), m, by rw [List.length_set], by rw [List.length_set]; exact h2, by rw [List.length_set]; exact h3, h4, h5, ?_, by simpa using h7, by simpa using h8, fun j hj => ?_⟩
    · simp [World.setCell, Array.getElem?_modify, h6]
    · rw [List.length_set] at hj
      by_cases hij : i.toNat = j
      · subst hij
        rw [Array.getElem?_setIfInBounds_self_of_lt (by omega)]
        simp [hj]
      · rw [Array.getElem?_setIfInBounds_ne hij, h9 j hj]
        simp [List.getElem?_set, hij]
end
section
variable {P : Program} {ops : Array Oper} {o : Oper} {rest : List Oper} {a : Act} {Q : Exit → Act → World → Prop}
theorem R_conv {w0 W : World} (base e : Nat) (hgd : o.guard = none) {N : Tmp} (_hd : o.dst = some N) (src dst : TypeId) (x : Operand) (ho : o.op = .convert src dst x) (s : ByteArray) (hx : a.eval x = .string s) {u : TypeDesc}
    (hs : P.underlying src = some u) (ht : P.underlying dst = some (.slice e)) (he : P.underlying e = some (.int .u8)) (hsz : s.size ≤ 9223372036854775807) (HB : Below base w0 W) (hbase : base ≤ W.heap.size)
    (h : ∀ v1 w1, R e w1 base (fun _ => True) v1 (bytesOf s) → Below base w0 w1 → wpList P ops Q rest (a.put o.dst v1) w1) : wpList P ops Q (o :: rest) a W := by
  have hb : Below base w0 (Lib.bytesWorld W e s) := bytes_below HB hbase e s
  have hr := Lib.run_convert_string_bytes W src dst e s hs ht he
  have hl : (bytesOf s).length = s.size := bytesOf_length s
  refine Kd.event_run hgd (v := .slice (some ⟨W.heap.size, 0, none⟩) s.size (grownCap W s.size 0 e)) (w1 := Lib.bytesWorld W e s) ?_ (h _ _ (.inr ⟨W.heap.size, _, _, _, by rw [hl], ?_, by omega, trivial, hbase, Lib.bytesWorld_at_new W e s, ?_, ?_, fun j hj => ?_⟩) hb)
  · simp [execOp, ho, hx, hr]
  · rw [hl]; exact grownCap_ge _ _ _ _
  · rw [hl]; simp [Lib.bytesCells]
  · rw [hl]; simp [Lib.bytesCells]
  · have hc := (bytes_reads W e s hsz).2.2 (by omega)
    obtain ⟨ad, ea, hc⟩ := hc
    cases ea
    have h1 := hc j (by omega)
    rw [add_plain] at h1
    unfold World.cell? at h1
    rw [Lib.bytesWorld_at_new] at h1
    exact h1
end
end Go.Proofs.YtphlmaaplaaopaaDoorW.PrintWords.Cw
namespace Go.Proofs.YtphlmaaplaaopaaDoorW.PrintWords.Kd
open Go.RowKit
end Go.Proofs.YtphlmaaplaaopaaDoorW.PrintWords.Kd
