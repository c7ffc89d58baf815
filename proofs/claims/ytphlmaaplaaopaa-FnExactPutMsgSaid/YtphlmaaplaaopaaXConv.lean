import Derived.Test.YtphlmaaplaaopaaWMore
import Derived.Test.YtphlmaaplaaopaaWLast
import Derived.Laws.Bits128
namespace Go.Proofs.YtphlmaaplaaopaaW.PrintWords
open Go.RowKit
theorem u32_w (n : Int) : IntKind.u32.wrap n = n % 4294967296 := IntKind.wrap_u32 n
theorem u64_w (n : Int) : IntKind.u64.wrap n = n % 18446744073709551616 := IntKind.wrap_u64 n
namespace Kd
section
variable {P : Program} {ops : Array Oper} {o : Oper} {rest : List Oper} {a : Act} {Q : Exit → Act → World → Prop}
theorem F_bytes (W : World) (e : TypeId) (s : ByteArray) (hs : s.size ≤ 9223372036854775807) {ok : Nat → Prop} (hok : ok W.heap.size) : F (Kd.int .u8) (Lib.bytesWorld W e s) ok (some ⟨W.heap.size, 0, none⟩) s.size (bytesOf s) := by
  intro W' hW
  have hg := (hW W.heap.size hok (by rw [Lib.bytesWorld_size]; omega)).trans (Lib.bytesWorld_at_new W e s)
  obtain ⟨h1, h2, h3⟩ := bytes_reads W e s hs
  refine C_of_reads (d := (0 : Int)) (h1 := fun _ => rfl) ⟨h1, h2, fun hp => ?_⟩
  obtain ⟨ad, he, hc⟩ := h3 hp
  cases he
  refine ⟨_, rfl, fun j hj => ?_⟩
  rw [← hc j hj, add_plain]
  unfold World.cell?
  rw [hg, Lib.bytesWorld_at_new]
theorem V_conv {w0 W : World} (base e : Nat) (hgd : o.guard = none) {N : Tmp} (_hd : o.dst = some N) (src dst : TypeId) (x : Operand) (ho : o.op = .convert src dst x) (s : ByteArray) (hx : a.eval x = .string s) {u : TypeDesc}
    (hs : P.underlying src = some u) (ht : P.underlying dst = some (.slice e)) (he : P.underlying e = some (.int .u8)) (hsz : s.size ≤ 9223372036854775807) {ok : Nat → Prop} (hfresh : ok W.heap.size) (HB : Below base w0 W) (hbase : base ≤ W.heap.size)
    (h : ∀ v1 w1, Kd.V (Kd.int .u8) e w1 base ok v1 (bytesOf s) → Below base w0 w1 → W.grownBy w1 none → (∃ b, v1.ownBlock = some b ∧ W.heap.size ≤ b) → wpList P ops Q rest (a.put o.dst v1) w1) : wpList P ops Q (o :: rest) a W := by
  have hb : Below base w0 (Lib.bytesWorld W e s) := bytes_below HB hbase e s
  have hr := Lib.run_convert_string_bytes W src dst e s hs ht he
  have hf := F_bytes W e s hsz hfresh
  have hl : s.size = (bytesOf s).length := (bytesOf_length s).symm
  refine event_run hgd (v := .slice (some ⟨W.heap.size, 0, none⟩) s.size (grownCap W s.size 0 e)) (w1 := Lib.bytesWorld W e s) ?_ (h _ _ ⟨_, _, by rw [← hl], ?_, ?_⟩ hb ⟨rfl, rfl, rfl, by rw [Lib.bytesWorld_size]; omega, fun k hk _ => Lib.bytesWorld_at_old W e s k hk⟩ ⟨W.heap.size, rfl, Nat.le_refl _⟩)
  · simp [execOp, ho, hx, hr]
  · rw [← hl]; exact grownCap_ge _ _ _ _
  · rw [← hl]; exact hf
end
end Kd
end Go.Proofs.YtphlmaaplaaopaaW.PrintWords
