import Derived.Shelf.Strings.BuilderK
import Derived.Lib.Hide
import Derived.Test.YtphlmaaplaaopaaWWords
import Derived.Test.YtphlmaaplaaopaaProg
namespace Go.Proofs.YtphlmaaplaaopaaW.XBuild
open Go.Shelf Go.RowKit Go.Proofs.YtphlmaaplaaopaaW.PrintWords
def IsB (w : World) (B b : Nat) (s : ByteArray) : Prop := Lib.IsBuilderF 112 5 B b (Lib.byteCells s.data.toList) w
theorem IsB.new (W : World) (B : Nat) (hB : B ≤ W.heap.size) : IsB (W.alloc (.cells #[.pointer none, .slice none 0 0] 112)) B W.heap.size ⟨#[]⟩ :=
  .inl ⟨hB, .slice none 0 0, by simpa using heap_alloc_new W _, ⟨by simp [Lib.byteCells], .inl ⟨rfl, by simp [Lib.byteCells]⟩⟩, by simp [Value.ownBlock]⟩
theorem IsB.alloc {w : World} {B b : Nat} {s : ByteArray} (h : IsB w B b s) (o : Obj) : IsB (w.alloc o) B b s := h.elim (fun h => .inl (h.alloc o)) (fun h => .inr (h.alloc o))
theorem IsB.drewN {w : World} {B b : Nat} {s : ByteArray} (h : IsB w B b s) (n : Nat) : IsB (w.drewN n) B b s := h
theorem IsB.lt {w : World} {B b : Nat} {s : ByteArray} (h : IsB w B b s) : b < w.heap.size := h.elim (fun h => h.lt) (fun h => h.lt)
theorem IsB.below {w w' : World} {B b : Nat} {s : ByteArray} (h : IsB w B b s) (hb : Below w.heap.size w w') : IsB w' B b s := by
  have key : ∀ p, Lib.BuilderAtF 112 5 B b p (Lib.byteCells s.data.toList) w → Lib.BuilderAtF 112 5 B b p (Lib.byteCells s.data.toList) w' := by
    intro p hp
    have hlt := hp.lt
    obtain ⟨hB, v, hbk, hown, hne⟩ := hp
    refine ⟨hB, v, (hb.block b hlt).trans hbk, hown.kept (row := none) ⟨hb.os, hb.tape, hb.output, hb.size, fun k hk _ => hb.block k hk⟩ ?_, hne⟩
    cases v.ownBlock <;> simp
  exact h.elim (fun h => .inl (key _ h)) (fun h => .inr (key _ h))
end Go.Proofs.YtphlmaaplaaopaaW.XBuild
