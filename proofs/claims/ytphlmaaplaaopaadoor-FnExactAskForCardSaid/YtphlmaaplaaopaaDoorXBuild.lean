import Derived.Shelf.Strings.BuilderK
import Derived.Lib.Hide
import Derived.Test.YtphlmaaplaaopaaDoorWWords
import Derived.Test.YtphlmaaplaaopaaDoorProg
namespace Go.Proofs.YtphlmaaplaaopaaDoorW.XBuild
open Go.Shelf Go.RowKit Go.Proofs.YtphlmaaplaaopaaDoorW.PrintWords
def IsB (w : World) (B b : Nat) (s : ByteArray) : Prop := Lib.IsBuilderF 163 5 B b (Lib.byteCells s.data.toList) w
theorem IsB.alloc {w : World} {B b : Nat} {s : ByteArray} (h : IsB w B b s) (o : Obj) : IsB (w.alloc o) B b s := h.elim (fun h => .inl (h.alloc o)) (fun h => .inr (h.alloc o))
theorem IsB.drewN {w : World} {B b : Nat} {s : ByteArray} (h : IsB w B b s) (n : Nat) : IsB (w.drewN n) B b s := h
theorem IsB.lt {w : World} {B b : Nat} {s : ByteArray} (h : IsB w B b s) : b < w.heap.size := h.elim (fun h => h.lt) (fun h => h.lt)
theorem IsB.below {w w' : World} {B b : Nat} {s : ByteArray} (h : IsB w B b s) (hb : Below w.heap.size w w') : IsB w' B b s := by
  have key : ∀ p, Lib.BuilderAtF 163 5 B b p (Lib.byteCells s.data.toList) w → Lib.BuilderAtF 163 5 B b p (Lib.byteCells s.data.toList) w' := by
    intro p hp
    have hlt := hp.lt
    obtain ⟨hB, v, hbk, hown, hne⟩ := hp
    refine ⟨hB, v, (hb.block b hlt).trans hbk, hown.kept (row := none) ⟨hb.os, hb.tape, hb.output, hb.size, fun k hk _ => hb.block k hk⟩ ?_, hne⟩
    cases v.ownBlock <;> simp
  exact h.elim (fun h => .inl (key _ h)) (fun h => .inr (key _ h))
end Go.Proofs.YtphlmaaplaaopaaDoorW.XBuild
