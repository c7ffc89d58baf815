/- The builder's functions, as the reflective walk's table wants them told. -/
import Derived.Test.YtogfddilolannaaDoorKXBld
set_option linter.unusedVariables false
set_option linter.unusedSimpArgs false
namespace Go.Proofs.YtogfddilolannaaDoorW.XBld
open Go.Shelf Go.RowKit Go.Proofs.YtogfddilolannaaDoorW.PrintWords Go.Proofs.YtogfddilolannaaDoorW.XBuild Go.I
theorem string_x (D : Nat → Prop) (b : Nat) (p v : Value) (s : ByteArray) (w : World) (hbk : w.heap[b]? = some (.cells #[p, v] T (0, 0))) (hp : p = .pointer none ∨ p = .pointer (some ⟨b, 0, none⟩)) (hown : w.ownsRowF 0 e 1 v s.size (Lib.byteCells s.data.toList)) (hne : v.ownBlock ≠ some b)
    (hD : D b) (hDv : ∀ k, v.ownBlock = some k → D k) :
    Calls Tryd.prog 58 #[.pointer (some ⟨b, 0, none⟩)] w fun E w' => E = .returned (.string s) ∧ BN D b w w' s := by
  have hlt : b < w.heap.size := (Array.getElem?_eq_some_iff.1 hbk).1
  have hown' := hown
  rcases hown.2 with ⟨rfl, hz⟩ | ⟨g, cap, cur, fz, rfl, hbg, hg, hfz, hnc, hcm, hcs, htake⟩
  · obtain ⟨d⟩ := s
    have hd : d = #[] := Array.eq_empty_of_size_eq_zero hz
    subst hd
    exact string_none D b p _ w w.drew none hbk none 0 rfl rfl (.inl rfl) (BN.same hbk hp hown' hne hDv (Kp.refl D w).drew)
  · by_cases h0 : s.size = 0
    · obtain ⟨d⟩ := s
      have hd : d = #[] := Array.eq_empty_of_size_eq_zero h0
      subst hd
      by_cases hc0 : cap = 0
      · subst hc0
        have hg' : w.drew.heap[g]? = some (.cells cur e fz) := hg
        refine string_none D b p _ w (w.drew.alloc (.view ⟨g, 0, none⟩ e)) (some ⟨w.drew.heap.size, 0, none⟩) hbk (some ⟨g, 0, none⟩) 0 rfl (Lib.run_unsafeSliceData_zero w.drew _ _ e lays169.t127 ⟨g, 0, none⟩ 0 (e, cur.size) (by simp [World.shape?, hg'])) (.inr ⟨_, rfl⟩) ?_
        exact BN.same ((Lib.alloc_old w.drew _ b hlt).trans hbk) hp (World.ownsRowF.alloc (w := w.drew) hown' _) hne hDv ((Kp.refl D w).drew.trans (Kp.alloc D w.drew _))
      · exact string_none D b p _ w w.drew (some ⟨g, 0, none⟩) hbk (some ⟨g, 0, none⟩) cap rfl (Lib.run_unsafeSliceData_row _ _ _ _ _ _ hc0) (.inl rfl) (BN.same hbk hp hown' hne hDv (Kp.refl D w).drew)
    · exact string_some D b g cap p s w cur fz hbk hg hown' hnc hcm h0 (BN.froze hbk hp hown' (fun h => hne (by rw [← h]; rfl)) (hDv g rfl))
theorem bldN_of {B : Tab} (hT : B.bldT = T) (hE : B.byteT = e) {D : Nat → Prop} {b : Nat} {w w' : World} {s : ByteArray} (hD : D b) (hlt : b < w.heap.size) (h : BN D b w w' s) : BldN B w D w' s (.pointer (some ⟨b, 0, none⟩)) := by
  obtain ⟨p, v, h1, h2, h3, h4, h5, h6⟩ := h
  refine ⟨fun k => k = b ∨ v.ownBlock = some k, ⟨b, p, v, rfl, .inl rfl, by rw [hT]; exact h1, h2, by rw [hE]; exact h3, h4, fun g hg => .inr hg⟩, fun k hk => ?_, h6.block, h6.size, h6.os, h6.tape, h6.output⟩
  rcases hk with rfl | hk
  · exact .inl hD
  · exact (h5 k hk).imp id fun h => ⟨h, (h3.lt k hk).2⟩
theorem push_eq (s : ByteArray) (n : Int) : s ++ std.strOf [n] = s.push (UInt8.ofNat n.toNat) := by
  apply ByteArray.ext
  simp [ByteArray.data_append, ByteArray.push, std]
theorem bldC_wbyte {B : Tab} (hT : B.bldT = T) (hE : B.byteT = e) : BldC Tryd.prog B 109 .wbyte := by
  refine ⟨⟨_, _, Tryd.func109, rfl, rfl⟩, fun w s c D h hd n h0 h1 hl => ?_⟩
  obtain ⟨b, p, v, rfl, hD, hbk, hp, hown, hne, hDv⟩ := h
  rw [hT] at hbk
  rw [hE] at hown
  refine (writeByte_x D b p v s n w hbk hp hown hne hD hDv h0 h1 hl).mono fun E w' hr => ⟨hr.1, ?_⟩
  rw [push_eq]
  exact bldN_of hT hE hD (hd b hD) hr.2
theorem bldC_wstr {B : Tab} (hT : B.bldT = T) (hE : B.byteT = e) : BldC Tryd.prog B 56 .wstr := by
  refine ⟨⟨_, _, Tryd.func56, rfl, rfl⟩, fun w s c D h hd y hl => ?_⟩
  obtain ⟨b, p, v, rfl, hD, hbk, hp, hown, hne, hDv⟩ := h
  rw [hT] at hbk
  rw [hE] at hown
  exact (writeString_x D b p v s y w hbk hp hown hne hD hDv hl).mono fun E w' hr => ⟨hr.1, bldN_of hT hE hD (hd b hD) hr.2⟩
theorem bldC_str {B : Tab} (hT : B.bldT = T) (hE : B.byteT = e) : BldC Tryd.prog B 58 .str := by
  refine ⟨⟨_, _, Tryd.func58, rfl, rfl⟩, fun w s c D h hd => ?_⟩
  obtain ⟨b, p, v, rfl, hD, hbk, hp, hown, hne, hDv⟩ := h
  rw [hT] at hbk
  rw [hE] at hown
  exact (string_x D b p v s w hbk hp hown hne hD hDv).mono fun E w' hr => ⟨hr.1, bldN_of hT hE hD (hd b hD) hr.2⟩
theorem bldZ {B : Tab} (hT : B.bldT = T) : B.bldT ≠ 0 → ∃ i v, Tryd.prog.info? B.bldT = some i ∧ i.zero = some v ∧ v.cells = #[.pointer none, .slice none 0 0] := by
  intro _
  rw [hT]
  have h := (by kernel_rfl : (Tryd.prog.info? 82).bind (fun i => i.zero.map Value.cells) = some #[.pointer none, .slice none 0 0])
  cases hi : Tryd.prog.info? 82 with
  | none => rw [hi] at h; cases h
  | some i =>
    rw [hi] at h
    cases hz : i.zero with
    | none => rw [show (some i).bind (fun i => i.zero.map Value.cells) = i.zero.map Value.cells from rfl, hz] at h; cases h
    | some v =>
      rw [show (some i).bind (fun i => i.zero.map Value.cells) = i.zero.map Value.cells from rfl, hz] at h
      exact ⟨i, v, rfl, hz, by injection h⟩
end Go.Proofs.YtogfddilolannaaDoorW.XBld
#print axioms Go.Proofs.YtogfddilolannaaDoorW.XBld.bldC_wbyte
#print axioms Go.Proofs.YtogfddilolannaaDoorW.XBld.bldC_str
