import Derived.Test.YtphlmaaplaaopaaWWords
import Derived.Deep.Slices
import Derived.SizedLaws
namespace Go.Proofs.YtphlmaaplaaopaaW.XOpen
open Go.RowKit Go.ChangeShapes Go.WideShapes Go.Proofs.YtphlmaaplaaopaaW.PrintWords
def Opens (P : Program) (t : TypeId) {α : Type} (d : Kd α) (wf : α → Prop) : Prop :=
  ∀ {H : Type} {enc : TypeId × Value → H} {w : World} {base : Nat} {spare : Nat → Bool} {held : Bool} {n : Nat} {cs : List Value} {x : DataW H × List MemPlace},
    DataW.trod enc P w base spare held n t cs = some x → (∀ m, m ∈ x.1.weights P t → m ≤ reachBytes) → ∃ y : α, d.K w y cs ∧ wf y
section
variable {P : Program} {t : TypeId}
theorem opens_int {k : IntKind} (ht : P.underlying t = some (.int k)) : Opens P t (Kd.int k) (fun n => (Lit.int k n).wf = true) := by
  intro H enc w base spare held n cs x h _
  obtain ⟨z, rfl, _, hw⟩ := DataW.trod_int ht h
  exact ⟨z, rfl, hw⟩
theorem opens_string (ht : P.underlying t = some .string) : Opens P t Kd.string (fun s => s.size ≤ 140737488351232) := by
  intro H enc w base spare held n cs x h hm
  obtain ⟨z, rfl, rfl, _⟩ := DataW.trod_string ht h
  refine ⟨z, rfl, ?_⟩
  have h1 := hm z.data.toList.length (by simp [DataW.weights])
  rw [Array.length_toList] at h1
  exact h1
theorem mem_weightsAll {H : Type} {e : TypeId} : ∀ {l : List (DataW H)} {d : DataW H} {m : Nat}, d ∈ l → m ∈ d.weights P e → m ∈ DataW.weightsAll P e l
  | [], _, _, h, _ => by simp at h
  | a :: l, d, m, h, hm => by
    rw [DataW.weightsAll]
    rcases List.mem_cons.1 h with rfl | h
    · exact List.mem_append_left _ hm
    · exact List.mem_append_right _ (mem_weightsAll h hm)
theorem cells_get {w : World} {base : Nat} {a : Addr} {n : Nat} {cs : List Value} (h : w.cells? base a n = some cs) : cs.length = n ∧ ∀ i u, cs[i]? = some u → w.cell? (a.add i) = some u := by
  unfold World.cells? at h
  split at h
  · exact ⟨by simpa using mapM_some_length h, fun i u hu => by
      have hl : i < n := by
        have h1 := mapM_some_length h
        have h2 := (List.getElem?_eq_some_iff.1 hu).1
        rw [List.length_range] at h1
        omega
      have := mapM_some_get h i i (by simp [hl])
      rw [hu] at this
      exact this⟩
  · cases h
theorem opens_slice {α : Type} {d : Kd α} {wf : α → Prop} {e : TypeId} (ht : P.underlying t = some (.slice e)) (he : Opens P e d wf) {B : Nat} (hB : P.bytesOf e = B) (hsz : P.cellsOf e = d.sz) :
    Opens P t (Kd.slice e d) (fun xs => xs.length ≤ maxLen ∧ xs.length * B ≤ 140737488351232 ∧ ∀ x ∈ xs, wf x) := by
  intro H enc w base spare held n cs x h hm
  rcases Deep.open_slice ht h with ⟨rfl, rfl⟩ | ⟨a, len, cap, m, n', D, Pl, rfl, _, hlc, hcm, hmm, rfl, hel⟩
  · exact ⟨[], ⟨none, 0, rfl, Nat.le_refl _, ⟨rfl, by simp, fun h => by simp at h⟩⟩, by simp, by simp, by simp⟩
  have hlm : len ≤ m := by rw [hmm]; split <;> omega
  have hw1 : (len + (m - len)) * B ≤ reachBytes := by
    refine hm _ ?_
    simp [DataW.weights, ht, hB]
  have key : ∀ i, i < len → ∃ y : α, (∃ c, c.length = d.sz ∧ d.K w y c ∧ ∀ j u, c[j]? = some u → w.cell? (a.add (i * d.sz + j)) = some u) ∧ wf y := by
    intro i hi
    obtain ⟨cs', hc, htr⟩ := hel i (by omega)
    obtain ⟨hcl, hcc⟩ := cells_get hc
    obtain ⟨y, hK, hwf⟩ := he htr (fun z hz => hm z (by
      simp only [DataW.weights, ht]
      refine List.mem_cons_of_mem _ (List.mem_append_left _ (mem_weightsAll ?_ hz))
      exact List.mem_map.2 ⟨i, List.mem_range.2 hi, rfl⟩))
    refine ⟨y, ⟨cs', by rw [hcl, hsz], hK, fun j u hu => ?_⟩, hwf⟩
    have := hcc j u hu
    rw [Deep.add_add, hsz] at this
    exact this
  have hex : ∀ q, q ≤ len → ∃ xs : List α, xs.length = q ∧ ∀ i y, xs[i]? = some y → (∃ c, c.length = d.sz ∧ d.K w y c ∧ ∀ j u, c[j]? = some u → w.cell? (a.add (i * d.sz + j)) = some u) ∧ wf y := by
    intro q
    induction q with
    | zero => exact fun _ => ⟨[], rfl, fun i y hy => by simp at hy⟩
    | succ q ih =>
      intro hq
      obtain ⟨xs, hx, hxx⟩ := ih (by omega)
      obtain ⟨y, hy⟩ := key q (by omega)
      refine ⟨xs ++ [y], by simp [hx], fun i z hz => ?_⟩
      rcases Nat.lt_or_ge i xs.length with hi | hi
      · rw [List.getElem?_append_left hi] at hz
        exact hxx i z hz
      · have hi2 : i = xs.length := by
          have := (List.getElem?_eq_some_iff.1 hz).1
          rw [List.length_append, List.length_singleton] at this
          omega
        subst hi2
        have : y = z := by simpa using hz
        subst this
        rw [hx]
        exact hy
  obtain ⟨xs, hx, hxx⟩ := hex len (Nat.le_refl _)
  refine ⟨xs, ⟨some a, cap, by rw [hx], by omega, ⟨rfl, ?_, fun _ => ⟨a, rfl, fun j p hp => (hxx j p hp).1⟩⟩⟩, by omega, ?_, fun y hy => ?_⟩
  · have : maxLen ≤ 9223372036854775807 := by decide
    omega
  · rw [hx]
    exact Nat.le_trans (Nat.mul_le_mul_right _ (by omega)) hw1
  · obtain ⟨i, hi, rfl⟩ := List.mem_iff_getElem.1 hy
    exact (hxx i _ (List.getElem?_eq_getElem hi)).2
def OpensL (P : Program) (fs : List Field) (off : Nat) {α : Type} (d : Kd α) (wf : α → Prop) : Prop :=
  ∀ {H : Type} {enc : TypeId × Value → H} {w : World} {base : Nat} {spare : Nat → Bool} {held : Bool} {n : Nat} {cs : List Value} {xs : List (DataW H × List MemPlace)},
    xs.length = fs.length → (∀ (i : Nat) (f : Field), fs[i]? = some f → DataW.trod enc P w base spare held n f.type ((cs.drop f.offset).take (P.cellsOf f.type)) = xs[i]?) →
    (∀ m, m ∈ DataW.weightsEach P (fs.map (·.type)) (xs.map (·.1)) → m ≤ reachBytes) → cs.length = off + d.sz → ∃ y : α, d.K w y (cs.drop off) ∧ wf y
theorem opensL_one {α : Type} {d : Kd α} {wf : α → Prop} {f : Field} {off : Nat} (h : Opens P f.type d wf) (ho : f.offset = off) (hc : P.cellsOf f.type = d.sz) : OpensL P [f] off d wf := by
  intro H enc w base spare held n cs xs hl hx hm hcs
  match xs, hl with
  | [x], _ =>
    have h1 := hx 0 f rfl
    rw [ho, hc, List.take_of_length_le (by rw [List.length_drop]; omega)] at h1
    exact h h1 (fun m hmm => hm m (by simp [DataW.weightsEach, hmm]))
theorem opensL_cons {α β : Type} {d : Kd α} {wf : α → Prop} {d2 : Kd β} {wf2 : β → Prop} {f : Field} {fs : List Field} {off : Nat} (h : Opens P f.type d wf) (ho : f.offset = off) (hc : P.cellsOf f.type = d.sz) (h2 : OpensL P fs (off + d.sz) d2 wf2) :
    OpensL P (f :: fs) off (Kd.pair d d2) (fun y => wf y.1 ∧ wf2 y.2) := by
  intro H enc w base spare held n cs xs hl hx hm hcs
  match xs, hl with
  | x :: xs, hl =>
    have hcs' : cs.length = off + (d.sz + d2.sz) := hcs
    have h1 := hx 0 f rfl
    rw [ho, hc] at h1
    obtain ⟨y1, hK1, hw1⟩ := h h1 (fun m hmm => hm m (by simp [DataW.weightsEach, hmm]))
    obtain ⟨y2, hK2, hw2⟩ := h2 (xs := xs) (by simpa using hl) (fun i g hg => hx (i + 1) g hg) (fun m hmm => hm m (by simp only [List.map_cons, DataW.weightsEach]; exact List.mem_append_right _ hmm)) (by omega)
    refine ⟨(y1, y2), ⟨_, _, ?_, hK1, hK2⟩, hw1, hw2⟩
    rw [← List.drop_drop, List.take_append_drop]
theorem opens_struct {α : Type} {d : Kd α} {wf : α → Prop} {fs : Array Field} (ht : P.underlying t = some (.struct fs)) (h : OpensL P fs.toList 0 d wf) (hc : P.cellsOf t = d.sz) : Opens P t d wf := by
  intro H enc w base spare held n cs x htr hm
  obtain ⟨xs, n', _, rfl, hcs, hxl, hx⟩ := DataW.trod_struct ht htr
  have := h (enc := enc) (w := w) (base := base) (spare := spare) (held := held) (n := n') (cs := cs) (xs := xs) (by simpa using hxl) (fun i f hf => hx i f (by simpa using hf)) (fun m hmm => hm m (by
    simp only [DataW.weights, ht]
    exact hmm)) (by rw [hcs, hc]; omega)
  simpa using this
theorem opens_iso {α β : Type} {d : Kd α} {wf : α → Prop} {f : β → α} {g : α → β} (h : Opens P t d wf) (hfg : ∀ y, f (g y) = y) : Opens P t (Kd.iso d f) (fun z => wf (f z)) := by
  intro H enc w base spare held n cs x htr hm
  obtain ⟨y, hK, hw⟩ := h htr hm
  exact ⟨g y, by show d.K w (f (g y)) cs; rw [hfg]; exact hK, by show wf (f (g y)); rw [hfg]; exact hw⟩
theorem opens_mono {α : Type} {d : Kd α} {wf wf' : α → Prop} (h : Opens P t d wf) (hw : ∀ y, wf y → wf' y) : Opens P t d wf' := by
  intro H enc w base spare held n cs x htr hm
  obtain ⟨y, hK, hy⟩ := h htr hm
  exact ⟨y, hK, hw y hy⟩
end
end Go.Proofs.YtphlmaaplaaopaaW.XOpen
