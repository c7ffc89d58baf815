import Derived.Test.YtphlmaaplaaopaaWWords
import Derived.Deep.Slices
import Derived.SizedLaws
namespace Go.Proofs.YtphlmaaplaaopaaW.XOpen
open Go.RowKit Go.ChangeShapes Go.WideShapes Go.Proofs.YtphlmaaplaaopaaW.PrintWords
def Opens (P : Program) (t : TypeId) {α : Type} (d : Kd α) (wf : α → Prop) : Prop :=
  ∀ {H : Type} {enc : TypeId × Value → H} {w : World} {base : Nat} {spare : Nat → Bool} {held : Bool} {n : Nat} {cs : List Value} {x : DataW H × List MemPlace},
    DataW.trod enc P w base spare held n t cs = some x → (∀ m, m ∈ x.1.weights P t → m ≤ reachBytes) → ∃ y : α, d.K w y cs ∧ wf y
section
variable {P : Program} {t : TypeId}
theorem opens_string (ht : P.underlying t = some .string) : Opens P t Kd.string (fun s => s.size ≤ 140737488351232) := by
  intro H enc w base spare held n cs x h hm
  obtain ⟨z, rfl, rfl, _⟩ := DataW.trod_string ht h
  refine ⟨z, rfl, ?_⟩
  have h1 := hm z.data.toList.length (by simp [DataW.weights])
  rw [Array.length_toList] at h1
  exact h1
theorem mem_weightsAll {H : Type} {e : TypeId} : ∀ {l : List (DataW H)} {d : DataW H} {m : Nat}, d ∈ l → m ∈ d.weights P e → m ∈ DataW.weightsAll P e l
  | [], _, _, h, _ => by simp at h
  | a :: l, d, m, h, hm => by
    rw [DataW.weightsAll]
    rcases List.mem_cons.1 h with rfl | h
    · exact List.mem_append_left _ hm
    · exact List.mem_append_right _ (mem_weightsAll h hm)
theorem cells_get {w : World} {base : Nat} {a : Addr} {n : Nat} {cs : List Value} (h : w.cells? base a n = some cs) : cs.length = n ∧ ∀ i u, cs[i]? = some u → w.cell? (a.add i) = some u := by
  unfold World.cells? at h
  split at h
  · exact ⟨by simpa using mapM_some_length h, fun i u hu => by
      have hl : i < n := by
        have h1 := mapM_some_length h
        have h2 := (List.getElem?_eq_some_iff.1 hu).1
        rw [List.length_range] at h1
        omega
      have := mapM_some_get h i i (by simp [hl])
      rw [hu] at this
      exact this⟩
  · cases h
theorem opens_slice {α : Type} {d : Kd α} {wf : α → Prop} {e : TypeId} (ht : P.underlying t = some (.slice e)) (he : Opens P e d wf) {B : Nat} (hB : P.bytesOf e = B) (hsz : P.cellsOf e = d.sz) :
    Opens P t (Kd.slice e d) (fun xs => xs.length ≤ maxLen ∧ xs.length * B ≤ 140737488351232 ∧ ∀ x ∈ xs, wf x) := by
  intro H enc w base spare held n cs x h hm
  rcases Deep.open_slice ht h with ⟨rfl, rfl⟩ | ⟨a, len, cap, m, n', D, Pl, rfl, _, hlc, hcm, hmm, rfl, hel⟩
  · exact ⟨[], ⟨none, 0, rfl, Nat.le_refl _, ⟨rfl, by simp, fun h => by simp at h⟩⟩, by simp, by simp, by simp⟩
  have hlm : len ≤ m := by rw [hmm]; split <;> omega
  have hw1 : (len + (m - len)) * B ≤ reachBytes := by
    refine hm _ ?_
    simp [DataW.weights, ht, hB]
  have key : ∀ i, i < len → ∃ y : α, (∃ c, c.length = d.sz ∧ d.K w y c ∧ ∀ j u, c[j]? = some u → w.cell? (a.add (i * d.sz + j)) = some u) ∧ wf y := by
    intro i hi
    obtain ⟨cs', hc, htr⟩ := hel i (by omega)
    obtain ⟨hcl, hcc⟩ := cells_get hc
    obtain ⟨y, hK, hwf⟩ := he htr (fun z hz => hm z (by
      simp only [DataW.weights, ht]
      refine List.mem_cons_of_mem _ (List.mem_append_left _ (mem_weightsAll ?_ hz))
      exact List.mem_map.2 ⟨i, List.mem_range.2 hi, rfl⟩))
    refine ⟨y, ⟨cs', by rw [hcl, hsz], hK, fun j u hu => ?_⟩, hwf⟩
    have := hcc j u hu
    rw [Deep.add_add, hsz] at this
    exact this
  have hex : ∀ q, q ≤ len → ∃ xs : List α, xs.length = q ∧ ∀ i y, xs[i]? = some y → (∃ c, c.length = d.sz ∧ d.K w y c ∧ ∀ j u, c[j]? = some u → w.cell? (a.add (i * d.sz + j)) = some u) ∧ wf y := by
    intro q
    induction q with
    | zero => exact fun _ => ⟨[], rfl, fun i y hy => by simp at hy⟩
    | succ q ih =>
      intro hq
      obtain ⟨xs, hx, hxx⟩ := ih (by omega)
      obtain ⟨y, hy⟩ := key q (by omega)
      refine ⟨xs ++ [y], by simp [hx], fun i z hz => ?_⟩
      rcases Nat.lt_or_ge i xs.length with hi | hi
      · rw [List.getElem?_append_left hi] at hz
        exact hxx i z hz
      · have hi2 : i = xs.length := by
          have := (List.getElem?_eq_some_iff.1 hz).1
          rw [List.length_append, List.length_singleton] at this
          omega
        subst hi2
        have : y = z := by simpa using hz
        subst this
        rw [hx]
        exact hy
  obtain ⟨xs, hx, hxx⟩ := hex len (Nat.le_refl _)
  refine ⟨xs, ⟨some a, cap, by rw [hx], by omega, ⟨rfl, ?_, fun _ => ⟨a, rfl, fun j p hp => (hxx j p hp).1⟩⟩⟩, by omega, ?_, fun y hy => ?_⟩
  · have : maxLen ≤ 9223372036854775807 := by decide
    omega
  · rw [hx]
    exact Nat.le_trans (Nat.mul_le_mul_right _ (by omega)) hw1
  · obtain ⟨i, hi, rfl⟩ := List.mem_iff_getElem.1 hy
    exact (hxx i _ (List.getElem?_eq_getElem hi)).2
end
end Go.Proofs.YtphlmaaplaaopaaW.XOpen
