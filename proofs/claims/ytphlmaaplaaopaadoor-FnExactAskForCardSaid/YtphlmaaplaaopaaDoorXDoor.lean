import Derived.Test.YtphlmaaplaaopaaDoorXGlob
import Derived.Lib.LaidTab
import Derived.OpenVars
set_option linter.unusedVariables false
namespace Go.Proofs.YtphlmaaplaaopaaDoorW.PrintWords.XS
open Go Go.Lib
theorem cells_of_tab2 {H : Type} {enc : TypeId × Value → H} {P : Program} {w : World} {base : Nat} {sp : Nat → Bool} {held : Bool} {fuel : Nat} {t e1 e : TypeId} {n m : Nat} {k : IntKind} {cs : List Value} {rows : List (List Int)} {p : List MemPlace}
    (ht : P.underlying t = some (.array n e1)) (he1 : P.underlying e1 = some (.array m e)) (he : P.underlying e = some (.int k)) (hce : P.cellsOf e = 1) (hc1 : P.cellsOf e1 = m) (hct : P.cellsOf t = n * m)
    (h : DataW.trod enc P w base sp held fuel t cs = some (.agg (rows.map (tabData k)), p)) (i : Nat) (row : List Int) (hi : rows[i]? = some row) (j : Nat) (z : Int) (hj : row[j]? = some z) (hm : row.length ≤ m) : cs[i * m + j]? = some (.int k z) := by
  cases fuel with
  | zero => simp [DataW.trod] at h
  | succ fuel =>
    simp only [DataW.trod, ht, hc1, hct] at h
    split at h
    · obtain ⟨xs, hmm, hx⟩ := Option.map_eq_some_iff.1 h
      have hxs : xs.map (·.1) = rows.map (tabData k) := by
        have := congrArg Prod.fst hx
        simpa using this
      have hxl : xs.length = n := by simpa using mapM_length hmm
      have hrl : rows.length = n := by
        have := congrArg List.length hxs
        simp at this
        omega
      have hin : i < n := by rw [← hrl]; exact (List.getElem?_eq_some_iff.1 hi).1
      obtain ⟨b, hb, hf⟩ := mapM_at hmm i i (by simp [hin])
      have hb1 : b.1 = tabData k row := by
        have h1 : (xs.map (·.1))[i]? = some b.1 := by simp [hb]
        rw [hxs] at h1
        simp only [List.getElem?_map, hi, Option.map_some, Option.some.injEq] at h1
        exact h1.symm
      obtain ⟨b1, b2⟩ := b
      simp only at hb1
      subst hb1
      have hc := cells_of_tab he1 he hce hc1 hf
      have hjl : j < row.length := (List.getElem?_eq_some_iff.1 hj).1
      have h2 : ((cs.drop (i * m)).take m)[j]? = some (.int k z) := by rw [hc]; simp [hj]
      rw [List.getElem?_take_of_lt (by omega), List.getElem?_drop] at h2
      exact h2
    · cases h
def turnRows : List (List Int) := [[7, 12, 17, 22], [5, 9, 14, 20], [4, 11, 16, 23], [6, 10, 15, 21]]
theorem glob_of_laid {P : Program} {W : World} {n1 n2 : String} {rest : List (String × DataW Unit)} {gs gt : Nat} {ts es tt er et : TypeId}
    (hg1 : P.globalNamed n1 = some gs) (ht1 : (P.globals[gs]?).map (·.type) = some ts) (hu1 : P.underlying ts = some (.array 64 es)) (he1 : P.underlying es = some (.int .u32)) (hc1 : P.cellsOf es = 1) (hn1 : P.cellsOf ts = 64)
    (hg2 : P.globalNamed n2 = some gt) (ht2 : (P.globals[gt]?).map (·.type) = some tt) (hu2 : P.underlying tt = some (.array 4 er)) (hr2 : P.underlying er = some (.array 4 et)) (he2 : P.underlying et = some (.int .i64)) (hc2 : P.cellsOf et = 1) (hcr : P.cellsOf er = 4) (hn2 : P.cellsOf tt = 16)
    (h : laidMet P ((n1, tabData .u32 sines) :: (n2, .agg (turnRows.map (tabData .i64))) :: rest) W) : Glob gs gt W := by
  have h1 := tabIs_of_head hg1 ht1 hu1 he1 hc1 hn1 h
  obtain ⟨_, ⟨_, _, _, _, _, _, _, _, _, _, ⟨g', t', cs, fuel, p, q, hg', ht', hvar, hd, _, _⟩, _⟩, _, _⟩ := h
  obtain rfl := Option.some.inj (hg2.symm.trans hg')
  obtain rfl := Option.some.inj (ht2.symm.trans ht')
  refine ⟨fun i hi => h1.cell hg1 i hi, fun i hi => ?_⟩
  have hcell := World.var?_cell hg2 hvar i
  have hrow : turnRows[i / 4]? = some (turnRows.getD (i / 4) []) := by
    have : i / 4 = 0 ∨ i / 4 = 1 ∨ i / 4 = 2 ∨ i / 4 = 3 := by omega
    rcases this with e | e | e | e <;> rw [e] <;> rfl
  have hz : (turnRows.getD (i / 4) [])[i % 4]? = some (turns.getD i 0) := by
    have : i = 0 ∨ i = 1 ∨ i = 2 ∨ i = 3 ∨ i = 4 ∨ i = 5 ∨ i = 6 ∨ i = 7 ∨ i = 8 ∨ i = 9 ∨ i = 10 ∨ i = 11 ∨ i = 12 ∨ i = 13 ∨ i = 14 ∨ i = 15 := by omega
    rcases this with rfl | rfl | rfl | rfl | rfl | rfl | rfl | rfl | rfl | rfl | rfl | rfl | rfl | rfl | rfl | rfl <;> rfl
  have hl : (turnRows.getD (i / 4) []).length ≤ 4 := by
    have : i / 4 = 0 ∨ i / 4 = 1 ∨ i / 4 = 2 ∨ i / 4 = 3 := by omega
    rcases this with e | e | e | e <;> rw [e] <;> decide
  have hc := cells_of_tab2 hu2 hr2 he2 hc2 hcr hn2 hd (i / 4) _ hrow (i % 4) _ hz hl
  rw [show i / 4 * 4 + i % 4 = i by omega] at hc
  have hcell' : W.cell? ⟨gt, i, none⟩ = cs[i]? := by simpa using hcell
  rw [hcell', ← Array.getElem?_toList, hc]
theorem trodVars_two {H : Type} {enc : TypeId × Value → H} {P : Program} {W : World} {sp : Nat → Bool} {n1 n2 : String} {gs : List (DataW H)} {ps : List MemPlace} (h : DataW.TrodVars enc P W sp [n1, n2] gs ps) : ∃ g1 g2, gs = [g1, g2] := by
  match gs, h with
  | [], h => exact h.elim
  | [_], h => obtain ⟨_, _, _, _, _, _, _, _, _, _, h, _⟩ := h; exact h.elim
  | [a, b], _ => exact ⟨a, b, rfl⟩
  | a :: b :: c :: l, h => obtain ⟨_, _, _, _, _, _, _, _, _, _, ⟨_, _, _, _, _, _, _, _, _, _, h, _⟩, _⟩ := h; exact h.elim
end Go.Proofs.YtphlmaaplaaopaaDoorW.PrintWords.XS
