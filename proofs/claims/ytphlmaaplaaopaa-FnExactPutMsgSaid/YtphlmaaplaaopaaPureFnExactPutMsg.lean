/- The program's PutMsg answers as the reference's, at all messages; it writes into none, and its answer is its own. No condition beside the form's own reach. -/
import Derived.Test.YtphlmaaplaaopaaPFnExactPutMsgx13
namespace Go.Proofs.Ytphlmaaplaaopaa.Pure
open Go.RowKit Go.Proofs.Ytphlmaaplaaopaa.PFnExactPutMsg Go.Proofs.YtphlmaaplaaopaaW.PrintWords Go.Proofs.YtphlmaaplaaopaaW.PrintLast Go.Proofs.YtphlmaaplaaopaaW.PrintMore
theorem w64 {x : Int} (h0 : -9223372036854775808 ≤ x) (h1 : x ≤ 9223372036854775807) : wrap64 x = x := by unfold wrap64; omega
theorem emp_iff (s : ByteArray) : s.toList = ([] : List UInt8) ↔ s.size = 0 := by
  rw [ByteArray.toList_eq]
  obtain ⟨⟨d⟩⟩ := s
  cases d <;> simp [ByteArray.size]
theorem ev_at {α : Type} {g : Nat → Option α} {r : α} (h : ∀ k, g (k + 1) = some r) : Ev g r := ⟨1, fun k hk => by
  obtain ⟨j, rfl⟩ : ∃ j, k = j + 1 := ⟨k - 1, by omega⟩
  exact h j⟩
theorem ev_ret {α : Type} {g : Nat → Option α} {r : α} (h : ∀ k, g k = some r) : Ev g r := ⟨0, fun k _ => h k⟩
theorem ev_det {α : Type} {g : Nat → Option α} {r s : α} (h : Ev g r) (k : Ev g s) : r = s := by
  obtain ⟨K, h⟩ := h
  obtain ⟨L, k⟩ := k
  have h1 := h (K + L) (by omega)
  have h2 := k (K + L) (by omega)
  rw [h1] at h2
  exact Option.some.inj h2
theorem ba_ext {a b : ByteArray} (h : a.toList = b.toList) : a = b := by
  rw [ByteArray.toList_eq, ByteArray.toList_eq] at h
  exact ByteArray.ext (Array.toList_inj.1 h)
theorem bytesOf_append (a b : ByteArray) : bytesOf (a ++ b) = bytesOf a ++ bytesOf b := by simp [bytesOf, ByteArray.data_append]
theorem strOf_bytesOf (s : ByteArray) : strOfNums (bytesOf s) = s := by
  apply ByteArray.ext
  apply Array.toList_inj.1
  rw [strOfNums_data, bytesOf, List.map_map]
  exact (List.map_congr_left (fun b _ => by simp)).trans (List.map_id _)
theorem bytesOf_inj {a b : ByteArray} (h : bytesOf a = bytesOf b) : a = b := by rw [← strOf_bytesOf a, h, strOf_bytesOf]
/-- A right signature. -/
def slen (a b : Int) (n : Int) : Int := if 0 < b ∧ 0 < n then a * n - a + b else a * n
def sok (a b : Int) (ws : List Int) (ss : List ByteArray) : Bool :=
  decide (1 ≤ a ∧ a ≤ 256 ∧ 0 ≤ b ∧ b ≤ a - 1 ∧ ws.length ≤ 2500 ∧ ws.length = ss.length ∧ (b = 0 ∨ 0 < ws.length) ∧ (∀ x ∈ ss, x.size = 4) ∧ slen a b ws.length ≤ 20000)
theorem spec_len (a b : Int) (ws : List Int) (ss : List ByteArray) (h1 : 1 ≤ a) (h2 : a ≤ 256) (h3 : 0 ≤ b) (h4 : b ≤ a - 1) (h5 : ws.length ≤ 2500) : Ev (fun k => spec_SigLen.f k a b ws ss) (slen a b ws.length) := by
  have hp0 : 0 ≤ a * (ws.length : Int) := Int.mul_nonneg (by omega) (by omega)
  have hp1 : a * (ws.length : Int) ≤ 256 * 2500 := Int.mul_le_mul h2 (by omega) (by omega) (by omega)
  have hpn : (0 < (ws.length : Int)) ↔ 0 < a * (ws.length : Int) := by
    constructor
    · intro h; exact Int.mul_pos (by omega) h
    · intro h
      by_cases hz : (ws.length : Int) = 0
      · rw [hz, Int.mul_zero] at h; exact absurd h (by decide)
      · omega
  have e1 : spec_l01In.f a 1 256 = some true := by unfold spec_l01In.f; rw [if_pos (by omega), decide_eq_true (by omega)]
  have e2 : spec_l01In.f b 0 (wrap64 (a - 1)) = some true := by unfold spec_l01In.f; rw [w64 (by omega) (by omega), if_pos (by omega), decide_eq_true (by omega)]
  have h : Ev (fun k => spec_SigLen.j0 k false a b ws ss) (slen a b ws.length) := by
    refine ev_at (fun k => ?_)
    simp only [spec_SigLen.j0]
    unfold slen
    rw [if_neg (by decide)]
    generalize a * (ws.length : Int) = p at hp0 hp1 hpn
    rw [w64 (x := p) (by omega) (by omega), w64 (x := p - a) (by omega) (by omega), w64 (x := p - a + b) (by omega) (by omega)]
    by_cases hb : 0 < b
    · by_cases hp : 0 < p
      · rw [if_pos hb, if_pos hp, if_pos ⟨hb, hpn.2 hp⟩]
      · rw [if_pos hb, if_neg hp, if_neg (fun h => hp (hpn.1 h.2))]
    · rw [if_neg hb, if_neg (fun h => hb h.1)]
  refine Ev.congr (fun k => ?_) h
  simp only [spec_SigLen.f]
  rw [e1, e2]
  simp only [Option.bind_some]
  rw [if_pos trivial, if_pos trivial, decide_eq_false (by omega)]
theorem impl_cut (a b : Int) (ws : List Int) (ss : List ByteArray) : impl_Sig_isCut.f a b ws ss = some (decide (1 ≤ a ∧ a ≤ 256 ∧ 0 ≤ b ∧ b ≤ a - 1 ∧ ws.length ≤ 2500)) := by
  unfold impl_Sig_isCut.f impl_within.f
  by_cases c1 : 1 ≤ a
  · rw [if_pos c1]
    simp only [Option.bind_some]
    by_cases c2 : a ≤ 256
    · rw [if_pos (decide_eq_true c2), w64 (by omega) (by omega)]
      by_cases c3 : 0 ≤ b
      · rw [if_pos c3]
        simp only [Option.bind_some]
        by_cases c4 : b ≤ a - 1
        · rw [if_pos (decide_eq_true c4)]
          by_cases c5 : ws.length ≤ 2500
          · rw [decide_eq_true (by omega), decide_eq_true ⟨c1, c2, c3, c4, c5⟩]
          · rw [decide_eq_false (by omega), decide_eq_false (fun h => c5 h.2.2.2.2)]
        · rw [if_neg (by rw [decide_eq_false c4]; decide), decide_eq_false (fun h => c4 h.2.2.2.1)]
      · rw [if_neg c3]
        simp only [Option.bind_some]
        rw [if_neg (by decide), decide_eq_false (fun h => c3 h.2.2.1)]
    · rw [if_neg (by rw [decide_eq_false c2]; decide), decide_eq_false (fun h => c2 h.2.1)]
  · rw [if_neg c1]
    simp only [Option.bind_some]
    rw [if_neg (by decide), decide_eq_false (fun h => c1 h.1)]
theorem impl_len (a b : Int) (ws : List Int) (ss : List ByteArray) (h1 : 1 ≤ a) (h2 : a ≤ 256) (h3 : 0 ≤ b) (h4 : b ≤ a - 1) (h5 : ws.length ≤ 2500) : Ev (fun k => impl_SigLen.f k a b ws ss) (slen a b ws.length) := by
  have hp0 : 0 ≤ a * (ws.length : Int) := Int.mul_nonneg (by omega) (by omega)
  have hp1 : a * (ws.length : Int) ≤ 256 * 2500 := Int.mul_le_mul h2 (by omega) (by omega) (by omega)
  have h : Ev (fun k => impl_SigLen.j0 k ((ws.length : Int) == 0) a b ws ss) (slen a b ws.length) := by
    refine ev_at (fun k => ?_)
    simp only [impl_SigLen.j0]
    unfold slen
    by_cases hz : (ws.length : Int) = 0
    · rw [if_pos (by rw [hz]; rfl), hz, Int.mul_zero, if_neg (fun h => absurd h.2 (by decide))]
    · rw [if_neg (by simpa using hz)]
      generalize a * (ws.length : Int) = p at hp0 hp1
      rw [w64 (x := p) (by omega) (by omega), w64 (x := b - a) (by omega) (by omega), w64 (x := p + (b - a)) (by omega) (by omega)]
      by_cases hb : 0 < b
      · rw [if_pos hb, if_pos ⟨hb, by omega⟩]
        congr 1
        omega
      · rw [if_neg hb, if_neg (fun h => hb h.1)]
  refine Ev.congr (fun k => ?_) h
  simp only [impl_SigLen.f]
  rw [impl_cut a b ws ss, decide_eq_true ⟨h1, h2, h3, h4, h5⟩]
  simp only [Option.bind_some]
  rw [if_pos trivial]
theorem impl_any (ss : List ByteArray) : ∀ i : Int, 0 ≤ i → ∃ r : Int, slices_IndexFunc_string_string.go ss i = some r ∧ (0 ≤ r ↔ ¬ ∀ x ∈ ss, x.size = 4) := by
  induction ss with
  | nil => intro i hi; exact ⟨-1, rfl, by simp⟩
  | cons x t ih =>
    intro i hi
    by_cases hx : x.size = 4
    · obtain ⟨r, hr, hr2⟩ := ih (i + 1) (by omega)
      refine ⟨r, ?_, ?_⟩
      · simp only [slices_IndexFunc_string_string.go, impl_SigOk_1.f, Option.bind_some]
        rw [if_neg (by simp [hx]), hr]
      · rw [hr2]; simp [hx]
    · refine ⟨i, ?_, ?_⟩
      · simp only [slices_IndexFunc_string_string.go, impl_SigOk_1.f, Option.bind_some]
        rw [if_pos (by simp; omega)]
      · simp [hx, hi]
theorem impl_contains (ss : List ByteArray) : slices_ContainsFunc_string_string.f ss () = some (decide (¬ ∀ x ∈ ss, x.size = 4)) := by
  obtain ⟨r, hr, hr2⟩ := impl_any ss 0 (by decide)
  unfold slices_ContainsFunc_string_string.f slices_IndexFunc_string_string.f
  rw [hr]
  simp only [Option.bind_some]
  by_cases h : 0 ≤ r
  · rw [decide_eq_true h, decide_eq_true (hr2.1 h)]
  · rw [decide_eq_false h, decide_eq_false (fun h' => h (hr2.2 h'))]
theorem impl_ok (a b : Int) (ws : List Int) (ss : List ByteArray) : Ev (fun k => impl_SigOk.f k a b ws ss) (sok a b ws ss) := by
  unfold sok
  simp only [impl_SigOk.f, impl_contains]
  rw [impl_cut a b ws ss]
  simp only [Option.bind_some]
  by_cases hc : 1 ≤ a ∧ a ≤ 256 ∧ 0 ≤ b ∧ b ≤ a - 1 ∧ ws.length ≤ 2500
  · obtain ⟨h1, h2, h3, h4, h5⟩ := hc
    refine Ev.congr (fun k => by rw [if_pos (decide_eq_true ⟨h1, h2, h3, h4, h5⟩)]) ?_
    by_cases h6 : ws.length = ss.length
    · refine Ev.congr (fun k => by rw [if_pos (by omega)]) ?_
      by_cases h8 : ∀ x ∈ ss, x.size = 4
      · have hb : Ev (fun k => (impl_SigLen.f k a b ws ss).bind fun t => some (decide (t ≤ 20000))) (decide (slen a b ws.length ≤ 20000)) := Ev.bind (impl_len a b ws ss h1 h2 h3 h4 h5) (ev_ret (fun k => rfl))
        by_cases h7 : b = 0
        · refine Ev.congr (fun k => by rw [if_pos h7, if_neg (by simpa using h8)]) ?_
          refine cast (by rw [show decide (slen a b ws.length ≤ 20000) = decide (1 ≤ a ∧ a ≤ 256 ∧ 0 ≤ b ∧ b ≤ a - 1 ∧ ws.length ≤ 2500 ∧ ws.length = ss.length ∧ (b = 0 ∨ 0 < ws.length) ∧ (∀ x ∈ ss, x.size = 4) ∧ slen a b ws.length ≤ 20000) from decide_eq_decide.2 ⟨fun h => ⟨h1, h2, h3, h4, h5, h6, .inl h7, h8, h⟩, fun h => h.2.2.2.2.2.2.2.2⟩]) hb
        · by_cases h9 : 0 < ws.length
          · refine Ev.congr (fun k => by rw [if_neg h7, if_pos (by omega), if_neg (by simpa using h8)]) ?_
            refine cast (by rw [show decide (slen a b ws.length ≤ 20000) = decide (1 ≤ a ∧ a ≤ 256 ∧ 0 ≤ b ∧ b ≤ a - 1 ∧ ws.length ≤ 2500 ∧ ws.length = ss.length ∧ (b = 0 ∨ 0 < ws.length) ∧ (∀ x ∈ ss, x.size = 4) ∧ slen a b ws.length ≤ 20000) from decide_eq_decide.2 ⟨fun h => ⟨h1, h2, h3, h4, h5, h6, .inr h9, h8, h⟩, fun h => h.2.2.2.2.2.2.2.2⟩]) hb
          · refine ev_ret (fun k => ?_)
            rw [if_neg h7, if_neg (by omega), decide_eq_false]
            rintro ⟨_, _, _, _, _, _, h, _⟩
            rcases h with h | h
            · exact h7 h
            · exact h9 h
      · refine ev_ret (fun k => ?_)
        rw [decide_eq_true h8, if_pos rfl, decide_eq_false (fun h => h8 h.2.2.2.2.2.2.2.1)]
        split
        · rfl
        · split <;> rfl
    · refine ev_ret (fun k => ?_)
      rw [if_neg (by omega), decide_eq_false (fun h => h6 h.2.2.2.2.2.1)]
  · refine ev_ret (fun k => ?_)
    rw [if_neg (by rw [decide_eq_false hc]; decide), decide_eq_false (fun h => hc ⟨h.1, h.2.1, h.2.2.1, h.2.2.2.1, h.2.2.2.2.1⟩)]
theorem rdS_mid (ss : List ByteArray) (i : Nat) (h : i < ss.length) : rdOf ByteArray.empty ss (i : Int) = ss[i] := by simp [rdOf, h]
theorem spec_ok_l (a b : Int) (ws : List Int) (ss : List ByteArray) (hs : ss.length ≤ 4611686018427387904) (r : Bool) (d : Nat) : ∀ i : Nat, ss.length - i = d → i ≤ ss.length →
    (r = false ∨ ∀ x ∈ ss.drop i, x.size = 4) → ((∃ x ∈ ss.drop i, x.size ≠ 4) ∨ ∀ j : Int, j = ss.length → Ev (fun k => spec_SigOk.l0 k j a b ws ss) r) → Ev (fun k => spec_SigOk.l0 k i a b ws ss) r := by
  induction d with
  | zero =>
    intro i hd hi hr h
    obtain rfl : i = ss.length := by omega
    rcases h with ⟨x, hx, _⟩ | h
    · simp at hx
    · exact h _ rfl
  | succ d ih =>
    intro i hd hi hr h
    have hil : i < ss.length := by omega
    rw [List.drop_eq_getElem_cons hil] at hr h
    by_cases h4 : ss[i].size = 4
    · refine Ev.step (fun k => ?_) (ih (i + 1) (by clear h hr; omega) (by clear h hr; omega) ?_ ?_)
      · clear h hr
        simp only [spec_SigOk.l0]
        rw [if_pos (by omega), if_pos (by omega), rdS_mid ss i hil, if_pos (by omega), w64 (by omega) (by omega)]
        rfl
      · rcases hr with hr | hr
        · exact .inl hr
        · exact .inr (fun x hx => hr x (List.mem_cons_of_mem _ hx))
      · rcases h with ⟨x, hx, hx4⟩ | h
        · rcases List.mem_cons.1 hx with rfl | hx
          · exact absurd h4 hx4
          · exact .inl ⟨x, hx, hx4⟩
        · exact .inr h
    · obtain rfl : r = false := by
        rcases hr with hr | hr
        · exact hr
        · exact absurd (hr _ List.mem_cons_self) h4
      refine ev_at (fun k => ?_)
      simp only [spec_SigOk.l0]
      rw [if_pos (by omega), if_pos (by omega), rdS_mid ss i hil, if_neg (by omega)]
theorem spec_ok (a b : Int) (ws : List Int) (ss : List ByteArray) (hs : ss.length ≤ 4611686018427387904) : Ev (fun k => spec_SigOk.f k a b ws ss) (sok a b ws ss) := by
  have hbad : Ev (fun k => spec_SigOk.j0 k true a b ws ss) false := ev_at (fun k => by simp only [spec_SigOk.j0]; rw [if_pos trivial])
  unfold spec_SigOk.f spec_l01In.f
  by_cases h1 : 1 ≤ a
  · by_cases h2 : a ≤ 256
    · by_cases h3 : 0 ≤ b
      · by_cases h4 : b ≤ a - 1
        · by_cases h5 : ws.length ≤ 2500
          · refine Ev.congr (fun k => by rw [w64 (by omega) (by omega), if_pos (by omega), decide_eq_true h2, Option.bind_some, if_pos rfl, if_pos (by omega), decide_eq_true h4, Option.bind_some, if_pos rfl, if_neg (by omega)]) ?_
            by_cases h6 : ws.length = ss.length
            · refine Ev.congr (fun k => by rw [show ((ws.length : Int) != (ss.length : Int)) = false by simp [h6]]) ?_
              refine Ev.step (f := fun k => spec_SigOk.l0 k ((0 : Nat) : Int) a b ws ss) (fun k => by simp only [spec_SigOk.j0]; rw [if_neg (by decide)]; rfl) ?_
              refine spec_ok_l a b ws ss hs _ ss.length 0 (by omega) (by omega) ?_ ?_
              · by_cases h8 : ∀ x ∈ ss, x.size = 4
                · exact .inr (by simpa using h8)
                · exact .inl (by unfold sok; rw [decide_eq_false (fun h => h8 h.2.2.2.2.2.2.2.1)])
              · by_cases h8 : ∀ x ∈ ss, x.size = 4
                · refine .inr (fun j hj => ?_)
                  have hb : Ev (fun k => (spec_SigLen.f k a b ws ss).bind fun t => some (decide (t ≤ 20000))) (decide (slen a b ws.length ≤ 20000)) := Ev.bind (spec_len a b ws ss h1 h2 h3 h4 h5) (ev_ret (fun k => rfl))
                  by_cases h7 : b = 0
                  · refine Ev.step (fun k => by simp only [spec_SigOk.l0]; rw [if_neg (by omega), if_pos h7]) (cast ?_ hb)
                    unfold sok
                    rw [show decide (slen a b ws.length ≤ 20000) = decide (1 ≤ a ∧ a ≤ 256 ∧ 0 ≤ b ∧ b ≤ a - 1 ∧ ws.length ≤ 2500 ∧ ws.length = ss.length ∧ (b = 0 ∨ 0 < ws.length) ∧ (∀ x ∈ ss, x.size = 4) ∧ slen a b ws.length ≤ 20000) from decide_eq_decide.2 ⟨fun h => ⟨h1, h2, h3, h4, h5, h6, .inl h7, h8, h⟩, fun h => h.2.2.2.2.2.2.2.2⟩]
                  · by_cases h9 : 0 < ws.length
                    · refine Ev.step (fun k => by simp only [spec_SigOk.l0]; rw [if_neg (by omega), if_neg h7, if_pos (by omega)]) (cast ?_ hb)
                      unfold sok
                      rw [show decide (slen a b ws.length ≤ 20000) = decide (1 ≤ a ∧ a ≤ 256 ∧ 0 ≤ b ∧ b ≤ a - 1 ∧ ws.length ≤ 2500 ∧ ws.length = ss.length ∧ (b = 0 ∨ 0 < ws.length) ∧ (∀ x ∈ ss, x.size = 4) ∧ slen a b ws.length ≤ 20000) from decide_eq_decide.2 ⟨fun h => ⟨h1, h2, h3, h4, h5, h6, .inr h9, h8, h⟩, fun h => h.2.2.2.2.2.2.2.2⟩]
                    · refine ev_at (fun k => ?_)
                      simp only [spec_SigOk.l0]
                      rw [if_neg (by omega), if_neg h7, if_neg (by omega)]
                      unfold sok
                      rw [decide_eq_false]
                      rintro ⟨_, _, _, _, _, _, h, _⟩
                      rcases h with h | h
                      · exact h7 h
                      · exact h9 h
                · refine .inl ?_
                  simp only [List.drop_zero]
                  exact Classical.byContradiction (fun hn => h8 (fun x hx => Classical.byContradiction (fun hn2 => hn ⟨x, hx, hn2⟩)))
            · rw [show sok a b ws ss = false from decide_eq_false (fun h => h6 h.2.2.2.2.2.1)]
              exact Ev.congr (fun k => by rw [show ((ws.length : Int) != (ss.length : Int)) = true by simp; omega]) hbad
          · rw [show sok a b ws ss = false from decide_eq_false (fun h => h5 h.2.2.2.2.1)]
            exact Ev.congr (fun k => by rw [w64 (by omega) (by omega), if_pos (by omega), decide_eq_true h2, Option.bind_some, if_pos rfl, if_pos (by omega), decide_eq_true h4, Option.bind_some, if_pos rfl, if_pos (by omega)]) hbad
        · rw [show sok a b ws ss = false from decide_eq_false (fun h => h4 h.2.2.2.1)]
          exact Ev.congr (fun k => by rw [w64 (by omega) (by omega), if_pos (by omega), decide_eq_true h2, Option.bind_some, if_pos rfl, if_pos (by omega), decide_eq_false h4, Option.bind_some, if_neg (by decide)]) hbad
      · rw [show sok a b ws ss = false from decide_eq_false (fun h => h3 h.2.2.1)]
        exact Ev.congr (fun k => by rw [if_pos (by omega), decide_eq_true h2, Option.bind_some, if_pos rfl, if_neg (by omega), Option.bind_some, if_neg (by decide)]) hbad
    · rw [show sok a b ws ss = false from decide_eq_false (fun h => h2 h.2.1)]
      exact Ev.congr (fun k => by rw [if_pos (by omega), decide_eq_false h2, Option.bind_some, if_neg (by decide)]) hbad
  · rw [show sok a b ws ss = false from decide_eq_false (fun h => h1 h.1)]
    exact Ev.congr (fun k => by rw [if_neg (by omega), Option.bind_some, if_neg (by decide)]) hbad
theorem bytesOf_push (s : ByteArray) (x : Int) (h0 : 0 ≤ x) (h1 : x < 256) : bytesOf (s.push (UInt8.ofNat x.toNat)) = bytesOf s ++ [x] := by
  simp only [bytesOf, ByteArray.data_push, Array.toList_push, List.map_append, List.map_cons, List.map_nil]
  congr 2
  simp
  omega
def vtl : Nat → Int → List Int
  | 0, x => [x % 256]
  | n + 1, x => if x > 127 then (x % 128 + 128) :: vtl n (x / 128) else [x % 256]
theorem vt_bytes (n : Nat) : ∀ (x : Int) (acc : ByteArray), 0 ≤ x → bytesOf (impl_varText.vt n x acc) = bytesOf acc ++ vtl n x := by
  induction n with
  | zero => intro x acc h0; simp only [impl_varText.vt, vtl]; exact bytesOf_push _ _ (by omega) (by omega)
  | succ n ih =>
    intro x acc h0
    simp only [impl_varText.vt, vtl]
    by_cases h : x > 127
    · rw [if_pos h, if_pos h, ih _ _ (by omega), bytesOf_push _ _ (by omega) (by omega), List.append_assoc]
      rfl
    · rw [if_neg h, if_neg h]
      exact bytesOf_push _ _ (by omega) (by omega)
theorem vtl_len (n : Nat) : ∀ x : Int, (vtl n x).length ≤ n + 1 := by
  induction n with
  | zero => intro x; simp [vtl]
  | succ n ih =>
    intro x
    simp only [vtl]
    split
    · have := ih (x / 128); simp; omega
    · simp
def vl (x : Int) : List Int := vtl 10 x
theorem vl_len (x : Int) : (vl x).length ≤ 11 := vtl_len 10 x
theorem varText_ok (x : Int) (h0 : 0 ≤ x) (h1 : x ≤ 9223372036854775807) : ∃ v, impl_varText.f x = some v ∧ bytesOf v = vl x ∧ v.size ≤ 11 := by
  refine ⟨impl_varText.vt 10 x ⟨#[]⟩, by unfold impl_varText.f; rw [if_pos h1], ?_, ?_⟩
  · rw [vt_bytes 10 x _ h0]; rfl
  · rw [← bytesOf_length, vt_bytes 10 x _ h0]
    exact vl_len x
theorem rd_mid103 (pre : List S103) (x : S103) (t : List S103) {i : Int} (hi : i = pre.length) : rd_T103 (pre ++ x :: t) i = x := by
  subst hi
  simp [rd_T103]
theorem set_mid103 (pre : List S103) (x y : S103) (t : List S103) {i : Int} (hi : i = pre.length) : (pre ++ x :: t).set i.toNat y = pre ++ y :: t := by
  subst hi
  simp
/-- A right token. -/
def tokok (t : S103) : Prop := (t.f0 = 0 ∧ 1 ≤ t.f1.size ∧ t.f1.size ≤ 100 ∧ t.f2 = 0 ∧ t.f3 = 0) ∨ (t.f0 = 1 ∧ t.f1.size = 0 ∧ 0 ≤ t.f2 ∧ t.f2 ≤ 1000000 ∧ 1 ≤ t.f3 ∧ t.f3 ≤ 1000000)
instance (t : S103) : Decidable (tokok t) := by unfold tokok; infer_instance
def txl (t : S103) : List Int := if t.f0 = 0 then vl (2 * (t.f1.size : Int)) ++ bytesOf t.f1 else vl (2 * t.f3 + 1) ++ vl t.f2
theorem one_ok (t : S103) : impl_tokensText_1.f t.f0 t.f1 t.f2 t.f3 = some (decide (¬ tokok t)) := by
  unfold impl_tokensText_1.f impl_TokenOk.f impl_within.f tokok
  by_cases h0 : t.f0 = 0
  · rw [if_pos h0]
    by_cases h1 : 1 ≤ (t.f1.size : Int)
    · rw [if_pos h1]
      simp only [Option.bind_some]
      by_cases h2 : (t.f1.size : Int) ≤ 100
      · rw [if_pos (decide_eq_true h2)]
        by_cases h3 : t.f2 = 0
        · rw [if_pos h3]
          simp only [Option.bind_some]
          by_cases h4 : t.f3 = 0
          · rw [if_pos (by rw [h4]; rfl), if_neg (by omega), decide_eq_false (by omega), decide_eq_false (by omega)]
          · rw [if_neg (by simpa using h4), decide_eq_true (by omega)]
        · rw [if_neg h3]
          simp only [Option.bind_some]
          rw [if_neg (by decide), decide_eq_true (by omega)]
      · rw [if_neg (by simpa using h2)]
        simp only [Option.bind_some]
        rw [if_neg (by decide), decide_eq_true (by omega)]
    · rw [if_neg h1]
      simp only [Option.bind_some]
      rw [if_neg (by decide)]
      simp only [Option.bind_some]
      rw [if_neg (by decide), decide_eq_true (by omega)]
  · rw [if_neg h0]
    by_cases h1 : t.f0 = 1
    · rw [if_pos h1]
      by_cases h2 : t.f1.size = 0
      · rw [if_pos ((emp_iff _).2 h2)]
        by_cases h3 : 0 ≤ t.f2
        · rw [if_pos h3]
          simp only [Option.bind_some]
          by_cases h4 : 1 ≤ t.f3
          · rw [if_pos (decide_eq_true h4)]
            by_cases h5 : t.f3 > 1000000
            · rw [if_pos h5, decide_eq_true (by omega)]
            · rw [if_neg h5]
              by_cases h6 : t.f2 > 1000000
              · rw [decide_eq_true h6, decide_eq_true (by omega)]
              · rw [decide_eq_false h6, decide_eq_false (by omega)]
          · rw [if_neg (by simpa using h4), decide_eq_true (by omega)]
        · rw [if_neg h3]
          simp only [Option.bind_some]
          rw [if_neg (by decide), decide_eq_true (by omega)]
      · rw [if_neg (fun h => h2 ((emp_iff _).1 h))]
        simp only [Option.bind_some]
        rw [if_neg (by decide), decide_eq_true (by omega)]
    · rw [if_neg h1]
      simp only [Option.bind_some]
      rw [if_neg (by decide), decide_eq_true (by omega)]
theorem tok_any (l : List S103) : ∀ i : Int, 0 ≤ i → ∃ r : Int, impl_Token_100.go l i = some r ∧ (0 ≤ r ↔ ¬ ∀ x ∈ l, tokok x) := by
  induction l with
  | nil => intro i hi; exact ⟨-1, rfl, by simp⟩
  | cons x t ih =>
    intro i hi
    by_cases hx : tokok x
    · obtain ⟨r, hr, hr2⟩ := ih (i + 1) (by omega)
      refine ⟨r, ?_, ?_⟩
      · simp only [impl_Token_100.go, one_ok, Option.bind_some]
        rw [if_neg (by simpa using hx), hr]
      · rw [hr2]; simp [hx]
    · refine ⟨i, ?_, ?_⟩
      · simp only [impl_Token_100.go, one_ok, Option.bind_some]
        rw [if_pos (by simpa using hx)]
      · simp [hx, hi]
theorem tok_contains (l : List S103) : impl_Token_82.f l () = some (decide (¬ ∀ x ∈ l, tokok x)) := by
  obtain ⟨r, hr, hr2⟩ := tok_any l 0 (by decide)
  unfold impl_Token_82.f impl_Token_100.f
  rw [hr]
  simp only [Option.bind_some]
  by_cases h : 0 ≤ r
  · rw [decide_eq_true h, decide_eq_true (hr2.1 h)]
  · rw [decide_eq_false h, decide_eq_false (fun h' => h (hr2.2 h'))]
theorem tx_ok (t : S103) (h : tokok t) : ∃ s, impl_tokensText.tx t = some s ∧ bytesOf s = txl t ∧ s.size ≤ 120 ∧ t.f1.size ≤ 100 := by
  unfold impl_tokensText.tx txl
  rcases h with ⟨h0, h1, h2, h3, h4⟩ | ⟨h0, h1, h2, h3, h4, h5⟩
  · rw [if_pos h0, if_pos h0, w64 (by omega) (by omega)]
    obtain ⟨v, hv, hb, hs⟩ := varText_ok (2 * (t.f1.size : Int)) (by omega) (by omega)
    rw [hv]
    exact ⟨v ++ t.f1, rfl, by rw [bytesOf_append, hb], by rw [ByteArray.size_append]; omega, h2⟩
  · rw [if_neg (by omega), if_neg (by omega), w64 (x := 2 * t.f3) (by omega) (by omega), w64 (by omega) (by omega)]
    obtain ⟨v, hv, hb, hs⟩ := varText_ok (2 * t.f3 + 1) (by omega) (by omega)
    obtain ⟨u, hu, hc, hs2⟩ := varText_ok t.f2 (by omega) (by omega)
    rw [hv, hu]
    exact ⟨v ++ u, rfl, by rw [bytesOf_append, hb, hc], by rw [ByteArray.size_append]; omega, by omega⟩
def txs (l : List S103) : List Int := (l.map txl).flatten
theorem txs_append (a b : List S103) : txs (a ++ b) = txs a ++ txs b := by simp [txs]
theorem txs_one (x : S103) : txs [x] = txl x := by simp [txs]
theorem go_ok (l : List S103) : ∀ acc : ByteArray, (∀ x ∈ l, tokok x) → acc.size + 120 * l.length ≤ 10000000 → ∃ r, impl_tokensText.go l acc = some r ∧ bytesOf r = bytesOf acc ++ txs l ∧ r.size ≤ acc.size + 120 * l.length := by
  induction l with
  | nil => intro acc _ _; exact ⟨acc, rfl, by simp [txs], by simp⟩
  | cons x t ih =>
    intro acc hx hs
    simp only [List.length_cons] at hs
    obtain ⟨s, h1, h2, h3, h4⟩ := tx_ok x (hx x (by simp))
    obtain ⟨r, hr, hb, hsz⟩ := ih (acc ++ s) (fun y hy => hx y (by simp [hy])) (by rw [ByteArray.size_append]; omega)
    rw [ByteArray.size_append] at hsz
    refine ⟨r, ?_, ?_, ?_⟩
    · simp only [impl_tokensText.go]
      rw [h1]
      simp only [Option.bind_some]
      rw [if_pos ⟨by omega, by omega⟩, hr]
    · rw [hb, bytesOf_append, h2, show x :: t = [x] ++ t from rfl, txs_append, txs_one, List.append_assoc]
    · simp only [List.length_cons]; omega
theorem text_ok (l : List S103) (hl : l.length ≤ 20000) (h : ∀ x ∈ l, tokok x) : ∃ r, impl_tokensText.f l = some (r, true) ∧ bytesOf r = txs l ++ [0] := by
  obtain ⟨r, hr, hb, hs⟩ := go_ok l ⟨#[]⟩ h (by show 0 + _ ≤ _; omega)
  have hs2 : r.size ≤ 0 + 120 * l.length := hs
  refine ⟨r.push (UInt8.ofNat (0 : Int).toNat), ?_, ?_⟩
  · unfold impl_tokensText.f
    rw [if_neg (by omega), tok_contains]
    simp only [Option.bind_some]
    rw [if_neg (by simpa using h), hr]
    simp only [Option.bind_some]
    rw [if_pos (by omega)]
  · rw [bytesOf_push _ 0 (by decide) (by decide), hb]
    rfl
theorem text_bad (l : List S103) (h : ¬ ∀ x ∈ l, tokok x) : impl_tokensText.f l = some (⟨#[]⟩, false) := by
  unfold impl_tokensText.f
  by_cases hl : 20000 < l.length
  · rw [if_pos hl]
  · rw [if_neg hl, tok_contains, decide_eq_true h]
    rfl
theorem text_some (l : List S103) : ∃ r, impl_tokensText.f l = some r := by
  by_cases hl : 20000 < l.length
  · exact ⟨_, by unfold impl_tokensText.f; rw [if_pos hl]⟩
  by_cases h : ∀ x ∈ l, tokok x
  · obtain ⟨r, hr, _⟩ := text_ok l (by omega) h
    exact ⟨_, hr⟩
  · exact ⟨_, text_bad l h⟩
theorem putvar_vtl (n : Nat) : ∀ (x : Int) (acc : List Int), 0 ≤ x → x < 128 ^ (n + 1) → x < 9223372036854775808 → acc.length + n < 1000000000 → Ev (fun k => spec_PutVar.l0 k x acc) (acc ++ vtl n x) := by
  induction n with
  | zero =>
    intro x acc h0 h1 _ ha
    have h1' : x < 128 := by simpa using h1
    exact ev_at (fun k => by simp only [spec_PutVar.l0, vtl]; rw [if_neg (by omega), if_pos (by omega)])
  | succ n ih =>
    intro x acc h0 h1 h9 ha
    by_cases hlow : x < 128
    · exact ev_at (fun k => by simp only [spec_PutVar.l0, vtl]; rw [if_neg (by omega), if_pos (by omega), if_neg (by omega)])
    · have hx : x / 128 < 128 ^ (n + 1) := by rw [Int.pow_succ] at h1; omega
      have he := ih (x / 128) (acc ++ [(128 + x % 128) % 256]) (by omega) hx (by omega) (by simp; omega)
      have e : acc ++ vtl (n + 1) x = acc ++ [(128 + x % 128) % 256] ++ vtl n (x / 128) := by
        simp only [vtl]
        rw [if_pos (by omega), show (128 + x % 128) % 256 = x % 128 + 128 by omega]
        simp
      rw [e]
      refine Ev.step (fun k => ?_) he
      simp only [spec_PutVar.l0]
      rw [if_pos (by omega), if_pos (by omega), Int.tdiv_eq_ediv_of_nonneg h0, Int.tmod_eq_emod_of_nonneg h0, w64 (x := x / 128) (by omega) (by omega), w64 (x := 128 + x % 128) (by omega) (by omega)]
theorem spec_putvar (x : Int) (h0 : 0 ≤ x) (h1 : x ≤ 9223372036854775807) : Ev (fun k => spec_PutVar.f k x) (vl x) := by
  have h10 : x < 128 ^ (10 + 1) := by rw [show (128 : Int) ^ (10 + 1) = 151115727451828646838272 by decide]; omega
  have h := putvar_vtl 10 x [] h0 h10 (by omega) (by simp)
  exact Ev.congr (fun k => by simp only [spec_PutVar.f, Option.bind_some]; rw [if_neg (by omega)]) h
def tok0 (t : S103) : Prop := (t.f0 = 0 ∧ 1 ≤ t.f1.size ∧ t.f1.size ≤ 100 ∧ t.f2 = 0 ∧ t.f3 = 0) ∨ (t.f0 = 1 ∧ t.f1.size = 0 ∧ 0 ≤ t.f2 ∧ 1 ≤ t.f3)
instance (t : S103) : Decidable (tok0 t) := by unfold tok0; infer_instance
theorem spec_tok (t : S103) : spec_TokenOk.f t.f0 t.f1 t.f2 t.f3 = some (decide (tok0 t)) := by
  unfold spec_TokenOk.f spec_l01In.f
  by_cases h0 : t.f0 = 0
  · rw [if_pos h0]
    by_cases h1 : 1 ≤ (t.f1.size : Int)
    · rw [if_pos h1]
      simp only [Option.bind_some]
      by_cases h2 : (t.f1.size : Int) ≤ 100
      · rw [if_pos (decide_eq_true h2)]
        by_cases h3 : t.f2 = 0
        · rw [if_pos h3]
          by_cases h4 : t.f3 = 0
          · rw [decide_eq_true (show tok0 t by unfold tok0; omega), h4]; rfl
          · rw [decide_eq_false (show ¬ tok0 t by unfold tok0; omega), beq_false_of_ne h4]
        · rw [if_neg h3, decide_eq_false (show ¬ tok0 t by unfold tok0; omega)]
      · rw [if_neg (by simpa using h2), decide_eq_false (show ¬ tok0 t by unfold tok0; omega)]
    · rw [if_neg h1]
      simp only [Option.bind_some]
      rw [if_neg (by decide), decide_eq_false (show ¬ tok0 t by unfold tok0; omega)]
  · rw [if_neg h0]
    by_cases h1 : t.f0 = 1
    · rw [if_pos h1]
      by_cases h2 : t.f1.size = 0
      · rw [if_pos ((emp_iff _).2 h2)]
        by_cases h3 : 0 ≤ t.f2
        · rw [if_pos h3]
          by_cases h4 : 1 ≤ t.f3
          · rw [decide_eq_true (show t.f3 ≥ 1 from h4), decide_eq_true (show tok0 t by unfold tok0; omega)]
          · rw [decide_eq_false (show ¬ t.f3 ≥ 1 from h4), decide_eq_false (show ¬ tok0 t by unfold tok0; omega)]
        · rw [if_neg h3, decide_eq_false (show ¬ tok0 t by unfold tok0; omega)]
      · rw [if_neg (fun h => h2 ((emp_iff _).1 h)), decide_eq_false (show ¬ tok0 t by unfold tok0; omega)]
    · rw [if_neg h1, decide_eq_false (show ¬ tok0 t by unfold tok0; omega)]
theorem tok0_ok (t : S103) : tokok t ↔ tok0 t ∧ t.f2 ≤ 1000000 ∧ t.f3 ≤ 1000000 := by
  unfold tokok tok0
  omega
/-- The bytes of tokens, where there are any. -/
def ptv (l : List S103) : List Int := if l.length ≤ 20000 ∧ ∀ x ∈ l, tokok x then txs l ++ [0] else []
theorem spec_pts (suf : List S103) : ∀ (pre : List S103) (acc : List Int) (i : Int), i = pre.length → pre.length + suf.length ≤ 20000 → acc.length + 200 * suf.length ≤ 10000000 →
    ∀ r : List Int, ((∀ x ∈ suf, tokok x) ∧ r = acc ++ (txs suf ++ [0]) ∨ (¬ ∀ x ∈ suf, tokok x) ∧ r = []) → Ev (fun k => spec_PutTokens.l0 k (pre ++ suf) acc i) r := by
  induction suf with
  | nil =>
    rintro pre acc i hi hl ha r (⟨_, hr⟩ | ⟨hn, _⟩)
    · rw [hr]
      refine ev_at (fun k => ?_)
      simp only [spec_PutTokens.l0]
      rw [if_neg (by simp; omega), if_pos (by simp at ha; omega)]
      simp [txs]
    · exact absurd (fun x hx => absurd hx (by simp)) hn
  | cons x t ih =>
    intro pre acc i hi hl ha r hr
    simp only [List.length_cons] at hl ha
    have e3 : wrap64 (i + 1) = i + 1 := w64 (by omega) (by omega)
    have c1 : i < ((pre ++ x :: t).length : Int) := by simp; omega
    have c2 : 0 ≤ i := by omega
    have hrd : rd_T103 (pre ++ x :: t) i = x := rd_mid103 pre x t hi
    have hj : ∀ (b : Bool) (r : List Int), Ev (fun k => spec_PutTokens.j1 k (pre ++ x :: t) acc i b x.f0 x.f1 x.f2 x.f3) r → b = decide (¬ tokok x) → Ev (fun k => spec_PutTokens.l0 k (pre ++ x :: t) acc i) r := by
      intro b r h hb
      refine Ev.step (fun k => ?_) h
      simp only [spec_PutTokens.l0]
      rw [if_pos c1, if_pos c2, hrd, spec_tok, Option.bind_some, hb]
      by_cases h0 : tok0 x
      · rw [if_pos (decide_eq_true h0)]
        by_cases h2 : x.f2 > 1000000
        · rw [if_pos h2, decide_eq_true (show ¬ tokok x from fun h => absurd ((tok0_ok x).1 h).2.1 (by omega))]
        · rw [if_neg h2]
          have e : decide (x.f3 > 1000000) = decide (¬ tokok x) := decide_eq_decide.2 ⟨fun h hh => absurd ((tok0_ok x).1 hh).2.2 (by omega), fun h => Classical.byContradiction (fun hn => h ((tok0_ok x).2 ⟨h0, by omega, by omega⟩))⟩
          rw [e]
      · rw [if_neg (by simpa using h0), decide_eq_true (show ¬ tokok x from fun h => h0 ((tok0_ok x).1 h).1)]
    by_cases hk : tokok x
    · refine hj false _ ?_ (by rw [decide_eq_false (show ¬ ¬ tokok x from fun h => h hk)])
      have hv := fun y (h0 : 0 ≤ y) (h1 : y ≤ 9223372036854775807) => spec_putvar y h0 h1
      have hlen : (txl x).length ≤ 120 := by
        obtain ⟨s, _, hb, hs, _⟩ := tx_ok x hk
        rw [← hb, bytesOf_length]
        exact hs
      have hih := ih (pre ++ [x]) (acc ++ txl x) (i + 1) (by simp; omega) (by simp; omega) (by simp; omega) r ?_
      · have hih2 : Ev (fun k => spec_PutTokens.l0 k (pre ++ x :: t) (acc ++ txl x) (i + 1)) r := by simpa using hih
        rcases hk with ⟨h0, h1, h2, h3, h4⟩ | ⟨h0, h1, h2, h3, h4, h5⟩
        · have ex : txl x = vl (2 * (x.f1.size : Int)) ++ bytesOf x.f1 := by unfold txl; rw [if_pos h0]
          have hl1 := vl_len (2 * (x.f1.size : Int))
          refine Ev.step (fun k => by simp only [spec_PutTokens.j1]; rw [if_neg (by decide), if_pos h0, w64 (x := 2 * (x.f1.size : Int)) (by omega) (by omega)]) (Ev.bind (hv (2 * (x.f1.size : Int)) (by omega) (by omega)) ?_)
          refine Ev.congr (fun k => ?_) hih2
          rw [if_pos (by omega), Option.bind_some, if_pos (by omega), Option.bind_some, if_pos (by rw [List.length_append, bytesOf_length]; omega), e3, ex, List.append_assoc]
        · have hne : ¬ x.f0 = 0 := by omega
          have ex : txl x = vl (2 * x.f3 + 1) ++ vl x.f2 := by unfold txl; rw [if_neg hne]
          have hl1 := vl_len (2 * x.f3 + 1)
          have hl2 := vl_len x.f2
          refine Ev.step (fun k => by simp only [spec_PutTokens.j1]; rw [if_neg (by decide), if_neg hne, w64 (x := 2 * x.f3) (by omega) (by omega), w64 (x := 2 * x.f3 + 1) (by omega) (by omega)]) (Ev.bind (hv (2 * x.f3 + 1) (by omega) (by omega)) ?_)
          refine Ev.congr (fun k => by rw [if_pos (by omega), Option.bind_some]) (Ev.bind (hv x.f2 (by omega) (by omega)) ?_)
          refine Ev.congr (fun k => ?_) hih2
          rw [if_pos (by rw [List.length_append]; omega), e3, ex, List.append_assoc]
      · rcases hr with ⟨h1, h2⟩ | ⟨h1, h2⟩
        · refine .inl ⟨fun y hy => h1 y (by simp [hy]), ?_⟩
          rw [h2, show x :: t = [x] ++ t from rfl, txs_append, txs_one]
          simp only [List.append_assoc]
        · refine .inr ⟨fun h => h1 (fun y hy => ?_), h2⟩
          rcases List.mem_cons.1 hy with rfl | hy
          · exact hk
          · exact h y hy
    · have er : r = [] := by
        rcases hr with ⟨h1, _⟩ | ⟨_, h2⟩
        · exact absurd (h1 x (by simp)) hk
        · exact h2
      rw [er]
      refine hj true _ (ev_at (fun k => ?_)) (by rw [decide_eq_true hk])
      simp only [spec_PutTokens.j1]
      rw [if_pos trivial]
theorem spec_pt (l : List S103) : Ev (fun k => spec_PutTokens.f k l) (ptv l) := by
  unfold spec_PutTokens.f ptv
  by_cases hl : l.length ≤ 20000
  · refine Ev.congr (fun k => by rw [Option.bind_some, if_neg (by omega), List.nil_append]) (spec_pts l [] [] 0 rfl (by simpa using hl) (by simp; omega) _ ?_)
    by_cases hk : ∀ x ∈ l, tokok x
    · exact .inl ⟨hk, by rw [if_pos ⟨hl, hk⟩]; rfl⟩
    · exact .inr ⟨hk, by rw [if_neg (fun h => hk h.2)]⟩
  · rw [if_neg (fun h => hl h.1)]
    exact ev_ret (fun k => by rw [Option.bind_some, if_pos (by omega)])
theorem ptv_pos (l : List S103) : (0 < (ptv l).length) ↔ (l.length ≤ 20000 ∧ ∀ x ∈ l, tokok x) := by
  unfold ptv
  by_cases h : l.length ≤ 20000 ∧ ∀ x ∈ l, tokok x
  · rw [if_pos h]
    exact ⟨fun _ => h, fun _ => by simp⟩
  · rw [if_neg h]
    exact ⟨fun h2 => absurd h2 (by simp), fun h2 => absurd h2 h⟩
theorem impl_pt (l : List S103) : ∃ r, impl_tokensText.f l = some (r, decide (l.length ≤ 20000 ∧ ∀ x ∈ l, tokok x)) ∧ bytesOf r = ptv l := by
  by_cases hl : l.length ≤ 20000
  · by_cases hk : ∀ x ∈ l, tokok x
    · obtain ⟨r, h1, h2⟩ := text_ok l hl hk
      exact ⟨r, by rw [h1, decide_eq_true ⟨hl, hk⟩], by unfold ptv; rw [if_pos ⟨hl, hk⟩, h2]⟩
    · exact ⟨⟨#[]⟩, by rw [text_bad l hk, decide_eq_false (fun h => hk h.2)], by unfold ptv; rw [if_neg (fun h => hk h.2)]; rfl⟩
  · refine ⟨⟨#[]⟩, ?_, by unfold ptv; rw [if_neg (fun h => hl h.1)]; rfl⟩
    rw [decide_eq_false (fun h => hl h.1)]
    unfold impl_tokensText.f
    rw [if_pos (by omega)]
/-- A right message. -/
def nosig (a b : Int) (ws : List Int) (ss : List ByteArray) : Prop := a = 0 ∧ b = 0 ∧ ws.length = 0 ∧ ss.length = 0
instance (a b : Int) (ws : List Int) (ss : List ByteArray) : Decidable (nosig a b ws ss) := by unfold nosig; infer_instance
def toksok (ts : List S103) : Prop := ts.length ≤ 20000 ∧ ∀ x ∈ ts, tokok x
instance (ts : List S103) : Decidable (toksok ts) := by unfold toksok; infer_instance
def mok (kd p a b : Int) (ws : List Int) (ss : List ByteArray) (ts : List S103) (sum : ByteArray) : Bool :=
  decide (0 ≤ p ∧ p ≤ 1000) && (if kd = 0 then sok a b ws ss && decide (ts.length = 0 ∧ sum.size = 0) else if kd = 1 then decide (nosig a b ws ss ∧ toksok ts ∧ sum.size = 16) else if kd = 2 then decide (nosig a b ws ss ∧ ts.length = 0 ∧ sum.size = 0) else false)
theorem in_ev (a : Int) : (if a ≥ 0 then some (decide (a ≤ 1000)) else some false) = some (decide (0 ≤ a ∧ a ≤ 1000)) := by
  by_cases h : a ≥ 0
  · rw [if_pos h]
    congr 1
    exact decide_eq_decide.2 ⟨fun h2 => ⟨h, h2⟩, fun h2 => h2.2⟩
  · rw [if_neg h, decide_eq_false (fun h2 => h h2.1)]
theorem spec_nosig (a b : Int) (ws : List Int) (ss : List ByteArray) : spec_l18NoSig.f a b ws ss = some (decide (nosig a b ws ss)) := by
  unfold spec_l18NoSig.f
  by_cases h1 : a = 0
  · rw [if_pos h1]
    by_cases h2 : b = 0
    · rw [if_pos h2]
      by_cases h3 : (ws.length : Int) = 0
      · rw [if_pos h3]
        by_cases h4 : ss.length = 0
        · rw [decide_eq_true (show nosig a b ws ss from ⟨h1, h2, by omega, h4⟩), h4]; rfl
        · rw [decide_eq_false (show ¬ nosig a b ws ss from fun h => h4 h.2.2.2), beq_false_of_ne (by omega)]
      · rw [if_neg h3, decide_eq_false (show ¬ nosig a b ws ss from fun h => h3 (by have := h.2.2.1; omega))]
    · rw [if_neg h2, decide_eq_false (show ¬ nosig a b ws ss from fun h => h2 h.2.1)]
  · rw [if_neg h1, decide_eq_false (show ¬ nosig a b ws ss from fun h => h1 h.1)]
theorem impl_nosig (a b : Int) (ws : List Int) (ss : List ByteArray) : impl_Sig_isNone.f a b ws ss = some (decide (nosig a b ws ss)) := spec_nosig a b ws ss
theorem empb (s : ByteArray) : (s.toList == ([] : List UInt8)) = decide (s.size = 0) := by
  by_cases h : s.size = 0
  · rw [decide_eq_true h, (emp_iff s).2 h]; rfl
  · rw [decide_eq_false h]
    exact beq_false_of_ne (fun h2 => h ((emp_iff s).1 h2))
theorem beq16 (s : ByteArray) : ((s.size : Int) == 16) = decide (s.size = 16) := by
  by_cases h : s.size = 16
  · rw [decide_eq_true h, h]; rfl
  · rw [decide_eq_false h]
    exact beq_false_of_ne (by omega)
theorem spec_mok (kd p a b : Int) (ws : List Int) (ss : List ByteArray) (ts : List S103) (sum : ByteArray) (hs : ss.length ≤ 4611686018427387904) : Ev (fun k => spec_MsgOk.f k kd p a b ws ss ts sum) (mok kd p a b ws ss ts sum) := by
  unfold spec_MsgOk.f mok spec_l01In.f
  simp only [in_ev, Option.bind_some]
  by_cases hp : 0 ≤ p ∧ p ≤ 1000
  · refine Ev.congr (fun k => by rw [decide_eq_true hp, if_pos rfl]) ?_
    rw [decide_eq_true hp, Bool.true_and]
    by_cases k0 : kd = 0
    · rw [if_pos k0]
      refine Ev.congr (fun k => by rw [if_pos k0]) (Ev.bind (spec_ok a b ws ss hs) (ev_ret (fun k => ?_)))
      cases sok a b ws ss with
      | false => rw [if_neg (by decide), Bool.false_and]
      | true =>
        rw [if_pos rfl, Bool.true_and, empb]
        by_cases h1 : ts.length = 0
        · rw [if_pos (by omega)]; congr 1; exact decide_eq_decide.2 ⟨fun h => ⟨h1, h⟩, fun h => h.2⟩
        · rw [if_neg (by omega), decide_eq_false (fun h => h1 h.1)]
    rw [if_neg k0]
    by_cases k1 : kd = 1
    · rw [if_pos k1]
      refine Ev.congr (fun k => by rw [if_neg k0, if_pos k1, spec_nosig, Option.bind_some]) ?_
      by_cases h1 : nosig a b ws ss
      · refine Ev.congr (fun k => by rw [if_pos (decide_eq_true h1)]) (Ev.bind (spec_pt ts) (ev_ret (fun k => ?_)))
        by_cases h2 : toksok ts
        · rw [if_pos (by have := (ptv_pos ts).2 h2; omega), beq16]; congr 1; exact decide_eq_decide.2 ⟨fun h => ⟨h1, h2, h⟩, fun h => h.2.2⟩
        · rw [if_neg (fun h => h2 ((ptv_pos ts).1 (by omega))), decide_eq_false (fun h => h2 h.2.1)]
      · exact ev_ret (fun k => by rw [if_neg (by simpa using h1), decide_eq_false (fun h => h1 h.1)])
    rw [if_neg k1]
    by_cases k2 : kd = 2
    · rw [if_pos k2]
      refine ev_ret (fun k => ?_)
      rw [if_neg k0, if_neg k1, if_pos k2, spec_nosig, Option.bind_some, empb]
      by_cases h1 : nosig a b ws ss
      · rw [if_pos (decide_eq_true h1)]
        by_cases h2 : ts.length = 0
        · rw [if_pos (by omega)]; congr 1; exact decide_eq_decide.2 ⟨fun h => ⟨h1, h2, h⟩, fun h => h.2.2⟩
        · rw [if_neg (by omega), decide_eq_false (fun h => h2 h.2.1)]
      · rw [if_neg (by simpa using h1), decide_eq_false (fun h => h1 h.1)]
    · rw [if_neg k2]
      exact ev_ret (fun k => by rw [if_neg k0, if_neg k1, if_neg k2])
  · exact ev_ret (fun k => by rw [decide_eq_false hp, if_neg Bool.false_ne_true, Bool.false_and])
theorem impl_mok (kd p a b : Int) (ws : List Int) (ss : List ByteArray) (ts : List S103) (sum : ByteArray) : Ev (fun k => impl_MsgOk.f k kd p a b ws ss ts sum) (mok kd p a b ws ss ts sum) := by
  unfold impl_MsgOk.f mok impl_within.f
  simp only [in_ev, Option.bind_some]
  by_cases hp : 0 ≤ p ∧ p ≤ 1000
  · have hj : Ev (fun k => impl_MsgOk.j0 k (decide (ts.length = 0 ∧ sum.size = 0)) kd p a b ws ss ts sum) (if kd = 0 then sok a b ws ss && decide (ts.length = 0 ∧ sum.size = 0) else if kd = 1 then decide (nosig a b ws ss ∧ toksok ts ∧ sum.size = 16) else if kd = 2 then decide (nosig a b ws ss ∧ ts.length = 0 ∧ sum.size = 0) else false) := by
      by_cases k0 : kd = 0
      · rw [if_pos k0]
        refine Ev.step (fun k => by simp only [impl_MsgOk.j0]; rw [if_pos k0]) (Ev.bind (impl_ok a b ws ss) (ev_ret (fun k => ?_)))
        cases sok a b ws ss with
        | false => rw [if_neg (by decide), Bool.false_and]
        | true => rw [if_pos rfl, Bool.true_and]
      rw [if_neg k0]
      by_cases k1 : kd = 1
      · rw [if_pos k1]
        obtain ⟨r, hr, _⟩ := impl_pt ts
        have hr2 : impl_tokensText.f ts = some (r, decide (toksok ts)) := by
          rw [hr]
          by_cases h2 : toksok ts
          · rw [decide_eq_true h2, decide_eq_true (show ts.length ≤ 20000 ∧ ∀ x ∈ ts, tokok x from h2)]
          · rw [decide_eq_false h2, decide_eq_false (show ¬ (ts.length ≤ 20000 ∧ ∀ x ∈ ts, tokok x) from h2)]
        refine ev_at (fun k => ?_)
        simp only [impl_MsgOk.j0]
        rw [if_neg k0, if_pos k1, hr2, Option.bind_some, impl_nosig, Option.bind_some, beq16]
        by_cases h1 : nosig a b ws ss
        · rw [if_pos (decide_eq_true h1)]
          by_cases h2 : toksok ts
          · rw [if_pos (decide_eq_true h2)]; congr 1; exact decide_eq_decide.2 ⟨fun h => ⟨h1, h2, h⟩, fun h => h.2.2⟩
          · rw [if_neg (fun h => h2 (of_decide_eq_true h)), decide_eq_false (fun h => h2 h.2.1)]
        · rw [if_neg (by simpa using h1), decide_eq_false (fun h => h1 h.1)]
      rw [if_neg k1]
      by_cases k2 : kd = 2
      · rw [if_pos k2]
        refine ev_at (fun k => ?_)
        simp only [impl_MsgOk.j0]
        rw [if_neg k0, if_neg k1, if_pos k2, impl_nosig, Option.bind_some]
        by_cases h1 : nosig a b ws ss
        · rw [if_pos (decide_eq_true h1)]; congr 1; exact decide_eq_decide.2 ⟨fun h => ⟨h1, h⟩, fun h => h.2⟩
        · rw [if_neg (by simpa using h1), decide_eq_false (fun h => h1 h.1)]
      · rw [if_neg k2]
        exact ev_at (fun k => by simp only [impl_MsgOk.j0]; rw [if_neg k0, if_neg k1, if_neg k2])
    rw [decide_eq_true hp, Bool.true_and]
    refine Ev.congr (fun k => ?_) hj
    rw [if_pos rfl, empb]
    by_cases h1 : ts.length = 0
    · rw [if_pos (by omega), show decide (ts.length = 0 ∧ sum.size = 0) = decide (sum.size = 0) from decide_eq_decide.2 ⟨fun h => h.2, fun h => ⟨h1, h⟩⟩]
    · rw [if_neg (by omega), show decide (ts.length = 0 ∧ sum.size = 0) = false from decide_eq_false (fun h => h1 h.1)]
  · exact ev_ret (fun k => by rw [decide_eq_false hp, if_neg Bool.false_ne_true, Bool.false_and])
theorem rd_mid101 (pre : List S101) (x : S101) (t : List S101) {i : Int} (hi : i = pre.length) : rd_T101 (pre ++ x :: t) i = x := by
  subst hi
  simp [rd_T101]
theorem set_mid101 (pre : List S101) (x y : S101) (t : List S101) {i : Int} (hi : i = pre.length) : (pre ++ x :: t).set i.toNat y = pre ++ y :: t := by
  subst hi
  simp
theorem rd_midB (pre : List Int) (x : Int) (t : List Int) {i : Int} (hi : i = pre.length) : rd (pre ++ x :: t) i = x := by
  subst hi
  simp [rd]
theorem set_midB (pre : List Int) (x y : Int) (t : List Int) {i : Int} (hi : i = pre.length) : (pre ++ x :: t).set i.toNat y = pre ++ y :: t := by
  subst hi
  simp
theorem rd_midS (pre : List ByteArray) (x : ByteArray) (t : List ByteArray) {i : Int} (hi : i = pre.length) : rdOf ByteArray.empty (pre ++ x :: t) i = x := by
  subst hi
  simp [rdOf]
theorem set_midS (pre : List ByteArray) (x y : ByteArray) (t : List ByteArray) {i : Int} (hi : i = pre.length) : (pre ++ x :: t).set i.toNat y = pre ++ y :: t := by
  subst hi
  simp
theorem toU (suf : List Int) : ∀ (pre : List Int) (i : Int), i = pre.length → pre.length + suf.length ≤ 70368744177664 →
    Ev (fun k => laws_toUint32S.l0 k (pre ++ suf) (pre ++ List.replicate suf.length 0) i) (pre ++ suf) := by
  induction suf with
  | nil =>
    intro pre i hi hl
    refine ev_at (fun k => ?_)
    simp only [laws_toUint32S.l0]
    rw [if_neg (by simp; omega)]
    simp
  | cons x t ih =>
    intro pre i hi hl
    simp only [List.length_cons] at hl
    have h := ih (pre ++ [x]) (i + 1) (by simp; omega) (by simp; omega)
    have e3 : wrap64 (i + 1) = i + 1 := w64 (by omega) (by omega)
    have c1 : i < ((pre ++ x :: t).length : Int) := by simp; omega
    have c2 : 0 ≤ i := by omega
    have c3 : i < ((pre ++ List.replicate (x :: t).length (0 : Int)).length : Int) := by simp; omega
    refine Ev.step (f := fun k => laws_toUint32S.l0 k (pre ++ x :: t) (pre ++ x :: List.replicate t.length 0) (i + 1)) (fun k => ?_) (by simpa using h)
    simp only [laws_toUint32S.l0]
    rw [if_pos c1, if_pos c2, if_pos c3, rd_midB pre x t hi, e3, List.length_cons, List.replicate_succ, set_midB _ _ _ _ hi]
theorem toUS (xs : List Int) (hl : xs.length ≤ 70368744177664) : Ev (fun k => laws_toUint32S.f k xs) xs := by
  have h := toU xs [] 0 rfl (by simpa using hl)
  exact Ev.congr (fun k => by simp only [laws_toUint32S.f]; rw [if_pos (by omega), if_pos (by simpa using hl)]; rfl) h
theorem toStr (suf : List ByteArray) : ∀ (pre : List ByteArray) (i : Int), i = pre.length → pre.length + suf.length ≤ 17592186044416 →
    Ev (fun k => laws_toStringS.l0 k (pre ++ suf) (pre ++ List.replicate suf.length (⟨#[]⟩ : ByteArray)) i) (pre ++ suf) := by
  induction suf with
  | nil =>
    intro pre i hi hl
    refine ev_at (fun k => ?_)
    simp only [laws_toStringS.l0]
    rw [if_neg (by simp; omega)]
    simp
  | cons x t ih =>
    intro pre i hi hl
    simp only [List.length_cons] at hl
    have h := ih (pre ++ [x]) (i + 1) (by simp; omega) (by simp; omega)
    have e3 : wrap64 (i + 1) = i + 1 := w64 (by omega) (by omega)
    have c1 : i < ((pre ++ x :: t).length : Int) := by simp; omega
    have c2 : 0 ≤ i := by omega
    have c3 : i < ((pre ++ List.replicate (x :: t).length (⟨#[]⟩ : ByteArray)).length : Int) := by simp; omega
    refine Ev.step (f := fun k => laws_toStringS.l0 k (pre ++ x :: t) (pre ++ x :: List.replicate t.length (⟨#[]⟩ : ByteArray)) (i + 1)) (fun k => ?_) (by simpa using h)
    simp only [laws_toStringS.l0]
    rw [if_pos c1, if_pos c2, if_pos c3, rd_midS pre x t hi, e3, List.length_cons, List.replicate_succ, set_midS _ _ _ _ hi]
theorem toStrS (xs : List ByteArray) (hl : xs.length ≤ 17592186044416) : Ev (fun k => laws_toStringS.f k xs) xs := by
  have h := toStr xs [] 0 rfl (by simpa using hl)
  exact Ev.congr (fun k => by simp only [laws_toStringS.f]; rw [if_pos (by omega), if_pos (by simpa using hl)]; rfl) h
theorem toK (suf : List S101) : ∀ (pre : List S101) (i : Int), i = pre.length → pre.length + suf.length ≤ 7036874417766 →
    Ev (fun k => laws_toTokenS.l0 k (pre ++ suf) (pre.map (fun x => (⟨x.f0, x.f1, x.f2, x.f3⟩ : S103)) ++ List.replicate suf.length z103) i) ((pre ++ suf).map (fun x => (⟨x.f0, x.f1, x.f2, x.f3⟩ : S103))) := by
  induction suf with
  | nil =>
    intro pre i hi hl
    refine ev_at (fun k => ?_)
    simp only [laws_toTokenS.l0]
    rw [if_neg (by simp; omega)]
    simp
  | cons x t ih =>
    intro pre i hi hl
    simp only [List.length_cons] at hl
    have h := ih (pre ++ [x]) (i + 1) (by simp; omega) (by simp; omega)
    have e3 : wrap64 (i + 1) = i + 1 := w64 (by omega) (by omega)
    have c1 : i < ((pre ++ x :: t).length : Int) := by simp; omega
    have c2 : 0 ≤ i := by omega
    have c3 : i < ((pre.map (fun x => (⟨x.f0, x.f1, x.f2, x.f3⟩ : S103)) ++ List.replicate (x :: t).length z103).length : Int) := by simp; omega
    refine Ev.step (f := fun k => laws_toTokenS.l0 k (pre ++ x :: t) (pre.map (fun x => (⟨x.f0, x.f1, x.f2, x.f3⟩ : S103)) ++ (⟨x.f0, x.f1, x.f2, x.f3⟩ : S103) :: List.replicate t.length z103) (i + 1)) (fun k => ?_) (by simpa using h)
    simp only [laws_toTokenS.l0, laws_toToken.f]
    rw [if_pos c1, if_pos c2, rd_mid101 pre x t hi]
    simp only [Option.bind_some]
    rw [if_pos c3, e3, List.length_cons, List.replicate_succ, set_mid103 _ _ _ _ (by simpa using hi)]
theorem toKS (xs : List S101) (hl : xs.length ≤ 7036874417766) : Ev (fun k => laws_toTokenS.f k xs) (xs.map (fun x => (⟨x.f0, x.f1, x.f2, x.f3⟩ : S103))) := by
  have h := toK xs [] 0 rfl (by simpa using hl)
  simp only [List.nil_append, List.map_nil] at h
  exact Ev.congr (fun k => by simp only [laws_toTokenS.f]; rw [if_pos (by omega), if_pos (by simpa using hl)]; rfl) h
theorem eqU (xs : List Int) (hx : xs.length ≤ 4611686018427387904) (d : Nat) : ∀ i : Int, 0 ≤ i → (xs.length : Int) - i = d → Ev (fun k => laws_eqUint32S.l0 k xs xs i) true := by
  induction d with
  | zero =>
    intro i h0 hd
    exact ev_at (fun k => by simp only [laws_eqUint32S.l0]; rw [if_neg (by omega)])
  | succ d ih =>
    intro i h0 hd
    refine Ev.step (fun k => ?_) (ih (i + 1) (by omega) (by omega))
    simp only [laws_eqUint32S.l0]
    rw [if_pos (by omega), if_pos h0, if_pos (by omega)]
    simp only [if_true]
    rw [w64 (by omega) (by omega)]
theorem eqUS (xs : List Int) (hx : xs.length ≤ 4611686018427387904) : Ev (fun k => laws_eqUint32S.f k xs xs) true :=
  Ev.congr (fun k => by simp only [laws_eqUint32S.f]; rw [if_pos trivial]) (eqU xs hx xs.length 0 (by omega) (by omega))
theorem eqStr (xs : List ByteArray) (hx : xs.length ≤ 4611686018427387904) (d : Nat) : ∀ i : Int, 0 ≤ i → (xs.length : Int) - i = d → Ev (fun k => laws_eqStringS.l0 k xs xs i) true := by
  induction d with
  | zero =>
    intro i h0 hd
    exact ev_at (fun k => by simp only [laws_eqStringS.l0]; rw [if_neg (by omega)])
  | succ d ih =>
    intro i h0 hd
    refine Ev.step (fun k => ?_) (ih (i + 1) (by omega) (by omega))
    simp only [laws_eqStringS.l0]
    rw [if_pos (by omega), if_pos h0, if_pos (by omega)]
    simp only [if_true]
    rw [w64 (by omega) (by omega)]
theorem eqStrS (xs : List ByteArray) (hx : xs.length ≤ 4611686018427387904) : Ev (fun k => laws_eqStringS.f k xs xs) true :=
  Ev.congr (fun k => by simp only [laws_eqStringS.f]; rw [if_pos trivial]) (eqStr xs hx xs.length 0 (by omega) (by omega))
theorem eq103 (xs : List S103) (hx : xs.length ≤ 4611686018427387904) (d : Nat) : ∀ i : Int, 0 ≤ i → (xs.length : Int) - i = d → Ev (fun k => laws_eqTokenS.l0 k xs xs i) true := by
  induction d with
  | zero =>
    intro i h0 hd
    exact ev_at (fun k => by simp only [laws_eqTokenS.l0]; rw [if_neg (by omega)])
  | succ d ih =>
    intro i h0 hd
    refine Ev.step (fun k => ?_) (ih (i + 1) (by omega) (by omega))
    simp only [laws_eqTokenS.l0, laws_eqToken.f]
    rw [if_pos (by omega), if_pos h0, if_pos (by omega)]
    simp only [if_true, Option.bind_some]
    rw [w64 (by omega) (by omega)]
theorem eqS103 (xs : List S103) (hx : xs.length ≤ 4611686018427387904) : Ev (fun k => laws_eqTokenS.f k xs xs) true :=
  Ev.congr (fun k => by simp only [laws_eqTokenS.f]; rw [if_pos trivial]) (eq103 xs hx xs.length 0 (by omega) (by omega))
theorem sz_str (suf : List ByteArray) : ∀ (pre : List ByteArray) (l i : Int), i = pre.length → 0 ≤ l → l ≤ 1048576 → pre.length + suf.length ≤ 4611686018427387904 → (∀ x ∈ suf, x.size ≤ 140737488351232) →
    ∃ v, v ≤ 1048576 ∧ Ev (fun k => laws_szStringS.l0 k (pre ++ suf) l i) v := by
  induction suf with
  | nil =>
    intro pre l i hi h0 h1 hl _
    refine ⟨l, h1, ev_at (fun k => ?_)⟩
    simp only [laws_szStringS.l0]
    rw [if_neg (by simp; omega)]
  | cons x t ih =>
    intro pre l i hi h0 h1 hl hx
    have hxs := hx x (List.mem_cons_self ..)
    simp only [List.length_cons] at hl
    have e1 : wrap64 (l - (x.size : Int)) = l - x.size := w64 (by omega) (by omega)
    have e3 : wrap64 (i + 1) = i + 1 := w64 (by omega) (by omega)
    have c1 : i < ((pre ++ x :: t).length : Int) := by simp; omega
    have c2 : 0 ≤ i := by omega
    by_cases hc : l - (x.size : Int) < 0
    · refine ⟨-1, by decide, ev_at (fun k => ?_)⟩
      simp only [laws_szStringS.l0]
      rw [if_pos c1, if_pos c2, rd_midS pre x t hi, e1, if_pos hc]
    · obtain ⟨v, hv, h⟩ := ih (pre ++ [x]) (l - x.size) (i + 1) (by simp; omega) (by omega) (by omega) (by simp; omega) (fun y hy => hx y (List.mem_cons_of_mem _ hy))
      refine ⟨v, hv, Ev.step (f := fun k => laws_szStringS.l0 k (pre ++ x :: t) (l - x.size) (i + 1)) (fun k => ?_) (by simpa using h)⟩
      simp only [laws_szStringS.l0]
      rw [if_pos c1, if_pos c2, rd_midS pre x t hi, e1, if_neg hc, e3]
theorem sz_strS (xs : List ByteArray) (b : Int) (hb0 : 0 ≤ b) (hb1 : b ≤ 1048576) (hl : xs.length ≤ 140737488355327) (hx : ∀ x ∈ xs, x.size ≤ 140737488351232) :
    ∃ v, v ≤ 1048576 ∧ (0 ≤ v → xs.length ≤ 1048576) ∧ Ev (fun k => laws_szStringS.f k xs b) v := by
  have e1 : wrap64 (b - (xs.length : Int)) = b - xs.length := w64 (by omega) (by omega)
  by_cases hc : b - (xs.length : Int) < 0
  · exact ⟨-1, by decide, fun h => absurd h (by decide), ev_ret (fun k => by simp only [laws_szStringS.f]; rw [e1, if_pos hc])⟩
  · obtain ⟨v, hv, h⟩ := sz_str xs [] (b - xs.length) 0 rfl (by omega) (by omega) (by simp; omega) hx
    exact ⟨v, hv, fun _ => by omega, Ev.congr (fun k => by simp only [laws_szStringS.f]; rw [e1, if_neg hc]; rfl) h⟩
theorem sz_tok (suf : List S101) : ∀ (pre : List S101) (l i : Int), i = pre.length → 0 ≤ l → l ≤ 1048576 → pre.length + suf.length ≤ 4611686018427387904 → (∀ x ∈ suf, x.f1.size ≤ 140737488351232) →
    ∃ v, v ≤ 1048576 ∧ Ev (fun k => laws_szTokenS.l0 k (pre ++ suf) l i) v := by
  induction suf with
  | nil =>
    intro pre l i hi h0 h1 hl _
    refine ⟨l, h1, ev_at (fun k => ?_)⟩
    simp only [laws_szTokenS.l0]
    rw [if_neg (by simp; omega)]
  | cons x t ih =>
    intro pre l i hi h0 h1 hl hx
    have hxs := hx x (List.mem_cons_self ..)
    simp only [List.length_cons] at hl
    have e1 : wrap64 (l - (x.f1.size : Int)) = l - x.f1.size := w64 (by omega) (by omega)
    have e3 : wrap64 (i + 1) = i + 1 := w64 (by omega) (by omega)
    have c1 : i < ((pre ++ x :: t).length : Int) := by simp; omega
    have c2 : 0 ≤ i := by omega
    by_cases hc : l - (x.f1.size : Int) < 0
    · refine ⟨-1, by decide, ev_at (fun k => ?_)⟩
      simp only [laws_szTokenS.l0, laws_szToken.f]
      rw [if_pos c1, if_pos c2, rd_mid101 pre x t hi, e1, if_pos hc]
      rfl
    · obtain ⟨v, hv, h⟩ := ih (pre ++ [x]) (l - x.f1.size) (i + 1) (by simp; omega) (by omega) (by omega) (by simp; omega) (fun y hy => hx y (List.mem_cons_of_mem _ hy))
      refine ⟨v, hv, Ev.step (f := fun k => laws_szTokenS.l0 k (pre ++ x :: t) (l - x.f1.size) (i + 1)) (fun k => ?_) (by simpa using h)⟩
      simp only [laws_szTokenS.l0, laws_szToken.f]
      rw [if_pos c1, if_pos c2, rd_mid101 pre x t hi, e1, if_neg hc]
      simp only [Option.bind_some]
      rw [if_neg hc, e3]
theorem sz_tokS (xs : List S101) (b : Int) (hb0 : 0 ≤ b) (hb1 : b ≤ 1048576) (hl : xs.length ≤ 140737488355327) (hx : ∀ x ∈ xs, x.f1.size ≤ 140737488351232) :
    ∃ v, v ≤ 1048576 ∧ (0 ≤ v → xs.length ≤ 1048576) ∧ Ev (fun k => laws_szTokenS.f k xs b) v := by
  have e1 : wrap64 (b - (xs.length : Int)) = b - xs.length := w64 (by omega) (by omega)
  by_cases hc : b - (xs.length : Int) < 0
  · exact ⟨-1, by decide, fun h => absurd h (by decide), ev_ret (fun k => by simp only [laws_szTokenS.f]; rw [e1, if_pos hc])⟩
  · obtain ⟨v, hv, h⟩ := sz_tok xs [] (b - xs.length) 0 rfl (by omega) (by omega) (by simp; omega) hx
    exact ⟨v, hv, fun _ => by omega, Ev.congr (fun k => by simp only [laws_szTokenS.f]; rw [e1, if_neg hc]; rfl) h⟩
theorem sz_msg (kd p a b : Int) (ws : List Int) (ss : List ByteArray) (ts : List S101) (sum : ByteArray) (hw : ws.length ≤ 140737488355327) (hs : ss.length ≤ 140737488355327) (hss : ∀ x ∈ ss, x.size ≤ 140737488351232) (ht : ts.length ≤ 140737488355327) (hts : ∀ x ∈ ts, x.f1.size ≤ 140737488351232) (hsum : sum.size ≤ 140737488351232) :
    ∃ v, (0 ≤ v → ws.length ≤ 1048576 ∧ ss.length ≤ 1048576 ∧ ts.length ≤ 1048576 ∧ sum.size ≤ 1048576) ∧ Ev (fun k => laws_szMsg.f k kd p a b ws ss ts sum 1048576) v := by
  have ew : wrap64 (1048576 - (ws.length : Int)) = 1048576 - ws.length := w64 (by omega) (by omega)
  unfold laws_szMsg.f laws_szSig.f laws_szUint32S.f
  by_cases c1 : 1048576 - (ws.length : Int) < 0
  · refine ⟨-1, fun h => absurd h (by decide), ev_ret (fun k => ?_)⟩
    rw [ew, if_pos c1, Option.bind_some, if_pos (by decide), Option.bind_some, if_pos (by decide)]
  obtain ⟨v2, hv2, hn2, e2⟩ := sz_strS ss (1048576 - ws.length) (by omega) (by omega) hs hss
  by_cases c2 : v2 < 0
  · refine ⟨-1, fun h => absurd h (by decide), ?_⟩
    have h2 : Ev (fun k => (laws_szStringS.f k ss (1048576 - (ws.length : Int))).bind fun t => if t < 0 then some (-1) else some t) (-1) := Ev.bind e2 (ev_ret (fun k => if_pos c2))
    exact Ev.congr (fun k => by rw [ew, if_neg c1, Option.bind_some, if_neg c1]) (Ev.bind h2 (ev_ret (fun k => by rw [if_pos (by decide)])))
  have h2 : Ev (fun k => (laws_szStringS.f k ss (1048576 - (ws.length : Int))).bind fun t => if t < 0 then some (-1) else some t) v2 := Ev.bind e2 (ev_ret (fun k => if_neg c2))
  obtain ⟨v3, hv3, hn3, e3⟩ := sz_tokS ts v2 (by omega) hv2 ht hts
  have hgo : ∀ v, Ev (fun k => (laws_szTokenS.f k ts v2).bind fun t110 => (if t110 < 0 then (some (-1)) else (if (wrap64 (t110 - (sum.size : Int))) < 0 then (some (-1)) else (some (wrap64 (t110 - (sum.size : Int))))))) v → Ev (fun k => ((if wrap64 (1048576 - (ws.length : Int)) < 0 then some (-1) else some (wrap64 (1048576 - (ws.length : Int)))).bind fun t103 => (if t103 < 0 then (some (-1)) else ((laws_szStringS.f k ss t103).bind fun t104 => (if t104 < 0 then (some (-1)) else (some t104))))).bind fun t109 => (if t109 < 0 then (some (-1)) else ((laws_szTokenS.f k ts t109).bind fun t110 => (if t110 < 0 then (some (-1)) else (if (wrap64 (t110 - (sum.size : Int))) < 0 then (some (-1)) else (some (wrap64 (t110 - (sum.size : Int))))))))) v := by
    intro v h
    exact Ev.congr (fun k => by rw [ew, if_neg c1, Option.bind_some, if_neg c1]) (Ev.bind h2 (Ev.congr (fun k => by rw [if_neg c2]) h))
  by_cases c3 : v3 < 0
  · exact ⟨-1, fun h => absurd h (by decide), hgo _ (Ev.bind e3 (ev_ret (fun k => if_pos c3)))⟩
  have e4 : wrap64 (v3 - (sum.size : Int)) = v3 - sum.size := w64 (by omega) (by omega)
  by_cases c4 : v3 - (sum.size : Int) < 0
  · exact ⟨-1, fun h => absurd h (by decide), hgo _ (Ev.bind e3 (ev_ret (fun k => by rw [if_neg c3, e4, if_pos c4])))⟩
  · exact ⟨v3 - sum.size, fun _ => ⟨by omega, hn2 (by omega), hn3 (by omega), by omega⟩, hgo _ (Ev.bind e3 (ev_ret (fun k => by rw [if_neg c3, e4, if_neg c4])))⟩
/-- A frame's bytes. -/
def wd (n : Int) : List Int := [n % 256, n / 256 % 256, n / 65536 % 256, n / 16777216 % 256]
theorem wd_range (n : Int) : ∀ x ∈ wd n, 0 ≤ x ∧ x < 256 := by
  intro x hx
  simp only [wd, List.mem_cons, List.not_mem_nil, or_false] at hx
  omega
theorem bytesOf_strOf : ∀ (l : List Int), (∀ x ∈ l, 0 ≤ x ∧ x < 256) → bytesOf (strOfNums l) = l := by
  intro l h
  unfold bytesOf
  rw [strOfNums_data, List.map_map]
  conv => rhs; rw [← List.map_id l]
  refine List.map_congr_left (fun x hx => ?_)
  obtain ⟨h0, h1⟩ := h x hx
  simp
  omega
theorem impl_wt (n : Int) : impl_wordText.f n = some (strOfNums (wd n)) := rfl
theorem spec_pw (n : Int) (h0 : 0 ≤ n) (h1 : n < 4294967296) : spec_PutWord.f n = some (wd n) := by
  unfold spec_PutWord.f wd
  rw [w64 (x := n) (by omega) (by omega), Int.tdiv_eq_ediv_of_nonneg (by omega), Int.tdiv_eq_ediv_of_nonneg (by omega), Int.tdiv_eq_ediv_of_nonneg (by omega), w64 (x := n / 256) (by omega) (by omega), w64 (x := n / 65536) (by omega) (by omega), w64 (x := n / 16777216) (by omega) (by omega), Int.tmod_eq_emod_of_nonneg (by omega), Int.tmod_eq_emod_of_nonneg (by omega), Int.tmod_eq_emod_of_nonneg (by omega)]
  simp
/-- The bytes of a signature's blocks. -/
def blk : List Int → List ByteArray → List Int
  | w :: t, s :: u => wd w ++ bytesOf s ++ blk t u
  | _, _ => []
theorem spec_blk (a b : Int) (tw : List Int) : ∀ (pw : List Int) (ps ts : List ByteArray) (acc : List Int) (i : Int), i = pw.length → pw.length = ps.length → tw.length = ts.length → pw.length + tw.length ≤ 2500 → (∀ x ∈ tw, 0 ≤ x ∧ x < 4294967296) → (∀ x ∈ ts, x.size = 4) → acc.length + 8 * tw.length ≤ 1000000 →
    Ev (fun k => spec_PutSig.l0 k acc i a b (pw ++ tw) (ps ++ ts)) (acc ++ blk tw ts) := by
  induction tw with
  | nil =>
    intro pw ps ts acc i hi hp ht hl hw hs ha
    refine ev_at (fun k => ?_)
    simp only [spec_PutSig.l0]
    rw [if_neg (by simp; omega)]
    simp [blk]
  | cons w tw ih =>
    intro pw ps ts acc i hi hp ht hl hw hs ha
    cases ts with
    | nil => simp at ht
    | cons s ts =>
      simp only [List.length_cons] at ht hl ha
      have h4 := hs s (by simp)
      have hw2 := hw w (by simp)
      have hb : (bytesOf s).length = 4 := by rw [bytesOf_length]; exact h4
      have hwd : (wd w).length = 4 := rfl
      have h := ih (pw ++ [w]) (ps ++ [s]) ts (acc ++ wd w ++ bytesOf s) (i + 1) (by simp; omega) (by simp; omega) (by omega) (by simp; omega) (fun x hx => hw x (by simp [hx])) (fun x hx => hs x (by simp [hx])) (by rw [List.length_append, List.length_append]; omega)
      have er : acc ++ blk (w :: tw) (s :: ts) = acc ++ wd w ++ bytesOf s ++ blk tw ts := by simp only [blk, List.append_assoc]
      rw [er]
      refine Ev.step (f := fun k => spec_PutSig.l0 k (acc ++ wd w ++ bytesOf s) (i + 1) a b (pw ++ w :: tw) (ps ++ s :: ts)) (fun k => ?_) (by simpa using h)
      simp only [spec_PutSig.l0]
      have c1 : i < ((pw ++ w :: tw).length : Int) := by simp; omega
      have c3 : i < ((ps ++ s :: ts).length : Int) := by simp; omega
      rw [if_pos c1, if_pos (by omega), rd_midB pw w tw hi, spec_pw w hw2.1 hw2.2, Option.bind_some, if_pos (by omega), Option.bind_some, if_pos c3, rd_midS ps s ts (by omega), if_pos (by omega), Option.bind_some, if_pos (by rw [List.length_append]; omega), w64 (by omega) (by omega)]
theorem impl_blk (a b : Int) (tw : List Int) : ∀ (pw : List Int) (ps ts : List ByteArray) (acc : ByteArray) (i : Int), i = pw.length → pw.length = ps.length → tw.length = ts.length → pw.length + tw.length ≤ 2500 → (∀ x ∈ ts, x.size = 4) → acc.size + 8 * tw.length ≤ 1000000 →
    ∃ r, bytesOf r = bytesOf acc ++ blk tw ts ∧ Ev (fun k => impl_sigText.l0 k acc (pw ++ tw) ((pw ++ tw).length : Int) i a b (pw ++ tw) (ps ++ ts)) r := by
  induction tw with
  | nil =>
    intro pw ps ts acc i hi hp ht hl hs ha
    refine ⟨acc, by simp [blk], ev_at (fun k => ?_)⟩
    simp only [impl_sigText.l0]
    rw [if_neg (by simp; omega)]
  | cons w tw ih =>
    intro pw ps ts acc i hi hp ht hl hs ha
    cases ts with
    | nil => simp at ht
    | cons s ts =>
      simp only [List.length_cons] at ht hl ha
      have h4 := hs s (by simp)
      have hz : (strOfNums (wd w)).size = 4 := by rw [strOfNums_size]; rfl
      have hz2 : (strOfNums (wd w) ++ s).size = 8 := by rw [ByteArray.size_append]; omega
      obtain ⟨r, hr, h⟩ := ih (pw ++ [w]) (ps ++ [s]) ts (acc ++ (strOfNums (wd w) ++ s)) (i + 1) (by simp; omega) (by simp; omega) (by omega) (by simp; omega) (fun x hx => hs x (by simp [hx])) (by rw [ByteArray.size_append]; omega)
      refine ⟨r, ?_, Ev.step (f := fun k => impl_sigText.l0 k (acc ++ (strOfNums (wd w) ++ s)) (pw ++ w :: tw) ((pw ++ w :: tw).length : Int) (i + 1) a b (pw ++ w :: tw) (ps ++ s :: ts)) (fun k => ?_) (by simpa using h)⟩
      · rw [hr]
        simp only [blk, bytesOf_append, bytesOf_strOf _ (wd_range _), List.append_assoc]
      simp only [impl_sigText.l0]
      have c1 : i < ((pw ++ w :: tw).length : Int) := by simp; omega
      have c3 : i < ((ps ++ s :: ts).length : Int) := by simp; omega
      rw [if_pos c1, if_pos (by omega), if_pos c1, rd_midB pw w tw hi, impl_wt, Option.bind_some, if_pos c3, rd_midS ps s ts (by omega), if_pos (by omega), if_pos (by omega), w64 (by omega) (by omega)]
theorem blk_len (tw : List Int) : ∀ ts : List ByteArray, (∀ x ∈ ts, x.size = 4) → (blk tw ts).length ≤ 8 * tw.length := by
  induction tw with
  | nil => intro ts _; simp [blk]
  | cons w t ih =>
    intro ts hs
    cases ts with
    | nil => simp [blk]
    | cons s u =>
      have := ih u (fun x hx => hs x (by simp [hx]))
      have h4 := hs s (by simp)
      simp only [blk, List.length_append, bytesOf_length, List.length_cons]
      have : (wd w).length = 4 := rfl
      omega
/-- A signature's bytes. -/
def sgb (a b : Int) (ws : List Int) (ss : List ByteArray) : List Int := vl a ++ vl b ++ vl ws.length ++ blk ws ss
theorem sok_facts {a b : Int} {ws : List Int} {ss : List ByteArray} (h : sok a b ws ss = true) : 1 ≤ a ∧ a ≤ 256 ∧ 0 ≤ b ∧ b ≤ a - 1 ∧ ws.length ≤ 2500 ∧ ws.length = ss.length ∧ ∀ x ∈ ss, x.size = 4 := by
  have h2 := of_decide_eq_true h
  exact ⟨h2.1, h2.2.1, h2.2.2.1, h2.2.2.2.1, h2.2.2.2.2.1, h2.2.2.2.2.2.1, h2.2.2.2.2.2.2.2.1⟩
theorem sgb_len {a b : Int} {ws : List Int} {ss : List ByteArray} (h : sok a b ws ss = true) : (sgb a b ws ss).length ≤ 20100 := by
  obtain ⟨_, _, _, _, h5, _, h7⟩ := sok_facts h
  have := blk_len ws ss h7
  have h1 := vl_len a; have h2 := vl_len b; have h3 := vl_len (ws.length : Int)
  unfold sgb
  simp only [List.length_append]
  omega
theorem spec_sgb (a b : Int) (ws : List Int) (ss : List ByteArray) (h : sok a b ws ss = true) (hw : ∀ x ∈ ws, 0 ≤ x ∧ x < 4294967296) : Ev (fun k => spec_PutSig.f k a b ws ss) (sgb a b ws ss) := by
  obtain ⟨h1, h2, h3, h4, h5, h6, h7⟩ := sok_facts h
  have l1 := vl_len a; have l2 := vl_len b; have l3 := vl_len (ws.length : Int)
  have hb := spec_blk a b ws [] [] ss (vl a ++ vl b ++ vl ws.length) 0 rfl rfl h6 (by simp; omega) hw h7 (by simp only [List.length_append]; omega)
  unfold spec_PutSig.f
  refine Ev.congr (fun k => by rw [Option.bind_some]) (Ev.bind (spec_ok a b ws ss (by omega)) ?_)
  refine Ev.congr (fun k => by rw [if_pos h]) (Ev.bind (spec_putvar a (by omega) (by omega)) ?_)
  refine Ev.congr (fun k => by rw [if_pos (by simp; omega), Option.bind_some, List.nil_append]) (Ev.bind (spec_putvar b (by omega) (by omega)) ?_)
  refine Ev.congr (fun k => by rw [if_pos (by omega), Option.bind_some]) (Ev.bind (spec_putvar (ws.length : Int) (by omega) (by omega)) ?_)
  refine Ev.congr (fun k => by rw [if_pos (by simp only [List.length_append]; omega)]; rfl) hb
theorem impl_sgb (a b : Int) (ws : List Int) (ss : List ByteArray) (h : sok a b ws ss = true) : ∃ r, bytesOf r = sgb a b ws ss ∧ Ev (fun k => impl_sigText.f k a b ws ss) r := by
  obtain ⟨h1, h2, h3, h4, h5, h6, h7⟩ := sok_facts h
  obtain ⟨v1, e1, b1, s1⟩ := varText_ok a (by omega) (by omega)
  obtain ⟨v2, e2, b2, s2⟩ := varText_ok b (by omega) (by omega)
  obtain ⟨v3, e3, b3, s3⟩ := varText_ok (ws.length : Int) (by omega) (by omega)
  obtain ⟨r, hr, hgo⟩ := impl_blk a b ws [] [] ss (v1 ++ v2 ++ v3) 0 rfl rfl h6 (by simp; omega) h7 (by rw [ByteArray.size_append, ByteArray.size_append]; omega)
  refine ⟨r, by rw [hr, bytesOf_append, bytesOf_append, b1, b2, b3]; rfl, ?_⟩
  unfold impl_sigText.f
  refine Ev.congr (fun k => ?_) hgo
  rw [e1, Option.bind_some, e2, Option.bind_some, if_pos (by omega), e3, Option.bind_some, if_pos (by rw [ByteArray.size_append]; omega)]
  rfl
/-- A message's bytes, where there are any. -/
def pmv (kd p a b : Int) (ws : List Int) (ss : List ByteArray) (ts : List S103) (sum : ByteArray) : List Int :=
  if mok kd p a b ws ss ts sum = true then vl kd ++ vl p ++ (if kd = 0 then sgb a b ws ss else if kd = 1 then bytesOf sum ++ ptv ts else []) else []
theorem txs_len (ts : List S103) (h : ∀ x ∈ ts, tokok x) : (txs ts).length ≤ 120 * ts.length := by
  induction ts with
  | nil => simp [txs]
  | cons x t ih =>
    have h2 := ih (fun y hy => h y (by simp [hy]))
    obtain ⟨s, _, hb, hs, _⟩ := tx_ok x (h x (by simp))
    have h3 : (txl x).length = s.size := by rw [← hb, bytesOf_length]
    rw [show x :: t = [x] ++ t from rfl, txs_append, txs_one, List.length_append]
    simp only [List.length_append, List.length_cons, List.length_nil]
    omega
theorem ptv_len (ts : List S103) : (ptv ts).length ≤ 2400001 := by
  unfold ptv
  split
  · rename_i h
    have := txs_len ts h.2
    simp only [List.length_append, List.length_cons, List.length_nil]
    omega
  · simp
theorem mok_cases {kd p a b : Int} {ws : List Int} {ss : List ByteArray} {ts : List S103} {sum : ByteArray} (h : mok kd p a b ws ss ts sum = true) : 0 ≤ p ∧ p ≤ 1000 ∧ (kd = 0 ∧ sok a b ws ss = true ∨ kd = 1 ∧ sum.size = 16 ∨ kd = 2) := by
  unfold mok at h
  rw [Bool.and_eq_true] at h
  obtain ⟨hp, h2⟩ := h
  have hp2 := of_decide_eq_true hp
  refine ⟨hp2.1, hp2.2, ?_⟩
  by_cases k0 : kd = 0
  · rw [if_pos k0, Bool.and_eq_true] at h2
    exact .inl ⟨k0, h2.1⟩
  rw [if_neg k0] at h2
  by_cases k1 : kd = 1
  · rw [if_pos k1] at h2
    exact .inr (.inl ⟨k1, (of_decide_eq_true h2).2.2⟩)
  rw [if_neg k1] at h2
  by_cases k2 : kd = 2
  · exact .inr (.inr k2)
  · rw [if_neg k2] at h2
    exact absurd h2 (by decide)
theorem pmv_len (kd p a b : Int) (ws : List Int) (ss : List ByteArray) (ts : List S103) (sum : ByteArray) : (pmv kd p a b ws ss ts sum).length ≤ 3000000 := by
  unfold pmv
  split
  · rename_i h
    have l1 := vl_len kd; have l2 := vl_len p; have l3 := ptv_len ts
    obtain ⟨_, _, h3⟩ := mok_cases h
    rcases h3 with ⟨k0, hs⟩ | ⟨k1, hs⟩ | k2
    · rw [if_pos k0]
      have := sgb_len hs
      simp only [List.length_append]
      omega
    · rw [if_neg (by omega), if_pos k1]
      simp only [List.length_append, bytesOf_length]
      omega
    · rw [if_neg (by omega), if_neg (by omega)]
      simp only [List.length_append, List.length_nil]
      omega
  · simp
theorem spec_pm (kd p a b : Int) (ws : List Int) (ss : List ByteArray) (ts : List S103) (sum : ByteArray) (hs : ss.length ≤ 4611686018427387904) (hw : ∀ x ∈ ws, 0 ≤ x ∧ x < 4294967296) : Ev (fun k => spec_PutMsg.f k kd p a b ws ss ts sum) (pmv kd p a b ws ss ts sum) := by
  unfold spec_PutMsg.f pmv
  refine Ev.bind (spec_mok kd p a b ws ss ts sum hs) ?_
  by_cases h : mok kd p a b ws ss ts sum = true
  · rw [if_pos h]
    obtain ⟨h1, h2, h3⟩ := mok_cases h
    have l1 := vl_len kd; have l2 := vl_len p; have l3 := ptv_len ts
    have hk : 0 ≤ kd ∧ kd ≤ 2 := by rcases h3 with ⟨h, _⟩ | ⟨h, _⟩ | h <;> omega
    refine Ev.congr (fun k => by rw [if_pos h]) (Ev.bind (spec_putvar kd hk.1 (by omega)) (Ev.bind (spec_putvar p h1 (by omega)) ?_))
    refine Ev.congr (fun k => by rw [if_pos (by omega), Option.bind_some]) ?_
    rcases h3 with ⟨k0, hsk⟩ | ⟨k1, hsm⟩ | k2
    · rw [if_pos k0]
      have := sgb_len hsk
      refine Ev.congr (fun k => by rw [if_pos k0]) (Ev.bind (spec_sgb a b ws ss hsk hw) (ev_ret (fun k => ?_)))
      rw [if_pos (by simp only [List.length_append]; omega)]
    · rw [if_neg (by omega), if_pos k1]
      refine Ev.congr (fun k => by rw [if_neg (by omega), if_pos k1, if_pos (by omega), Option.bind_some, if_pos (by simp only [List.length_append, bytesOf_length]; omega), Option.bind_some]) (Ev.bind (spec_pt ts) (ev_ret (fun k => ?_)))
      rw [if_pos (by simp only [List.length_append, bytesOf_length]; omega), List.append_assoc]
    · rw [if_neg (by omega), if_neg (by omega)]
      exact ev_ret (fun k => by rw [if_neg (by omega), if_neg (by omega), List.append_nil])
  · rw [if_neg h]
    exact ev_ret (fun k => by rw [if_neg h])
theorem impl_pm (kd p a b : Int) (ws : List Int) (ss : List ByteArray) (ts : List S103) (sum : ByteArray) : Ev (fun k => impl_PutMsg.f k kd p a b ws ss ts sum) (pmv kd p a b ws ss ts sum) := by
  unfold impl_PutMsg.f pmv
  refine Ev.bind (impl_mok kd p a b ws ss ts sum) ?_
  by_cases h : mok kd p a b ws ss ts sum = true
  · rw [if_pos h]
    obtain ⟨h1, h2, h3⟩ := mok_cases h
    have l3 := ptv_len ts
    have hk : 0 ≤ kd ∧ kd ≤ 2 := by rcases h3 with ⟨h, _⟩ | ⟨h, _⟩ | h <;> omega
    obtain ⟨v1, e1, b1, s1⟩ := varText_ok kd hk.1 (by omega)
    obtain ⟨v2, e2, b2, s2⟩ := varText_ok p h1 (by omega)
    have hz := ByteArray.size_append (a := v1) (b := v2)
    have hfin : ∀ r : ByteArray, r.size ≤ 9223372036854775807 → Ev (fun k => impl_msgText.f k kd p a b ws ss ts sum) r → Ev (fun k => if mok kd p a b ws ss ts sum = true then (impl_msgText.f k kd p a b ws ss ts sum).bind fun s => (if s.size ≤ 9223372036854775807 then (some (bytesOf s)) else (none)) else some ([] : List Int)) (bytesOf r) := by
      intro r hr he
      exact Ev.congr (fun k => by rw [if_pos h]) (Ev.bind he (ev_ret (fun k => by rw [if_pos hr])))
    have hpre : ∀ (F : Nat → Option ByteArray) (r : ByteArray), Ev F r → (∀ k, (if kd = 0 then ((impl_sigText.f k a b ws ss).bind fun t346 => (if (v1 ++ v2).size + t346.size ≤ 9223372036854775807 then (some ((v1 ++ v2) ++ t346)) else (none))) else (if kd = 1 then ((impl_tokensText.f ts).bind fun bt347 => (if sum.size + bt347.1.size ≤ 9223372036854775807 then (if (v1 ++ v2).size + (sum ++ bt347.1).size ≤ 9223372036854775807 then (some ((v1 ++ v2) ++ (sum ++ bt347.1))) else (none)) else (none))) else (some (v1 ++ v2)))) = F k) → Ev (fun k => impl_msgText.f k kd p a b ws ss ts sum) r := by
      intro F r hF he
      refine Ev.congr (fun k => ?_) hF
      unfold impl_msgText.f
      rw [e1, Option.bind_some, e2, Option.bind_some, if_pos (by omega), he]
    rcases h3 with ⟨k0, hsk⟩ | ⟨k1, hsm⟩ | k2
    · rw [if_pos k0]
      obtain ⟨r, hr, he⟩ := impl_sgb a b ws ss hsk
      have hrl := sgb_len hsk
      rw [← hr, bytesOf_length] at hrl
      have er : vl kd ++ vl p ++ sgb a b ws ss = bytesOf ((v1 ++ v2) ++ r) := by rw [bytesOf_append, bytesOf_append, b1, b2, hr]
      rw [er]
      refine hfin _ (by rw [ByteArray.size_append]; omega) (hpre _ _ (Ev.bind he (ev_ret (fun k => (by rw [if_pos (by omega)] : (if (v1 ++ v2).size + r.size ≤ 9223372036854775807 then (some ((v1 ++ v2) ++ r)) else (none)) = some ((v1 ++ v2) ++ r))))) (fun k => by rw [if_pos k0]))
    · rw [if_neg (by omega), if_pos k1]
      obtain ⟨r, hr, hb⟩ := impl_pt ts
      have hrl := ptv_len ts
      rw [← hb, bytesOf_length] at hrl
      have er : vl kd ++ vl p ++ (bytesOf sum ++ ptv ts) = bytesOf ((v1 ++ v2) ++ (sum ++ r)) := by rw [bytesOf_append, bytesOf_append, bytesOf_append, b1, b2, hb]
      rw [er]
      have hz2 : (sum ++ r).size = sum.size + r.size := ByteArray.size_append
      refine hfin _ (by rw [ByteArray.size_append]; omega) (hpre (fun _ => some ((v1 ++ v2) ++ (sum ++ r))) _ (ev_ret (fun _ => rfl)) (fun k => ?_))
      rw [if_neg (by omega), if_pos k1, hr, Option.bind_some, if_pos (by show sum.size + r.size ≤ _; omega), if_pos (by show (v1 ++ v2).size + (sum ++ r).size ≤ _; omega)]
    · rw [if_neg (by omega), if_neg (by omega), List.append_nil]
      have er : vl kd ++ vl p = bytesOf (v1 ++ v2) := by rw [bytesOf_append, b1, b2]
      rw [er]
      exact hfin _ (by omega) (hpre (fun _ => some (v1 ++ v2)) _ (ev_ret (fun _ => rfl)) (fun k => by rw [if_neg (by omega), if_neg (by omega)]))
  · rw [if_neg h]
    exact ev_ret (fun k => by rw [if_neg h])
theorem tdiv10 {n : Int} (h0 : 0 < n) (h1 : n ≤ 9223372036854775807) : wrap64 (Int.tdiv n 10) = n / 10 := by
  rw [Int.tdiv_eq_ediv_of_nonneg (by omega)]
  exact w64 (by omega) (by omega)
theorem one_size (x : Int) : (strOfNums [x]).size = 1 := by rw [strOfNums_size]; rfl
theorem mark_l0 (d : Nat) : ∀ (n : Int) (s : ByteArray), n < 10 ^ d → n ≤ 9223372036854775807 → s.size + d ≤ 1000 → ∃ r, Ev (fun k => laws_markText.l0 k n s) r := by
  induction d with
  | zero =>
    intro n s hn _ hs
    exact ⟨(⟨#[109]⟩ : ByteArray) ++ s, ev_at (fun k => by simp only [laws_markText.l0]; rw [if_neg (by simp at hn; omega), if_pos (by omega)])⟩
  | succ d ih =>
    intro n s hn hb hs
    by_cases h0 : n > 0
    · have hsz : (strOfNums [(wrap64 (48 + (Int.tmod n 10))) % 256] ++ s).size = 1 + s.size := by rw [ByteArray.size_append, one_size]
      obtain ⟨r, h⟩ := ih (n / 10) (strOfNums [(wrap64 (48 + (Int.tmod n 10))) % 256] ++ s) (by rw [Int.pow_succ] at hn; omega) (by omega) (by omega)
      refine ⟨r, Ev.step (fun k => ?_) h⟩
      simp only [laws_markText.l0]
      rw [if_pos h0]
      simp only [Option.bind_some]
      rw [if_pos (by rw [one_size]; omega), tdiv10 h0 hb]
    · exact ⟨(⟨#[109]⟩ : ByteArray) ++ s, ev_at (fun k => by simp only [laws_markText.l0]; rw [if_neg h0, if_pos (by omega)])⟩
theorem mark_total {n : Int} (hn : n ≤ 9223372036854775807) : ∃ r, Ev (fun k => laws_markText.f k n) r := by
  by_cases h : n ≤ 0
  · exact ⟨_, 0, fun k _ => by simp only [laws_markText.f]; rw [if_pos h]⟩
  · obtain ⟨r, hr⟩ := mark_l0 19 n ⟨#[]⟩ (by have : (10 : Int) ^ 19 = 10000000000000000000 := by decide
                                             omega) hn (by decide)
    exact ⟨r, Ev.congr (fun k => by simp only [laws_markText.f]; rw [if_neg h]) hr⟩
noncomputable def mt (n : Int) : ByteArray := open Classical in if h : ∃ r, Ev (fun k => laws_markText.f k n) r then h.choose else ⟨#[]⟩
theorem mt_ev {n : Int} (hn : n ≤ 9223372036854775807) : Ev (fun k => laws_markText.f k n) (mt n) := by
  have h := mark_total hn
  unfold mt
  rw [dif_pos h]
  exact h.choose_spec
theorem eqB (xs : List Int) (hx : xs.length ≤ 4611686018427387904) (d : Nat) : ∀ i : Int, 0 ≤ i → (xs.length : Int) - i = d → Ev (fun k => laws_eqByteS.l0 k xs xs i) true := by
  induction d with
  | zero =>
    intro i h0 hd
    exact ev_at (fun k => by simp only [laws_eqByteS.l0]; rw [if_neg (by omega)])
  | succ d ih =>
    intro i h0 hd
    refine Ev.step (fun k => ?_) (ih (i + 1) (by omega) (by omega))
    simp only [laws_eqByteS.l0]
    rw [if_pos (by omega), if_pos h0, if_pos (by omega)]
    simp only [if_true]
    rw [w64 (by omega) (by omega)]
theorem eqBS (xs : List Int) (hx : xs.length ≤ 4611686018427387904) : Ev (fun k => laws_eqByteS.f k xs xs) true :=
  Ev.congr (fun k => by simp only [laws_eqByteS.f]; rw [if_pos trivial]) (eqB xs hx xs.length 0 (by omega) (by omega))
def mkB : Int → List Int → List Int
  | _, [] => []
  | m, _ :: t => (m % 256) :: mkB (m + 1) t
theorem mkB_length (m : Int) (xs : List Int) : (mkB m xs).length = xs.length := by
  induction xs generalizing m with
  | nil => rfl
  | cons x t ih => simp [mkB, ih]
theorem markB (suf : List Int) : ∀ (pre : List Int) (m i : Int), i = pre.length → 0 ≤ m → m + suf.length ≤ 4611686018427387904 → pre.length + suf.length ≤ 4611686018427387904 →
    Ev (fun k => laws_markByteS.l0 k (pre ++ suf) m i) (m + suf.length, pre ++ mkB m suf) := by
  induction suf with
  | nil =>
    intro pre m i hi h0 hm hl
    refine ev_at (fun k => ?_)
    simp only [laws_markByteS.l0]
    rw [if_neg (by simp; omega)]
    simp [mkB]
  | cons x t ih =>
    intro pre m i hi h0 hm hl
    simp only [List.length_cons, Int.natCast_succ] at hm hl
    have h := ih (pre ++ [m % 256]) (m + 1) (i + 1) (by simp; omega) (by omega) (by omega) (by simp; omega)
    have e1 : wrap64 (m + 1) = m + 1 := w64 (by omega) (by omega)
    have e3 : wrap64 (i + 1) = i + 1 := w64 (by omega) (by omega)
    have hres : ((m + ((x :: t).length : Int), pre ++ mkB m (x :: t)) : Int × List Int) = (m + 1 + (t.length : Int), pre ++ [m % 256] ++ mkB (m + 1) t) := by
      simp [mkB]
      omega
    rw [hres]
    refine Ev.step (f := fun k => laws_markByteS.l0 k (pre ++ (m % 256) :: t) (m + 1) (i + 1)) (fun k => ?_) (by simpa using h)
    simp only [laws_markByteS.l0]
    rw [if_pos (by simp; omega), if_pos (by omega), set_midB pre x _ t hi, e1, e3]
theorem markBS (xs : List Int) (m : Int) (h0 : 0 ≤ m) (hm : m + xs.length ≤ 4611686018427387904) : Ev (fun k => laws_markByteS.f k xs m) (m + xs.length, mkB m xs) := by
  have h := markB xs [] m 0 rfl h0 hm (by simp; omega)
  simp only [List.nil_append] at h
  exact h
theorem heldB (suf : List Int) : ∀ (pre : List Int) (m i : Int), i = pre.length → 0 ≤ m → m + suf.length ≤ 4611686018427387904 → pre.length + suf.length ≤ 4611686018427387904 →
    Ev (fun k => laws_heldByteS.l0 k (pre ++ mkB m suf) m i) (m + suf.length) := by
  induction suf with
  | nil =>
    intro pre m i hi h0 hm hl
    refine ev_at (fun k => ?_)
    simp only [laws_heldByteS.l0]
    rw [if_neg (by simp [mkB]; omega)]
    simp
  | cons x t ih =>
    intro pre m i hi h0 hm hl
    simp only [List.length_cons, Int.natCast_succ] at hm hl
    have h := ih (pre ++ [m % 256]) (m + 1) (i + 1) (by simp; omega) (by omega) (by omega) (by simp; omega)
    have e1 : wrap64 (m + 1) = m + 1 := w64 (by omega) (by omega)
    have e3 : wrap64 (i + 1) = i + 1 := w64 (by omega) (by omega)
    have hres : m + ((x :: t).length : Int) = m + 1 + (t.length : Int) := by simp; omega
    rw [hres]
    refine Ev.step (f := fun k => laws_heldByteS.l0 k (pre ++ (m % 256) :: mkB (m + 1) t) (m + 1) (i + 1)) (fun k => ?_) (by simpa using h)
    rw [show mkB m (x :: t) = (m % 256) :: mkB (m + 1) t from rfl]
    simp only [laws_heldByteS.l0]
    rw [if_pos (by simp; omega), if_pos (by omega), rd_midB pre _ _ hi, if_pos rfl, e1, e3]
theorem heldBS (xs : List Int) (m : Int) (h0 : 0 ≤ m) (hm : m + xs.length ≤ 4611686018427387904) : Ev (fun k => laws_heldByteS.f k (mkB m xs) m) (m + xs.length) := by
  have h := heldB xs [] m 0 rfl h0 hm (by simp; omega)
  simp only [List.nil_append] at h
  exact h
noncomputable def mkT : Int → List ByteArray → List ByteArray
  | _, [] => []
  | m, _ :: t => mt m :: mkT (m + 1) t
theorem mkT_length (m : Int) (xs : List ByteArray) : (mkT m xs).length = xs.length := by
  induction xs generalizing m with
  | nil => rfl
  | cons x t ih => simp [mkT, ih]
theorem markT (suf : List ByteArray) : ∀ (pre : List ByteArray) (m i : Int), i = pre.length → 0 ≤ m → m + suf.length ≤ 4611686018427387904 → pre.length + suf.length ≤ 4611686018427387904 →
    Ev (fun k => laws_markStringS.l0 k (pre ++ suf) m i) (m + suf.length, pre ++ mkT m suf) := by
  induction suf with
  | nil =>
    intro pre m i hi h0 hm hl
    refine ev_at (fun k => ?_)
    simp only [laws_markStringS.l0]
    rw [if_neg (by simp; omega)]
    simp [mkT]
  | cons x t ih =>
    intro pre m i hi h0 hm hl
    simp only [List.length_cons, Int.natCast_succ] at hm hl
    have h := ih (pre ++ [mt m]) (m + 1) (i + 1) (by simp; omega) (by omega) (by omega) (by simp; omega)
    have e1 : wrap64 (m + 1) = m + 1 := w64 (by omega) (by omega)
    have e3 : wrap64 (i + 1) = i + 1 := w64 (by omega) (by omega)
    have hres : ((m + ((x :: t).length : Int), pre ++ mkT m (x :: t)) : Int × List ByteArray) = (m + 1 + (t.length : Int), pre ++ [mt m] ++ mkT (m + 1) t) := by
      simp [mkT]
      omega
    rw [hres]
    refine Ev.step (f := fun k => (laws_markText.f k m).bind fun q => laws_markStringS.l0 k (pre ++ q :: t) (m + 1) (i + 1)) (fun k => ?_) (Ev.bind (mt_ev (by omega)) (by simpa using h))
    simp only [laws_markStringS.l0]
    rw [if_pos (by simp; omega)]
    congr 1
    funext q
    rw [if_pos (by omega), set_midS pre x _ t hi, e1, e3]
theorem markTS (xs : List ByteArray) (m : Int) (h0 : 0 ≤ m) (hm : m + xs.length ≤ 4611686018427387904) : Ev (fun k => laws_markStringS.f k xs m) (m + xs.length, mkT m xs) := by
  have h := markT xs [] m 0 rfl h0 hm (by simp; omega)
  simp only [List.nil_append] at h
  exact h
def mkU : Int → List Int → List Int
  | _, [] => []
  | m, _ :: t => (m % 4294967296) :: mkU (m + 1) t
theorem mkU_length (m : Int) (xs : List Int) : (mkU m xs).length = xs.length := by
  induction xs generalizing m with
  | nil => rfl
  | cons x t ih => simp [mkU, ih]
theorem markU (suf : List Int) : ∀ (pre : List Int) (m i : Int), i = pre.length → 0 ≤ m → m + suf.length ≤ 4611686018427387904 → pre.length + suf.length ≤ 4611686018427387904 →
    Ev (fun k => laws_markUint32S.l0 k (pre ++ suf) m i) (m + suf.length, pre ++ mkU m suf) := by
  induction suf with
  | nil =>
    intro pre m i hi h0 hm hl
    refine ev_at (fun k => ?_)
    simp only [laws_markUint32S.l0]
    rw [if_neg (by simp; omega)]
    simp [mkU]
  | cons x t ih =>
    intro pre m i hi h0 hm hl
    simp only [List.length_cons, Int.natCast_succ] at hm hl
    have h := ih (pre ++ [m % 4294967296]) (m + 1) (i + 1) (by simp; omega) (by omega) (by omega) (by simp; omega)
    have e1 : wrap64 (m + 1) = m + 1 := w64 (by omega) (by omega)
    have e3 : wrap64 (i + 1) = i + 1 := w64 (by omega) (by omega)
    have hres : ((m + ((x :: t).length : Int), pre ++ mkU m (x :: t)) : Int × List Int) = (m + 1 + (t.length : Int), pre ++ [m % 4294967296] ++ mkU (m + 1) t) := by
      simp [mkU]
      omega
    rw [hres]
    refine Ev.step (f := fun k => laws_markUint32S.l0 k (pre ++ (m % 4294967296) :: t) (m + 1) (i + 1)) (fun k => ?_) (by simpa using h)
    simp only [laws_markUint32S.l0]
    rw [if_pos (by simp; omega), if_pos (by omega), set_midB pre x _ t hi, e1, e3]
theorem markUS (xs : List Int) (m : Int) (h0 : 0 ≤ m) (hm : m + xs.length ≤ 4611686018427387904) : Ev (fun k => laws_markUint32S.f k xs m) (m + xs.length, mkU m xs) := by
  have h := markU xs [] m 0 rfl h0 hm (by simp; omega)
  simp only [List.nil_append] at h
  exact h
noncomputable def mkK : Int → List S103 → List S103
  | _, [] => []
  | m, _ :: t => ⟨m, mt (m + 1), m + 2, m + 3⟩ :: mkK (m + 4) t
theorem mkK_length (m : Int) (xs : List S103) : (mkK m xs).length = xs.length := by
  induction xs generalizing m with
  | nil => rfl
  | cons x t ih => simp [mkK, ih]
theorem markK (suf : List S103) : ∀ (pre : List S103) (m i : Int), i = pre.length → 0 ≤ m → m + 4 * suf.length ≤ 4611686018427387904 → pre.length + suf.length ≤ 4611686018427387904 →
    Ev (fun k => laws_markTokenS.l0 k (pre ++ suf) m i) (m + 4 * suf.length, pre ++ mkK m suf) := by
  induction suf with
  | nil =>
    intro pre m i hi h0 hm hl
    refine ev_at (fun k => ?_)
    simp only [laws_markTokenS.l0]
    rw [if_neg (by simp; omega)]
    simp [mkK]
  | cons x t ih =>
    intro pre m i hi h0 hm hl
    simp only [List.length_cons, Int.natCast_succ] at hm hl
    have h := ih (pre ++ [⟨m, mt (m + 1), m + 2, m + 3⟩]) (m + 4) (i + 1) (by simp; omega) (by omega) (by omega) (by simp; omega)
    have e1 : wrap64 (m + 1) = m + 1 := by rw [w64 (by omega) (by omega)]
    have e2 : wrap64 (m + 1 + 1) = m + 2 := by rw [w64 (by omega) (by omega)]; omega
    have e3 : wrap64 (m + 2 + 1) = m + 3 := by rw [w64 (by omega) (by omega)]; omega
    have e4 : wrap64 (m + 3 + 1) = m + 4 := by rw [w64 (by omega) (by omega)]; omega
    have ei : wrap64 (i + 1) = i + 1 := w64 (by omega) (by omega)
    have hrd : ∀ x : S103, rd_T103 (pre ++ x :: t) i = x := fun x => rd_mid103 pre x t hi
    have hset : ∀ x y : S103, (pre ++ x :: t).set i.toNat y = pre ++ y :: t := fun x y => set_mid103 pre x y t hi
    have hres : ((m + 4 * ((x :: t).length : Int), pre ++ mkK m (x :: t)) : Int × List S103) = (m + 4 + 4 * (t.length : Int), pre ++ [⟨m, mt (m + 1), m + 2, m + 3⟩] ++ mkK (m + 4) t) := by
      simp [mkK]
      omega
    rw [hres]
    refine Ev.step (f := fun k => (laws_markText.f k (m + 1)).bind fun q1 => laws_markTokenS.l0 k (pre ++ ⟨m, q1, m + 2, m + 3⟩ :: t) (m + 4) (i + 1)) (fun k => ?_) (Ev.bind (mt_ev (by omega)) (by simpa using h))
    simp only [laws_markTokenS.l0]
    have c1 : i < ((pre ++ x :: t).length : Int) := by simp; omega
    have c2 : 0 ≤ i := by omega
    rw [if_pos c1, if_pos c2]
    simp only [Option.bind_some, e1, e2, e3, e4, ei, hset, hrd]
theorem markKS (xs : List S103) (m : Int) (h0 : 0 ≤ m) (hm : m + 4 * xs.length ≤ 4611686018427387904) : Ev (fun k => laws_markTokenS.f k xs m) (m + 4 * xs.length, mkK m xs) := by
  have h := markK xs [] m 0 rfl h0 hm (by simp; omega)
  simp only [List.nil_append] at h
  exact h
theorem to_msg (kd p a b : Int) (ws : List Int) (ss : List ByteArray) (ts : List S101) (sum : ByteArray) (hw : ws.length ≤ 1048576) (hs : ss.length ≤ 1048576) (ht : ts.length ≤ 1048576) :
    Ev (fun k => laws_toMsg.f k kd p a b ws ss ts sum) (kd, p, a, b, ws, ss, ts.map (fun x => (⟨x.f0, x.f1, x.f2, x.f3⟩ : S103)), sum) := by
  have hsig : Ev (fun k => laws_toSig.f k a b ws ss) (a, b, ws, ss) := Ev.bind (toUS ws (by omega)) (Ev.bind (toStrS ss (by omega)) (ev_ret (fun k => rfl)))
  exact Ev.bind hsig (Ev.bind (toKS ts (by omega)) (ev_ret (fun k => rfl)))
theorem eq_msg (kd p a b : Int) (ws : List Int) (ss : List ByteArray) (ts : List S103) (sum : ByteArray) (hw : ws.length ≤ 1048576) (hs : ss.length ≤ 1048576) (ht : ts.length ≤ 1048576) :
    Ev (fun k => laws_eqMsg.f k kd p a b ws ss ts sum kd p a b ws ss ts sum) true := by
  have hsig : Ev (fun k => laws_eqSig.f k a b ws ss a b ws ss) true := by
    refine Ev.congr (fun k => by simp only [laws_eqSig.f]; rw [if_pos trivial, if_pos trivial]) (Ev.bind (eqUS ws (by omega)) ?_)
    exact Ev.congr (fun k => by rw [if_pos rfl]) (Ev.bind (eqStrS ss (by omega)) (ev_ret (fun k => by rw [if_pos rfl])))
  refine Ev.congr (fun k => by simp only [laws_eqMsg.f]; rw [if_pos trivial, if_pos trivial]) (Ev.bind hsig ?_)
  refine Ev.congr (fun k => by rw [if_pos rfl]) (Ev.bind (eqS103 ts (by omega)) (ev_ret (fun k => by simp)))
theorem mark_msg (kd p a b : Int) (ws : List Int) (ss : List ByteArray) (ts : List S103) (sum : ByteArray) (hw : ws.length ≤ 1048576) (hs : ss.length ≤ 1048576) (ht : ts.length ≤ 1048576) :
    ∃ m w2 s2 t2, 0 ≤ m ∧ Ev (fun k => laws_markMsg.f k kd p a b ws ss ts sum 1) (m, w2, s2, t2) := by
  have h1 := markUS ws 1 (by decide) (by omega)
  have h2 := markTS ss (1 + (ws.length : Int)) (by omega) (by omega)
  have h3 := markKS ts (1 + (ws.length : Int) + (ss.length : Int)) (by omega) (by omega)
  refine ⟨_, _, _, _, ?_, Ev.bind (Ev.bind h1 (Ev.bind h2 (ev_ret (fun k => rfl)))) (Ev.bind h3 (ev_ret (fun k => rfl)))⟩
  show 0 ≤ 1 + (ws.length : Int) + (ss.length : Int) + 4 * (ts.length : Int)
  omega
theorem lit_u32 {x : Int} (h : (Lit.int .u32 x).wf = true) : 0 ≤ x ∧ x < 4294967296 := by
  simp only [Lit.wf, Bool.and_eq_true, decide_eq_true_eq] at h
  have e1 : IntKind.u32.min = 0 := rfl
  have e2 : IntKind.u32.max = 4294967295 := rfl
  omega
theorem FnExactPutMsg : laws_FnExactPutMsg.Pure := by
  intro kd p a b ws ss ts sum _ _ _ _ _ hw hwf _ hs hss _ ht hts hsum
  obtain ⟨v, hv, hz⟩ := sz_msg kd p a b ws ss ts sum (by omega) (by omega) hss (by omega) (fun x hx => (hts x hx).2.1) hsum
  refine Ev.rounds ?_
  unfold laws_FnExactPutMsg.f
  refine Ev.bind hz ?_
  by_cases hc : v < 0
  · exact ev_ret (fun k => by rw [if_pos hc])
  obtain ⟨hw2, hs2, ht2, _⟩ := hv (by omega)
  have hto := to_msg kd p a b ws ss ts sum hw2 hs2 ht2
  have hml : (ts.map (fun x => (⟨x.f0, x.f1, x.f2, x.f3⟩ : S103))).length = ts.length := by simp
  generalize ts.map (fun x => (⟨x.f0, x.f1, x.f2, x.f3⟩ : S103)) = us at hto hml
  have he := eq_msg kd p a b ws ss us sum hw2 hs2 (by omega)
  have h1 := spec_pm kd p a b ws ss us sum (by omega) (fun x hx => lit_u32 (hwf x hx))
  have h2 := impl_pm kd p a b ws ss us sum
  obtain ⟨m, w2, s2, t2, hm0, hmm⟩ := mark_msg kd p a b ws ss us sum hw2 hs2 (by omega)
  have hlen := pmv_len kd p a b ws ss us sum
  generalize pmv kd p a b ws ss us sum = r at h1 h2 hlen
  have heb := eqBS r (by omega)
  have hmb := markBS r 1 (by decide) (by omega)
  have hhb := heldBS r 1 (by decide) (by omega)
  have hj0 : Ev (fun k => laws_FnExactPutMsg.j0 k r r false kd p a b ws ss ts sum) true := by
    refine Ev.step (fun k => by simp only [laws_FnExactPutMsg.j0]; rw [if_neg (by decide)]) (Ev.bind hmb (Ev.bind hhb ?_))
    refine Ev.congr (fun k => by rw [if_neg (by omega), if_pos rfl]) (Ev.bind hto (Ev.bind h2 (Ev.bind heb ?_)))
    refine Ev.congr (fun k => by rw [if_pos rfl]) (Ev.bind hhb ?_)
    exact ev_ret (fun k => by rw [if_neg (by omega), if_pos rfl])
  refine Ev.congr (fun k => by rw [if_neg hc]) (Ev.bind hto (Ev.bind h1 (Ev.bind hto (Ev.bind h2 (Ev.bind heb ?_)))))
  refine Ev.congr (fun k => by rw [if_pos rfl]) (Ev.bind hto (Ev.bind he ?_))
  refine Ev.congr (fun k => by rw [if_pos rfl]) (Ev.bind hmm ?_)
  refine Ev.congr (fun k => by rw [if_neg (by omega)]) (Ev.bind heb ?_)
  exact hj0
end Go.Proofs.Ytphlmaaplaaopaa.Pure
