import Derived.Test.YtphlmaaplaaopaaDoorXCv
import Derived.Lib.FrozenHead2
set_option linter.unusedVariables false
set_option linter.unusedSimpArgs false
namespace Go.Proofs.YtphlmaaplaaopaaDoorW.PrintWords.At
open Go Go.RowKit Go.Proofs.YtphlmaaplaaopaaDoorW.PrintWords
theorem storeCells_at (P : Program) (g o : Nat) (t : TypeId) (fz : Nat × Nat) : ∀ (vs : List Value) (i : Nat) (cur : Array Value) (w : World), w.heap[g]? = some (.cells cur t fz) → (fz.2 ≤ o + i ∨ cur.size ≤ fz.1) → o + i + vs.length ≤ cur.size → (∀ v ∈ vs, v.oneCell' = true) →
    (storeCells ⟨g, o, none⟩ vs i).run P w = .ok () (w.setRow g (cur.toList.take (o + i) ++ vs ++ cur.toList.drop (o + i + vs.length)).toArray)
  | [], i, cur, w, hg, _, _, _ => by
    simp only [storeCells, List.append_nil, List.length_nil, Nat.add_zero, List.take_append_drop, Array.toArray_toList]
    rw [setRow_self w g cur t fz hg]
    rfl
  | v :: rest, i, cur, w, hg, hfz, hl, h1 => by
    have hi : o + i < cur.size := by simp at hl; omega
    have hadd : (⟨g, o, none⟩ : Addr).add i = ⟨g, o + i, none⟩ := by unfold Addr.add; split <;> simp_all
    have hcell : w.cell? ⟨g, o + i, none⟩ = some cur[o + i] := by simp [World.cell?, hg, hi]
    have hfro : w.frozen? ⟨g, o + i, none⟩ = false := by
      obtain ⟨lo, hi'⟩ := fz
      simp only [World.frozen?, hg, Bool.and_eq_false_iff, decide_eq_false_iff_not]
      simp only at hfz
      omega
    have hst : (store ((⟨g, o, none⟩ : Addr).add i) v).run P w = .ok () (w.setRow g (cur.setIfInBounds (o + i) v)) := by
      rw [hadd, run_store P w _ v _ (h1 v (by simp)), hcell]
      simp [hfro, setCell_eq_setRow w g (o + i) cur t fz v hg]
    have ih := storeCells_at P g o t fz rest (i + 1) (cur.setIfInBounds (o + i) v) (w.setRow g (cur.setIfInBounds (o + i) v)) (setRow_heap w g cur _ t _ hg) (by rcases hfz with h | h; exact .inl (by omega); exact .inr (by simpa using h)) (by simp at hl ⊢; omega) (fun x hx => h1 x (by simp [hx]))
    simp only [storeCells, Sem.run_bind, hst, Result.andThen_ok, ih, setRow_setRow]
    congr 3
    have e := list_seg_step cur.toList (o + i) v rest (by simp at hl ⊢; omega)
    simpa [Array.toList_setIfInBounds, Nat.add_assoc] using e
def T (e : Nat) (w : World) (base : Nat) (v : Value) (xs : List Value) : Prop :=
  ∃ g cap cur fz, v = .slice (some ⟨g, 0, none⟩) xs.length cap ∧ base ≤ g ∧ w.heap[g]? = some (.cells cur e fz) ∧ (fz.2 = 0 ∨ cur.size ≤ fz.1) ∧ xs.length ≤ cap ∧ cap ≤ maxLen ∧ cur.size = cap ∧ cur.toList.take xs.length = xs
section
variable {P : Program} {ops : Array Oper} {rest : List Oper} {o : Oper} {a : Act} {Q : Exit → Act → World → Prop}
theorem T_below {e base : Nat} {w w1 : World} {v : Value} {xs : List Value} (h : T e w base v xs) (hb : Below w.heap.size w w1) : T e w1 base v xs := by
  obtain ⟨g, cap, cur, fz, h1, h2, h3, h4⟩ := h
  exact ⟨g, cap, cur, fz, h1, h2, (hb.block g (blk_lt h3)).trans h3, h4⟩
theorem T_cell {e base : Nat} {w : World} {v : Value} {xs : List Value} (h : T e w base v xs) : ∃ g cap, v = .slice (some ⟨g, 0, none⟩) xs.length cap ∧ base ≤ g ∧ g < w.heap.size ∧ xs.length ≤ cap ∧ ∀ j u, xs[j]? = some u → w.cell? ⟨g, j, none⟩ = some u := by
  obtain ⟨g, cap, cur, fz, h1, h2, h3, h4, h5, h6, h7, h8⟩ := h
  refine ⟨g, cap, h1, h2, blk_lt h3, h5, fun j u hj => ?_⟩
  have hlt : j < xs.length := (List.getElem?_eq_some_iff.1 hj).1
  rw [← h8, List.getElem?_take_of_lt hlt] at hj
  simp only [World.cell?, h3]
  simpa using hj
theorem T_conv {w0 W : World} (base e : Nat) (hgd : o.guard = none) {N : Tmp} (_hd : o.dst = some N) (src dst : TypeId) (x : Operand) (ho : o.op = .convert src dst x) (s : ByteArray) (hx : a.eval x = .string s) {u : TypeDesc}
    (hs : P.underlying src = some u) (ht : P.underlying dst = some (.slice e)) (he : P.underlying e = some (.int .u8)) (hsz : s.size ≤ maxLen) (HB : Below base w0 W) (hbase : base ≤ W.heap.size)
    (h : ∀ v1 w1, T e w1 base v1 (s.data.toList.map fun b => .int .u8 b.toNat) → Below base w0 w1 → wpList P ops Q rest (a.put o.dst v1) w1) : wpList P ops Q (o :: rest) a W := by
  have hb : Below base w0 (Lib.bytesWorld W e s) := bytes_below HB hbase e s
  have hr := Lib.run_convert_string_bytes W src dst e s hs ht he
  have hge := grownCap_ge W s.size 0 e
  refine Kd.event_run hgd (v := .slice (some ⟨W.heap.size, 0, none⟩) s.size (grownCap W s.size 0 e)) (w1 := Lib.bytesWorld W e s) ?_ (h _ _ ⟨W.heap.size, grownCap W s.size 0 e, _, _, by simp, hbase, Lib.bytesWorld_at_new W e s, .inr (Nat.le_refl _), by simpa using hge, grownCap_le_maxLen W s.size 0 e hsz, ?_, ?_⟩ hb)
  · simp [execOp, ho, hx, hr]
  · simp [Lib.bytesCells]; omega
  · simp [Lib.bytesCells, Array.toList_append, Array.toList_map]
theorem run_append (w : World) (base : Nat) (t ty e : TypeId) (i : TypeInfo) (ht : P.underlying t = some (.slice e)) (hi : P.info? e = some i) (hz : i.zero = some (.int .u8 0)) (hsize : i.size = 1) (hby : i.bytes = 1)
    (v : Value) (xs : List Value) (hT : T e w base v xs) (ad : Addr) (m c : Nat) (news : List Value) (hl : news.length = m) (hnews : ∀ j u, news[j]? = some u → w.cell? (ad.add j) = some u) (h1 : ∀ u ∈ news, u.oneCell' = true)
    (h63 : xs.length + m ≤ 140737488355328) (hbase : base ≤ w.heap.size) :
    ∃ v' w', (Builtin.append_ #[t, t] ty #[v, .slice (some ad) m c]).run P w = .ok v' w' ∧ T e w' base v' (xs ++ news) ∧ Below base w w' := by
  obtain ⟨g, cap, cur, fz, rfl, hbg, hg, hfz, hnc, hcm, hcs, htake⟩ := hT
  have hlen : (xs ++ news).length = xs.length + m := by rw [List.length_append, hl]
  by_cases hroom : xs.length + m ≤ cap
  · have hf := run_firstCells_some (P := P) w i.size m ad m c news (by rw [hl, hsize, Nat.mul_one]) hnews
    have hst := storeCells_at P g xs.length e fz news 0 cur w hg (by rcases hfz with h | h; exact .inl (by omega); exact .inr h) (by omega) h1
    simp only [Nat.add_zero] at hst
    have hr : (Builtin.append_ #[t, t] ty #[.slice (some ⟨g, 0, none⟩) xs.length cap, .slice (some ad) m c]).run P w =
        .ok (.slice (some ⟨g, 0, none⟩) (xs.length + m) cap) (w.setRow g (cur.toList.take xs.length ++ news ++ cur.toList.drop (xs.length + news.length)).toArray) := by
      simp [Builtin.append_, run_underlying ht, sizeOf, typeInfo, hi, hsize, Builtin.lenOf, hroom, hsize ▸ hf, Addr.add_lit, hst]
    have hg1 := setRow_heap w g cur (cur.toList.take xs.length ++ news ++ cur.toList.drop (xs.length + news.length)).toArray e _ hg
    have hcz : (cur.toList.take xs.length ++ news ++ cur.toList.drop (xs.length + news.length)).toArray.size = cur.size := by
      simp only [List.size_toArray, List.length_append, List.length_take, List.length_drop, Array.length_toList]; omega
    refine ⟨_, _, hr, ⟨g, cap, _, fz, by rw [hlen], hbg, hg1, by rw [hcz]; exact hfz, by omega, hcm, by rw [hcz]; exact hcs, ?_⟩, ⟨rfl, rfl, rfl, by simp, fun k hk => setRow_other w g k _ (by omega)⟩⟩
    rw [htake]
    exact List.take_left
  · have holds : ∀ j u, xs[j]? = some u → w.cell? ((⟨g, 0, none⟩ : Addr).add j) = some u := by
      intro j u hj
      have hlt : j < xs.length := (List.getElem?_eq_some_iff.1 hj).1
      rw [← htake, List.getElem?_take_of_lt hlt] at hj
      have hadd : (⟨g, 0, none⟩ : Addr).add j = ⟨g, j, none⟩ := by unfold Addr.add; split <;> simp_all
      rw [hadd]
      simp only [World.cell?, hg]
      simpa using hj
    have hr := run_append_grow (P := P) w t ty e i (.int .u8 0) ht hi hz ⟨g, 0, none⟩ xs.length cap xs (by rw [hsize, Nat.mul_one]) holds ad m c news (by rw [hl, hsize, Nat.mul_one]) hnews (by omega) (by omega) (growslice_fits (by omega) (by rw [hby]; omega))
    have hge := grownCap_ge w (xs.length + m) cap e
    have hcm2 : grownCap w (xs.length + m) cap e ≤ maxLen := grownCap_le_maxLen w (xs.length + m) cap e (by simp only [maxLen]; omega)
    refine ⟨_, _, hr, ⟨w.heap.size, _, _, (0, 0), by rw [hlen], hbase, heap_alloc_new w.drew _, .inl rfl, by omega, hcm2, ?_, ?_⟩, ⟨rfl, rfl, rfl, by simp, fun k hk => heap_alloc_old w.drew _ (show k < w.drew.heap.size from (by have : w.drew.heap.size = w.heap.size := rfl; omega))⟩⟩
    · simp only [Array.size_append, List.size_toArray, size_zeroCells, hl]
      simp [Value.cells]
      omega
    · simp only [Array.toList_append, List.append_assoc]
      rw [← List.append_assoc]
      exact List.take_left
theorem T_append {w0 W : World} (base : Nat) (hgd : o.guard = none) (s x : Operand) (t e : TypeId) (ho : o.op = .call { callee := .builtin .append, args := #[s, x], argTypes := #[t, t] })
    (ht : P.underlying t = some (.slice e)) (hinfo : (P.info? e).map (fun i => (i.zero, i.size, i.bytes)) = some (some (.int .u8 0), 1, 1))
    (v : Value) (xs ys : List Value) (hs : a.eval s = v) (hx : a.eval x = .slice (some ⟨W.heap.size, 0, none⟩) ys.length ys.length) (h1 : ∀ u ∈ ys, u.oneCell' = true)
    (HO : T e W base v xs) (HB : Below base w0 W) (hbase : base ≤ W.heap.size) (hl : xs.length + ys.length ≤ 140737488355328)
    (h : ∀ v1 w1, T e w1 base v1 (xs ++ ys) → Below base w0 w1 → wpList P ops Q rest (a.put o.dst v1) w1) : wpList P ops Q (o :: rest) a (W.alloc (.cells ys.toArray e)) := by
  obtain ⟨i0, hi, hzz⟩ := Option.map_eq_some_iff.1 hinfo
  simp only [Prod.mk.injEq] at hzz
  obtain ⟨hz0, hz1, hz2⟩ := hzz
  refine wpList_plain hgd fun K hK => ?_
  have hT' : T e (W.alloc (.cells ys.toArray e)) base v xs := T_below HO ((Below.refl _ _).alloc (Nat.le_refl _) _)
  obtain ⟨v', w', hr, h2, h3⟩ := run_append (P := P) (W.alloc (.cells ys.toArray e)) base t o.type e i0 ht hi hz0 hz1 hz2 v xs hT' ⟨W.heap.size, 0, none⟩ ys.length ys.length ys rfl
    (by simpa using World.news_of_block (cs := ys.toArray) (t := e) (fr := (0, 0)) (heap_alloc_new W (.cells ys.toArray e))) h1 hl (by simp; omega)
  unfold Oper.wp execOp
  simp only [ho, resolve, invoke, builtin, Sem.run_bind, Sem.run_pure, Result.andThen_ok, List.map_toArray, List.map_cons, List.map_nil, hs, hx, hr]
  exact hK _ _ (h v' w' h2 ((HB.alloc hbase _).trans h3))
theorem T_C {e base : Nat} {w : World} {A : Option Addr} {n c : Nat} {xs : List Int} (h : T e w base (.slice A n c) (xs.map fun x => .int .u8 x)) (hs : xs.length ≤ 9223372036854775807) : n = xs.length ∧ Kd.C (Kd.int .u8) w A xs.length xs := by
  obtain ⟨g, cap, hv, _, _, _, hc⟩ := T_cell h
  injection hv with h1 h2 h3
  subst h1 h2
  refine ⟨by simp, Kd.C_of_reads (d := (0 : Int)) (h1 := fun _ => rfl) ⟨rfl, hs, fun h0 => ⟨_, rfl, fun j hj => ?_⟩⟩⟩
  rw [add_plain]
  have := hc j (.int .u8 (xs.getD j 0)) (by simp [hj])
  simpa using this
theorem T_string {src dst e base : Nat} {w : World} {A : Option Addr} {n c : Nat} {xs : List Int} (hs : P.underlying src = some (.slice e)) (he : P.underlying e = some (.int .u8)) (hd : P.underlying dst = some .string) (h : T e w base (.slice A n c) (xs.map fun x => .int .u8 x)) (hl : xs.length ≤ 9223372036854775807) : (convert src dst (.slice A n c)).run P w = .ok (.string (strOfNums xs)) w := by
  obtain ⟨rfl, hC⟩ := T_C h hl
  exact Kd.C_string hs he hd hC
def slen : Value → Nat
  | .slice _ n _ => n
  | _ => 0
theorem T_slen {e base : Nat} {w : World} {v : Value} {xs : List Value} (h : T e w base v xs) : slen v = xs.length := by
  obtain ⟨g, cap, hv, _⟩ := T_cell h
  rw [hv]; rfl
theorem T_ne {e t base g g' n c : Nat} {w : World} {xs : List Value} {cs : Array Value} {fr : Nat × Nat} (h : T e w base (.slice (some ⟨g, 0, none⟩) n c) xs) (hg : w.heap[g']? = some (.cells cs t fr)) (ht : e ≠ t) : g ≠ g' := by
  rintro rfl
  obtain ⟨g1, cap, cur, fz, h1, _, h3, _⟩ := h
  injection h1 with h1
  injection h1 with h1
  injection h1 with h1
  subst h1
  rw [h3] at hg
  injection hg with hg
  injection hg with _ h2
  exact ht h2
theorem T_set {e base g n c : Nat} {w : World} {xs : List Value} (h : T e w base (.slice (some ⟨g, 0, none⟩) n c) xs) (p : Addr) (hp : g ≠ p.block) (u : Value) : T e (w.setCell p u) base (.slice (some ⟨g, 0, none⟩) n c) xs := by
  obtain ⟨g1, cap, cur, fz, h1, h2, h3, h4⟩ := h
  have h1' := h1
  injection h1 with h1
  injection h1 with h1
  injection h1 with h1
  subst h1
  exact ⟨g, cap, cur, fz, h1', h2, (Below.heap_setCell w p u g hp).trans h3, h4⟩
theorem bytes_vals (s : ByteArray) : (s.data.toList.map fun b => Value.int .u8 b.toNat) = (bytesOf s).map fun x => .int .u8 x := by
  unfold bytesOf; simp
end
end Go.Proofs.YtphlmaaplaaopaaDoorW.PrintWords.At
