/- A strings.Builder of one's own for the reflective walk: what WriteByte, WriteString and String leave, block by block. Turned from XBuild (and so from the shelf's own proofs). -/
import Derived.Test.YtogfddilolannaaDoorXBuild
import Derived.Test.YtogfddilolannaaDoorKA
set_option linter.unusedVariables false
set_option linter.unusedSimpArgs false
namespace Go.Proofs.YtogfddilolannaaDoorW.XBld
open Go.Shelf Go.RowKit Go.Proofs.YtogfddilolannaaDoorW.PrintWords Go.Proofs.YtogfddilolannaaDoorW.XBuild
section
variable {P : Program} {w : World}
/-- Append of a string to bytes of one's own: the row is the same, or a new one. -/
theorem app_str (t u ty e : TypeId) (i : TypeInfo) (ht : P.underlying t = some (.slice e)) (hu : P.underlying u = some .string) (hi : P.info? e = some i) (hz : i.zero = some (.int .u8 0)) (hsize : i.size = 1) (hby : i.bytes = 1)
    (v : Value) (n : Nat) (xs : List Value) (hown : w.ownsRowF 0 e 1 v n xs) (s : ByteArray) (h63 : n + s.size ≤ maxLen) (hbytes : n + s.size ≤ 140737488355328) :
    ∃ v' w', (Builtin.append_ #[t, u] ty #[v, .string s]).run P w = .ok v' w' ∧ w'.ownsRowF 0 e 1 v' (n + s.size) (xs ++ Lib.strCells s) ∧ w.grownBy w' v.ownBlock ∧ ∀ k, v'.ownBlock = some k → v.ownBlock = some k ∨ w.heap.size ≤ k := by
  obtain ⟨v', w', r1, r2, r3, _⟩ := Lib.run_append_own_stringF (P := P) (w := w) 0 t u ty e i ht hu hi hz hsize hby v n xs hown s h63 hbytes (Nat.zero_le _)
  refine ⟨v', w', r1, r2, r3, fun k hk => ?_⟩
  have hown' := hown
  rcases hown.2 with ⟨rfl, rfl⟩ | ⟨g, cap, cur, fz, rfl, _, hg, hfz, hnc, hcm, hcs, htake⟩
  · obtain ⟨v2, w2, q1, q2, _⟩ := Lib.run_append_own_stringF (P := P) (w := w) w.heap.size t u ty e i ht hu hi hz hsize hby (.slice none 0 0) 0 xs ⟨hown.1, .inl ⟨rfl, rfl⟩⟩ s h63 hbytes (Nat.le_refl _)
    rw [r1] at q1
    injection q1 with e1 e2
    subst e1; subst e2
    exact .inr (q2.lt k hk).1
  · have hcs' : cur.size = cap := by simpa using hcs
    by_cases hroom : n + s.size ≤ cap
    · have q := Lib.run_append_room_stringF (P := P) (w := w) t u ty e i ht hu hi hsize g n cap cur fz hg (by simpa using hfz) s hroom (by omega)
      rw [r1] at q
      injection q with e1 e2
      subst e1
      exact .inl hk
    · have holds : ∀ j u, xs[j]? = some u → w.cell? ((⟨g, 0, none⟩ : Addr).add j) = some u := hown'.cells (g := g) rfl
      have q := Lib.run_append_grow_string (P := P) (w := w) t u ty e i (.int .u8 0) ht hu hi hz ⟨g, 0, none⟩ n cap xs (by rw [hsize]; exact hown'.1) holds s (by omega) (by simp only [maxLen] at h63; omega) (by rw [hby]; exact growslice_fits (by omega) (by omega))
      rw [r1] at q
      injection q with e1 e2
      subst e1
      have : w.heap.size = k := by simpa [Value.ownBlock] using hk
      exact .inr (by omega)
/-- Append of bytes that lie elsewhere. -/
theorem app_row (t ty e : TypeId) (i : TypeInfo) (z : Value) (ht : P.underlying t = some (.slice e)) (hi : P.info? e = some i) (hz : i.zero = some z) (hsize : i.size = 1) (hby : i.bytes = 1) (hzs : z.cells.size = 1)
    (v : Value) (n : Nat) (xs : List Value) (hown : w.ownsRowF 0 e 1 v n xs) (a : Addr) (m c : Nat) (news : List Value) (hl : news.length = m * 1) (hnews : ∀ j u, news[j]? = some u → w.cell? (a.add j) = some u) (h1 : ∀ u ∈ news, u.oneCell' = true)
    (h63 : n + m ≤ maxLen) (hbytes : (n + m) * 1 ≤ 140737488355328) :
    ∃ v' w', (Builtin.append_ #[t, t] ty #[v, .slice (some a) m c]).run P w = .ok v' w' ∧ w'.ownsRowF 0 e 1 v' (n + m) (xs ++ news) ∧ w.grownBy w' v.ownBlock ∧ ∀ k, v'.ownBlock = some k → v.ownBlock = some k ∨ w.heap.size ≤ k := by
  obtain ⟨v', w', r1, r2, r3, _⟩ := run_append_ownF (P := P) (w := w) 0 t ty e i z 1 1 ht hi hz hsize hby hzs (by decide) v n xs hown a m c news hl hnews h1 h63 hbytes (Nat.zero_le _)
  refine ⟨v', w', r1, r2, r3, fun k hk => ?_⟩
  have hown' := hown
  rcases hown.2 with ⟨rfl, rfl⟩ | ⟨g, cap, cur, fz, rfl, _, hg, hfz, hnc, hcm, hcs, htake⟩
  · obtain ⟨v2, w2, q1, q2, _⟩ := run_append_ownF (P := P) (w := w) w.heap.size t ty e i z 1 1 ht hi hz hsize hby hzs (by decide) (.slice none 0 0) 0 xs ⟨hown.1, .inl ⟨rfl, rfl⟩⟩ a m c news hl hnews h1 h63 hbytes (Nat.le_refl _)
    rw [r1] at q1
    injection q1 with e1 e2
    subst e1; subst e2
    exact .inr (q2.lt k hk).1
  · by_cases hroom : n + m ≤ cap
    · have q := run_append_roomF (P := P) (w := w) t ty e i ht hi g n cap cur fz hg (by rw [hsize]; exact hfz) a m c news (by rw [hsize]; exact hl) hnews h1 hroom (by rw [hsize]; omega)
      rw [r1] at q
      injection q with e1 e2
      subst e1
      exact .inl hk
    · have holds : ∀ j u, xs[j]? = some u → w.cell? ((⟨g, 0, none⟩ : Addr).add j) = some u := hown'.cells (g := g) rfl
      have q := run_append_grow (P := P) (w := w) t ty e i z ht hi hz ⟨g, 0, none⟩ n cap xs (by rw [hsize]; exact hown'.1) holds a m c news (by rw [hsize]; exact hl) hnews (by omega) (by simp only [maxLen] at h63; omega) (by rw [hby]; exact growslice_fits (by omega) hbytes)
      rw [r1] at q
      injection q with e1 e2
      subst e1
      have : w.heap.size = k := by simpa [Value.ownBlock] using hk
      exact .inr (by omega)
theorem wp_app_str {ops : Array Oper} {rest : List Oper} {o : Oper} {a : Act} {Q : Exit → Act → World → Prop} (hgd : o.guard = none) (sl x : Operand) (t u : TypeId) (ho : o.op = .call { callee := .builtin .append, args := #[sl, x], argTypes := #[t, u] })
    (e : TypeId) (i : TypeInfo) (ht : P.underlying t = some (.slice e)) (hu : P.underlying u = some .string) (hi : P.info? e = some i) (hz : i.zero = some (.int .u8 0)) (hsize : i.size = 1) (hby : i.bytes = 1)
    (v : Value) (n : Nat) (xs : List Value) (hs : a.eval sl = v) (hown : w.ownsRowF 0 e 1 v n xs) (s : ByteArray) (hx : a.eval x = .string s) (h63 : n + s.size ≤ maxLen) (hbytes : n + s.size ≤ 140737488355328)
    (h : ∀ v' w', w'.ownsRowF 0 e 1 v' (n + s.size) (xs ++ Lib.strCells s) → w.grownBy w' v.ownBlock → (∀ k, v'.ownBlock = some k → v.ownBlock = some k ∨ w.heap.size ≤ k) → wpList P ops Q rest (a.put o.dst v') w') : wpList P ops Q (o :: rest) a w := by
  refine wpList_plain hgd fun K hK => ?_
  obtain ⟨v', w', hr, h2, h3, h4⟩ := app_str (P := P) (w := w) t u o.type e i ht hu hi hz hsize hby v n xs hown s h63 hbytes
  unfold Oper.wp execOp
  simp only [ho, resolve, invoke, builtin, Sem.run_bind, Sem.run_pure, Result.andThen_ok, List.map_toArray, List.map_cons, List.map_nil, hs, hx, hr]
  exact hK _ _ (h v' w' h2 h3 h4)
theorem wp_app_row {ops : Array Oper} {rest : List Oper} {o : Oper} {a : Act} {Q : Exit → Act → World → Prop} (hgd : o.guard = none) (s x : Operand) (t : TypeId) (ho : o.op = .call { callee := .builtin .append, args := #[s, x], argTypes := #[t, t] })
    (e : TypeId) (i : TypeInfo) (z : Value) (ht : P.underlying t = some (.slice e)) (hi : P.info? e = some i) (hz : i.zero = some z) (hsize : i.size = 1) (hby : i.bytes = 1) (hzs : z.cells.size = 1)
    (v : Value) (n : Nat) (xs : List Value) (hs : a.eval s = v) (hown : w.ownsRowF 0 e 1 v n xs) (ad : Addr) (m c : Nat) (news : List Value) (hx : a.eval x = .slice (some ad) m c) (hl : news.length = m * 1) (hnews : ∀ j u, news[j]? = some u → w.cell? (ad.add j) = some u) (h1 : ∀ u ∈ news, u.oneCell' = true)
    (h63 : n + m ≤ maxLen) (hbytes : (n + m) * 1 ≤ 140737488355328)
    (h : ∀ v' w', w'.ownsRowF 0 e 1 v' (n + m) (xs ++ news) → w.grownBy w' v.ownBlock → (∀ k, v'.ownBlock = some k → v.ownBlock = some k ∨ w.heap.size ≤ k) → wpList P ops Q rest (a.put o.dst v') w') : wpList P ops Q (o :: rest) a w := by
  refine wpList_plain hgd fun K hK => ?_
  obtain ⟨v', w', hr, h2, h3, h4⟩ := app_row (P := P) (w := w) t o.type e i z ht hi hz hsize hby hzs v n xs hown ad m c news hl hnews h1 h63 hbytes
  unfold Oper.wp execOp
  simp only [ho, resolve, invoke, builtin, Sem.run_bind, Sem.run_pure, Result.andThen_ok, List.map_toArray, List.map_cons, List.map_nil, hs, hx, hr]
  exact hK _ _ (h v' w' h2 h3 h4)
end
/-- All blocks but D's stay as they are. -/
structure Kp (D : Nat → Prop) (w w' : World) : Prop where
  block : ∀ b, b < w.heap.size → ¬ D b → w'.heap[b]? = w.heap[b]?
  size : w.heap.size ≤ w'.heap.size
  os : w'.os = w.os
  tape : w'.tape = w.tape
  output : w'.output = w.output
theorem Kp.refl (D : Nat → Prop) (w : World) : Kp D w w := ⟨fun _ _ _ => rfl, Nat.le_refl _, rfl, rfl, rfl⟩
theorem Kp.drew {D : Nat → Prop} {w w' : World} (h : Kp D w w') : Kp D w w'.drew := ⟨h.block, h.size, h.os, h.tape, h.output⟩
theorem Kp.trans {D : Nat → Prop} {a b c : World} (h : Kp D a b) (h' : Kp D b c) : Kp D a c :=
  ⟨fun k hk hd => (h'.block k (Nat.lt_of_lt_of_le hk h.size) hd).trans (h.block k hk hd), Nat.le_trans h.size h'.size, h'.os.trans h.os, h'.tape.trans h.tape, h'.output.trans h.output⟩
theorem Kp.alloc (D : Nat → Prop) (w : World) (o : Obj) : Kp D w (w.alloc o) := ⟨fun b hb _ => Lib.alloc_old w o b hb, by simp, rfl, rfl, rfl⟩
theorem Kp.setCell {D : Nat → Prop} (w : World) (p : Addr) (v : Value) (hp : D p.block) : Kp D w (w.setCell p v) :=
  ⟨fun b hb hd => Below.heap_setCell _ _ _ _ (fun e => hd (e ▸ hp)), by simp [World.setCell], rfl, rfl, rfl⟩
theorem Kp.grown {D : Nat → Prop} {a w w' : World} {row : Option Nat} (h : Kp D a w) (hg : w.grownBy w' row) (hr : ∀ g, row = some g → D g ∨ a.heap.size ≤ g) : Kp D a w' :=
  ⟨fun b hb hd => (hg.block b (Nat.lt_of_lt_of_le hb h.size) (fun e => (hr b e.symm).elim hd (fun h => by omega))).trans (h.block b hb hd), Nat.le_trans h.size hg.size, hg.os.trans h.os, hg.tape.trans h.tape, hg.output.trans h.output⟩
theorem Kp.freeze {D : Nat → Prop} (w : World) (p : Addr) (n : Nat) (hp : D p.block) : Kp D w (w.freeze p n) := by
  unfold World.freeze
  split
  · exact Kp.refl D w
  · refine ⟨fun b hb hd => ?_, by simp, rfl, rfl, rfl⟩
    simp only [Array.getElem?_modify]
    rw [if_neg (fun e : p.block = b => hd (e ▸ hp))]
abbrev T : TypeId := 82
abbrev e : TypeId := 5
theorem copyCheck_x (b : Nat) (p v : Value) (w : World) (hbk : w.heap[b]? = some (.cells #[p, v] T (0, 0))) (hp : p = .pointer none ∨ p = .pointer (some ⟨b, 0, none⟩)) {bs : List Value} (hown : w.ownsRowF 0 e 1 v bs.length bs) (hne : v.ownBlock ≠ some b) :
    Calls Tryd.prog 96 #[.pointer (some ⟨b, 0, none⟩)] w fun E w' => E = .returned (.tuple #[]) ∧ w'.heap[b]? = some (.cells #[.pointer (some ⟨b, 0, none⟩), v] T (0, 0)) ∧ w'.ownsRowF 0 e 1 v bs.length bs ∧ Kp (fun k => k = b) w w' := by
  have hA : Lib.BuilderAtF T e 0 b p bs w := ⟨Nat.zero_le _, v, hbk, hown, hne⟩
  rcases hp with rfl | rfl
  · refine (copyCheck_fresh b w hA.cell0 hA.shape hA.frozen0).mono ?_
    rintro E w' ⟨rfl, rfl⟩
    refine ⟨rfl, by simp [World.setCell, Array.getElem?_modify, hbk], ?_, Kp.setCell _ ⟨b, 0, none⟩ _ rfl⟩
    exact hown.kept (row := some b) ⟨rfl, rfl, rfl, by simp [World.setCell], fun k _ hk => Below.heap_setCell _ _ _ _ (fun e => hk (by simp [e]))⟩ (Or.inr hne)
  · refine (copyCheck_used b w hA.cell0).mono ?_
    rintro E w' ⟨rfl, rfl⟩
    exact ⟨rfl, hbk, hown, Kp.refl _ _⟩
/-- What a builder's function leaves. -/
def BN (D : Nat → Prop) (b : Nat) (w w' : World) (s : ByteArray) : Prop :=
  ∃ p v, w'.heap[b]? = some (.cells #[p, v] T (0, 0)) ∧ (p = .pointer none ∨ p = .pointer (some ⟨b, 0, none⟩)) ∧ w'.ownsRowF 0 e 1 v s.size (Lib.byteCells s.data.toList) ∧ v.ownBlock ≠ some b ∧
    (∀ k, v.ownBlock = some k → D k ∨ w.heap.size ≤ k) ∧ Kp D w w'
theorem cells_len (s : ByteArray) : (Lib.byteCells s.data.toList).length = s.size := by rw [Lib.byteCells_length, Array.length_toList]; rfl
/-- The builder's second cell is written: what was appended. -/
theorem BN.put {D : Nat → Prop} {b : Nat} {w w1 w2 : World} {v v' : Value} {s : ByteArray} (hD : D b) (hDv : ∀ k, v.ownBlock = some k → D k) (hk1 : Kp D w w1) (hbk : w1.heap[b]? = some (.cells #[.pointer (some ⟨b, 0, none⟩), v] T (0, 0))) (hne : v.ownBlock ≠ some b)
    (hg : w1.grownBy w2 v.ownBlock) (hown : w2.ownsRowF 0 e 1 v' s.size (Lib.byteCells s.data.toList)) (hv : ∀ k, v'.ownBlock = some k → v.ownBlock = some k ∨ w1.heap.size ≤ k) : BN D b w (w2.setCell ⟨b, 1, none⟩ v') s := by
  have hlt : b < w1.heap.size := (Array.getElem?_eq_some_iff.1 hbk).1
  have hb2 : w2.heap[b]? = some (.cells #[.pointer (some ⟨b, 0, none⟩), v] T (0, 0)) := by rw [hg.block b hlt (fun e => hne e.symm)]; exact hbk
  have hne' := Lib.ownBlock_neF (T := T) hown hb2 (by decide)
  refine ⟨.pointer (some ⟨b, 0, none⟩), v', by simp [World.setCell, Array.getElem?_modify, hb2], .inr rfl, ?_, hne', fun k hk => ?_, ?_⟩
  · exact hown.kept (row := some b) ⟨rfl, rfl, rfl, by simp [World.setCell], fun k _ hk => Below.heap_setCell _ _ _ _ (fun e => hk (by simp [e]))⟩ (Or.inr hne')
  · rcases hv k hk with h | h
    · exact .inl (hDv k h)
    · exact .inr (Nat.le_trans hk1.size h)
  · exact (hk1.grown hg (fun g hg => .inl (hDv g hg))).trans (Kp.setCell _ ⟨b, 1, none⟩ _ hD)
set_option maxHeartbeats 2000000 in
set_option maxRecDepth 100000 in
theorem writeString_x (D : Nat → Prop) (b : Nat) (p v : Value) (s t : ByteArray) (w : World) (hbk : w.heap[b]? = some (.cells #[p, v] T (0, 0))) (hp : p = .pointer none ∨ p = .pointer (some ⟨b, 0, none⟩)) (hown : w.ownsRowF 0 e 1 v s.size (Lib.byteCells s.data.toList)) (hne : v.ownBlock ≠ some b)
    (hD : D b) (hDv : ∀ k, v.ownBlock = some k → D k) (hlen : s.size + t.size ≤ 140737488355328) :
    Calls Tryd.prog 56 #[.pointer (some ⟨b, 0, none⟩), .string t] w fun E w' => E = .returned (.tuple #[.int .i64 t.size, .nilIface]) ∧ BN D b w w' (s ++ t) := by
  obtain ⟨i0, hi, hz0, hz1, hz2⟩ := info_parts (extra169.infoByte : (Tryd.prog.info? 5).map (fun i => (i.zero, i.size, i.bytes)) = some (some (.int .u8 0), 1, 1))
  have Hl := Lib.hid (cells_len s)
  go_enter Tryd.func56, Tryd.ntmps56
  go_wp2_with (go_at_call 96; refine (copyCheck_x b p v w hbk hp (by rw [Hl.out]; exact hown) hne).mono ?_)
  rintro E w1 ⟨rfl, hbk1, hown1, hk1⟩
  have c0 : w1.cell? ⟨b, 0, none⟩ = some (.pointer (some ⟨b, 0, none⟩)) := by rw [Lib.cell_of_heap hbk1]; rfl
  have c1 : w1.cell? ⟨b, 1, none⟩ = some v := by rw [Lib.cell_of_heap hbk1]; rfl
  go_wp2_with (at_builtin; refine wp_app_str rfl _ _ 29 9 rfl 5 i0 Tryd.underlying29 Tryd.underlying9 hi hz0 hz1 hz2 _ _ _ rfl hown1 t rfl ?c3 ?c4 ?_)
  case c3 => rw [Hl.out]; unfold maxLen; omega
  case c4 => rw [Hl.out]; omega
  intro v' w2 hown' hgrow hfr
  have hlt : b < w1.heap.size := (Array.getElem?_eq_some_iff.1 hbk1).1
  have hb2 : w2.heap[b]? = some (.cells #[.pointer (some ⟨b, 0, none⟩), v] T (0, 0)) := by rw [hgrow.block b hlt (fun e => hne e.symm)]; exact hbk1
  have d0 : w2.cell? ⟨b, 0, none⟩ = some (.pointer (some ⟨b, 0, none⟩)) := by rw [Lib.cell_of_heap hb2]; rfl
  have d1 : w2.cell? ⟨b, 1, none⟩ = some v := by rw [Lib.cell_of_heap hb2]; rfl
  have f1 : w2.frozen? ⟨b, 1, none⟩ = false := Lib.frozen_of_heap hb2 1
  have fin : BN D b w (w2.setCell ⟨b, 1, none⟩ v') (s ++ t) := by
    refine BN.put hD hDv (w1 := w1) ⟨fun k hk hd => hk1.block k hk (fun e => hd (by rw [e]; exact hD)), hk1.size, hk1.os, hk1.tape, hk1.output⟩ hbk1 hne hgrow ?_ hfr
    rw [← cells_append, ByteArray.size_append]
    rw [Hl.out] at hown'
    exact hown'
  obtain ⟨ao, n', cap, rfl⟩ : ∃ ao n' cap, v' = .slice ao n' cap := by
    rcases hown'.2 with ⟨hv, _⟩ | ⟨g, cap, cur, fz, hv, _⟩
    · exact ⟨_, _, _, hv⟩
    · exact ⟨_, _, _, hv⟩
  clear hlen
  go_wp2
  go_ret2
  exact ⟨rfl, fin⟩
set_option maxHeartbeats 2000000 in
set_option maxRecDepth 100000 in
theorem writeByte_x (D : Nat → Prop) (b : Nat) (p v : Value) (s : ByteArray) (c : Int) (w : World) (hbk : w.heap[b]? = some (.cells #[p, v] T (0, 0))) (hp : p = .pointer none ∨ p = .pointer (some ⟨b, 0, none⟩)) (hown : w.ownsRowF 0 e 1 v s.size (Lib.byteCells s.data.toList)) (hne : v.ownBlock ≠ some b)
    (hD : D b) (hDv : ∀ k, v.ownBlock = some k → D k) (hc0 : 0 ≤ c) (hc1 : c ≤ 255) (hlen : s.size + 1 ≤ 140737488355328) :
    Calls Tryd.prog 109 #[.pointer (some ⟨b, 0, none⟩), .int .u8 c] w fun E w' => E = .returned .nilIface ∧ BN D b w w' (s.push (UInt8.ofNat c.toNat)) := by
  obtain ⟨i0, hi, hz0, hz1, hz2⟩ := info_parts (extra169.infoByte : (Tryd.prog.info? 5).map (fun i => (i.zero, i.size, i.bytes)) = some (some (.int .u8 0), 1, 1))
  have hbl := cells_len s
  have hpush : Lib.byteCells (s.push (UInt8.ofNat c.toNat)).data.toList = Lib.byteCells s.data.toList ++ [.int .u8 c] := by
    have : (UInt8.ofNat c.toNat).toNat = c.toNat := by simp; omega
    simp only [Lib.byteCells, ByteArray.push, Array.toList_push, List.map_append, List.map_cons, List.map_nil, this]
    rw [Int.toNat_of_nonneg hc0]
  have hps : (s.push (UInt8.ofNat c.toNat)).size = s.size + 1 := Array.size_push _
  have Hp := Lib.hid hpush
  have Hs := Lib.hid hps
  have Hl := Lib.hid hbl
  clear hpush hbl hps
  go_enter Tryd.func109, Tryd.ntmps109
  go_wp2_with (go_at_call 96; refine (copyCheck_x b p v _ hbk hp (by rw [Hl.out]; exact hown) hne).mono ?_)
  rintro E w1 ⟨rfl, hbk1, hown1, hk1⟩
  have c0 : w1.cell? ⟨b, 0, none⟩ = some (.pointer (some ⟨b, 0, none⟩)) := by rw [Lib.cell_of_heap hbk1]; rfl
  have c1 : w1.cell? ⟨b, 1, none⟩ = some v := by rw [Lib.cell_of_heap hbk1]; rfl
  go_wp2_with (at_builtin; refine wp_app_row rfl _ _ 29 rfl 5 i0 (.int .u8 0) Tryd.underlying29 hi hz0 hz1 hz2 rfl _ _ _ rfl (hown1.alloc _) ⟨w1.heap.size, 0, none⟩ 1 1 [.int .u8 c] rfl rfl ?c1 ?c2 ?c3 ?c4 ?_)
  case c1 =>
    intro j u hj
    match j, hj with
    | 0, hj => simp at hj; subst hj; simp [Addr.add]
  case c2 => intro u hu; simp at hu; subst hu; rfl
  case c3 => rw [Hl.out]; unfold maxLen; omega
  case c4 => rw [Hl.out]; omega
  intro v' w2 hown' hgrow hfr
  have hlt : b < w1.heap.size := (Array.getElem?_eq_some_iff.1 hbk1).1
  have hb2 : w2.heap[b]? = some (.cells #[.pointer (some ⟨b, 0, none⟩), v] T (0, 0)) := by
    rw [hgrow.block b (by simp; omega) (fun e => hne e.symm), Lib.alloc_old w1 _ b hlt]
    exact hbk1
  have d0 : w2.cell? ⟨b, 0, none⟩ = some (.pointer (some ⟨b, 0, none⟩)) := by rw [Lib.cell_of_heap hb2]; rfl
  have d1 : w2.cell? ⟨b, 1, none⟩ = some v := by rw [Lib.cell_of_heap hb2]; rfl
  have f1 : w2.frozen? ⟨b, 1, none⟩ = false := Lib.frozen_of_heap hb2 1
  have fin : BN D b w (w2.setCell ⟨b, 1, none⟩ v') (s.push (UInt8.ofNat c.toNat)) := by
    refine BN.put hD hDv ((Kp.mk (D := D) (fun k hk hd => hk1.block k hk (fun e => hd (by rw [e]; exact hD))) hk1.size hk1.os hk1.tape hk1.output).trans (Kp.alloc D w1 _)) ((Lib.alloc_old w1 _ b hlt).trans hbk1) hne hgrow ?_ (by simpa using hfr)
    rw [Hp.out, Hs.out]
    rw [Hl.out] at hown'
    exact hown'
  obtain ⟨g, n', cap, rfl⟩ : ∃ g n' cap, v' = .slice g n' cap := by
    rcases hown'.2 with ⟨hv, _⟩ | ⟨g, cap, cur, fz, hv, _⟩
    · exact ⟨_, _, _, hv⟩
    · exact ⟨_, _, _, hv⟩
  go_wp2
  go_ret
  exact ⟨rfl, fin⟩
theorem BN.same {D : Nat → Prop} {b : Nat} {w w' : World} {p v : Value} {s : ByteArray} (hbk : w'.heap[b]? = some (.cells #[p, v] T (0, 0))) (hp : p = .pointer none ∨ p = .pointer (some ⟨b, 0, none⟩)) (hown : w'.ownsRowF 0 e 1 v s.size (Lib.byteCells s.data.toList)) (hne : v.ownBlock ≠ some b)
    (hDv : ∀ k, v.ownBlock = some k → D k) (hk : Kp D w w') : BN D b w w' s := ⟨p, v, hbk, hp, hown, hne, fun k h => .inl (hDv k h), hk⟩
/-- The same builder, where its row's bytes have been frozen. -/
theorem BN.froze {D : Nat → Prop} {b g cap : Nat} {w : World} {p : Value} {s : ByteArray} (hbk : w.heap[b]? = some (.cells #[p, .slice (some ⟨g, 0, none⟩) s.size cap] T (0, 0))) (hp : p = .pointer none ∨ p = .pointer (some ⟨b, 0, none⟩)) (hown : w.ownsRowF 0 e 1 (.slice (some ⟨g, 0, none⟩) s.size cap) s.size (Lib.byteCells s.data.toList)) (hne : g ≠ b)
    (hDv : D g) : BN D b w (w.drew.freeze ⟨g, 0, none⟩ s.size) s := by
  have hlt : b < w.heap.size := (Array.getElem?_eq_some_iff.1 hbk).1
  have hA : Lib.BuilderAtF T e 0 b p (Lib.byteCells s.data.toList) w.drew := ⟨Nat.zero_le _, _, hbk, by rw [cells_len]; exact hown, by simpa [Value.ownBlock] using hne⟩
  have hF := hA.froze (g := g) (cap := cap) (by rw [cells_len, Lib.cell_of_heap (show w.drew.heap[b]? = _ from hbk)]; rfl)
  rw [cells_len] at hF
  obtain ⟨_, v, h1, h2, h3⟩ := hF
  have h4 : (w.drew.freeze ⟨g, 0, none⟩ s.size).heap[b]? = some (.cells #[p, .slice (some ⟨g, 0, none⟩) s.size cap] T (0, 0)) :=
    ((Kp.freeze (D := fun k => k = g) w.drew ⟨g, 0, none⟩ s.size rfl).block b hlt (fun e => hne e.symm)).trans hbk
  rw [h4] at h1
  have hv : v = .slice (some ⟨g, 0, none⟩) s.size cap := by simpa using h1.symm
  subst hv
  rw [cells_len] at h2
  exact BN.same h4 hp h2 h3 (fun k hk => by have : g = k := by simpa [Value.ownBlock] using hk
                                            exact this ▸ hDv) ((Kp.refl D w).drew.trans (Kp.freeze w.drew ⟨g, 0, none⟩ s.size hDv))
set_option maxHeartbeats 2000000 in
set_option maxRecDepth 100000 in
theorem string_none (D : Nat → Prop) (b : Nat) (p v : Value) (w w' : World) (q : Option Addr) (hbk : w.heap[b]? = some (.cells #[p, v] T (0, 0))) (ao : Option Addr) (cap : Nat) (hv : v = .slice ao 0 cap)
    (hSD : (Builtin.unsafeSliceData_ #[29] 119 #[v]).run Tryd.prog w.drew = .ok (.pointer q) w') (hw' : w' = w.drew ∨ ∃ o, w' = w.drew.alloc o) (hBN : BN D b w w' ⟨#[]⟩) :
    Calls Tryd.prog 58 #[.pointer (some ⟨b, 0, none⟩)] w fun E w' => E = .returned (.string ⟨#[]⟩) ∧ BN D b w w' ⟨#[]⟩ := by
  have hlt : b < w.heap.size := (Array.getElem?_eq_some_iff.1 hbk).1
  have sm := Lib.hid hBN
  subst hv
  have hUS : ∀ (W : World) (q : Option Addr), (Builtin.unsafeString_ #[119, 3] 9 #[.pointer q, .int .i64 0]).run Tryd.prog W = .ok (.string ByteArray.empty) W := Any.unsafeString_none lays169 extra169
  have c1 : w.drew.cell? ⟨b, 1, none⟩ = some (.slice ao 0 cap) := by
    have : w.drew.heap[b]? = some (.cells #[p, .slice ao 0 cap] T (0, 0)) := hbk
    rw [Lib.cell_of_heap this]; rfl
  have c0 : w.cell? ⟨b, 1, none⟩ = some (.slice ao 0 cap) := c1
  have mixed := lays169.mixed
  rcases hw' with rfl | ⟨o, rfl⟩
  · clear hbk hBN hlt
    go_enter Tryd.func58, Tryd.ntmps58
    go_wp2
    go_region_o
    all_goals (go_wp2; go_ret; exact ⟨rfl, sm.out⟩)
  · have c2 : (w.drew.alloc o).cell? ⟨b, 1, none⟩ = some (.slice ao 0 cap) := by
      have : (w.drew.alloc o).heap[b]? = _ := (Lib.alloc_old w.drew _ b hlt).trans hbk
      rw [Lib.cell_of_heap this]; rfl
    have c3 : (w.alloc o).drew.cell? ⟨b, 1, none⟩ = some (.slice ao 0 cap) := c2
    clear hbk hBN hlt
    go_enter Tryd.func58, Tryd.ntmps58
    go_wp2
    go_region_o
    all_goals (go_wp2; go_ret; exact ⟨rfl, sm.out⟩)
set_option maxHeartbeats 2000000 in
set_option maxRecDepth 100000 in
theorem string_some (D : Nat → Prop) (b g cap : Nat) (p : Value) (s : ByteArray) (w : World) (cur : Array Value) (fz : Nat × Nat) (hbk : w.heap[b]? = some (.cells #[p, .slice (some ⟨g, 0, none⟩) s.size cap] T (0, 0))) (hg : w.heap[g]? = some (.cells cur e fz))
    (hown : w.ownsRowF 0 e 1 (.slice (some ⟨g, 0, none⟩) s.size cap) s.size (Lib.byteCells s.data.toList)) (hnc : s.size ≤ cap) (hcm : cap ≤ maxLen) (h0 : s.size ≠ 0) (hBN : BN D b w (w.drew.freeze ⟨g, 0, none⟩ s.size) s) :
    Calls Tryd.prog 58 #[.pointer (some ⟨b, 0, none⟩)] w fun E w' => E = .returned (.string s) ∧ BN D b w w' s := by
  have sm := Lib.hid hBN
  have c1 : w.drew.cell? ⟨b, 1, none⟩ = some (.slice (some ⟨g, 0, none⟩) s.size cap) := by
    have : w.drew.heap[b]? = some (.cells #[p, .slice (some ⟨g, 0, none⟩) s.size cap] T (0, 0)) := hbk
    rw [Lib.cell_of_heap this]; rfl
  have hSD : (Builtin.unsafeSliceData_ #[29] 119 #[.slice (some ⟨g, 0, none⟩) s.size cap]).run Tryd.prog w.drew = .ok (.pointer (some ⟨g, 0, none⟩)) w.drew :=
    Lib.run_unsafeSliceData_row _ _ _ _ _ _ (by omega)
  have hsz : s.data.toList.length = s.size := by rw [Array.length_toList]; rfl
  have hUS : (Builtin.unsafeString_ #[119, 3] 9 #[.pointer (some ⟨g, 0, none⟩), .int .i64 s.size]).run Tryd.prog w.drew = .ok (.string s) (w.drew.freeze ⟨g, 0, none⟩ s.size) := by
    have := Lib.run_unsafeString_row (P := Tryd.prog) w.drew 119 3 9 5 lays169.t127 extra169.cellsByte g cur.size (by have hg' : w.drew.heap[g]? = some (.cells cur e fz) := hg; simp [World.shape?, hg']) s.data.toList (by intro h; rw [h] at hsz; simp at hsz; omega) (by
      have := hown.2
      rcases this with ⟨hv, _⟩ | ⟨g', cap', cur', fz', hv, _, hg', _, _, _, hcs, _⟩
      · cases hv
      · injection hv with ha _ hc
        injection ha with ha
        injection ha with ha
        subst ha
        rw [hg] at hg'
        have : cur = cur' := by simpa using congrArg (fun o => match o with | some (Obj.cells c _ _) => c | _ => #[]) hg'
        rw [hsz, this, hcs]; omega) (by rw [hsz]; unfold maxLen at hcm; omega) (by
      intro j x hx
      exact hown.cells (g := g) rfl j (.int .u8 x.toNat) (by simp [Lib.byteCells, hx]))
    rw [hsz] at this
    exact this
  have mixed := lays169.mixed
  clear hbk hBN hown hg hnc hcm h0 hsz
  go_enter Tryd.func58, Tryd.ntmps58
  go_wp2
  go_region_o
  all_goals (go_wp2; go_ret; exact ⟨rfl, sm.out⟩)
end Go.Proofs.YtogfddilolannaaDoorW.XBld
