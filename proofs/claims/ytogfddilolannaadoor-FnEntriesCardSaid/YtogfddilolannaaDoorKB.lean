/- The interpreter's operations do what the program's do. No condition. -/
import Derived.Test.YtogfddilolannaaDoorKA
import Derived.Laws.BytesString
import Derived.Laws.BytesArg
import Derived.Laws.IdiomStrings
import Derived.Orders
import Derived.LoopN
import Derived.StillTail
/-! ISem15 -/
set_option linter.unusedVariables false
set_option linter.unusedSimpArgs false
namespace Go.I
open Go.RowKit Go.Proofs.YtogfddilolannaaDoorW.PrintWords
theorem q_stored {w : World} {base n cap size : Nat} {e : TypeId} {a : Addr} {xs : List Value} (h : QRow w base e size (.slice (some a) n cap) n xs) {j : Nat} (hj : j < xs.length) (u : Value) :
    QRow (w.setCell (a.add j) u) base e size (.slice (some a) n cap) n (xs.set j u) := by
  obtain ⟨h1, h2⟩ := h
  refine ⟨by simpa using h1, ?_⟩
  rcases h2 with ⟨h0, _⟩ | ⟨g, off, cap', cur, he, hb, hh, hnc, hcm, hcs, ht⟩
  · rw [h0, Nat.zero_mul] at h1; omega
  · injection he with ha _ hc
    injection ha with ha
    subst ha; subst hc
    refine .inr ⟨g, off, cap, cur.setIfInBounds (off * size + j) u, rfl, hb, ?_, hnc, hcm, by simpa using hcs, ?_⟩
    · rw [add_at]
      exact blk_set hh _ u
    · rw [Array.toList_setIfInBounds, List.drop_set, if_neg (by omega), List.take_set, ht, show off * size + j - off * size = j by omega]
section
variable {B : Tab}
theorem cells_at {inner : List Value} {size i off : Nat} (hs : off < size) : ((inner.drop (i * size)).take size)[off]? = inner[i * size + off]? := by
  rw [List.getElem?_take, if_pos hs, List.getElem?_drop]
theorem seg_set_same {inner : List Value} {size i off : Nat} (hs : off < size) (u : Value) : ((inner.set (i * size + off) u).drop (i * size)).take size = ((inner.drop (i * size)).take size).set off u := by
  rw [List.drop_set, if_neg (by omega), List.take_set, show i * size + off - i * size = off by omega]
theorem seg_set_other {inner : List Value} {size i j off : Nat} (hs : off < size) (hij : i ≠ j) (u : Value) : ((inner.set (i * size + off) u).drop (j * size)).take size = (inner.drop (j * size)).take size := by
  rw [List.drop_set]
  split
  · rfl
  · rename_i h
    have : size ≤ i * size + off - j * size := by
      rcases Nat.lt_or_gt_of_ne hij with h1 | h1
      · have := Nat.mul_le_mul_right size (show i + 1 ≤ j by omega)
        rw [Nat.add_mul] at this
        omega
      · have := Nat.mul_le_mul_right size (show j + 1 ≤ i by omega)
        rw [Nat.add_mul] at this
        omega
    rw [List.take_set, List.set_eq_of_length_le]
    rw [List.length_take]
    omega
theorem heap_set_ne {w : World} {a : Addr} {u : Value} {b : Nat} (h : b ≠ a.block) : (w.setCell a u).heap[b]? = w.heap[b]? := Below.heap_setCell w a u b h
/-- A leaf of an element of one's own is written anew. -/
theorem Own.upd (H : TabE B) {w : World} {x : VT B} {cx : Value} {Dx : Nat → Prop} {m : Nat} : ∀ {st : List (Int × Nat)} {n : Nat} {v v' : VT B} {c : Value} {D : Nat → Prop} {ad : Addr}, Own w n v c D → AddrR w st v c ad →
    V.upd std v st x = some v' → Own (w.setCell ad cx) m x cx Dx → (∀ b, Dx b → ¬ D b) →
    ∃ n', Own (w.setCell ad cx) n' v' c (fun b => D b ∨ Dx b) := by
  intro st
  induction st with
  | nil => intro n v v' c D ad _ ha; exact ha.elim
  | cons y st ih =>
    obtain ⟨i, off⟩ := y
    intro n v v' c D ad ho ha hu hx hdis
    have ha0 := ha
    obtain ⟨e, l, rfl, a, cap, rfl, h0, h1, hs, h2⟩ := ha
    cases n with
    | zero => exact ho.elim
    | succ n =>
      have ho0 := ho
      obtain ⟨inner, hq, hb, Dk, h3, h4, h5⟩ := ho
      have hget := std_get (B.dflt e) l i h0 h1
      have hlen : off < (B.enc e (std.get (B.dflt e) l i)).length := by rw [H.enc_len]; exact hs
      have hg : (B.enc e (std.get (B.dflt e) l i))[off]? = some (B.enc e (std.get (B.dflt e) l i))[off] := List.getElem?_eq_getElem hlen
      have hgD : (B.enc e (std.get (B.dflt e) l i)).getD off .dead = (B.enc e (std.get (B.dflt e) l i))[off] := by simp [List.getD_eq_getElem?_getD, hg]
      -- what is told after
      simp only [V.upd, Option.bind_eq_some_iff, Option.map_eq_some_iff] at hu
      obtain ⟨y', hy', z, hz, rfl⟩ := hu
      have hz' := H.dec_enc _ _ _ hz
      rw [setAt_eq] at hz'
      rw [hgD] at hy'
      have hl' : (std.set l i z).length = l.length := by simp [std]
      have hil : i.toNat < l.length := by omega
      have hin : inner.length = l.length * B.size e := hq.1
      have hseg : i.toNat * B.size e + off < inner.length := by
        rw [hin]
        have := Nat.mul_le_mul_right (B.size e) (show i.toNat + 1 ≤ l.length by omega)
        rw [Nat.add_mul] at this
        omega
      have hba : D a.block := hb _ rfl
      -- an element after: the same, or element i
      have helem : ∀ (j : Nat) (u : B.T e), (std.set l i z)[j]? = some u → (j = i.toNat ∧ u = z) ∨ (j ≠ i.toNat ∧ l[j]? = some u) := by
        intro j u hu
        have hu : (l.set i.toNat z)[j]? = some u := hu
        rw [List.getElem?_set] at hu
        split at hu
        · rename_i hij
          try rw [if_pos hil] at hu
          injection hu with hu
          exact .inl ⟨hij.symm, hu.symm⟩
        · rename_i hij
          exact .inr ⟨fun e => hij e.symm, hu⟩
      rcases h2 with ⟨rfl, rfl⟩ | ⟨hne, v1, u, hv, hcell, hr⟩
      · -- the element's own cell
        have hyx : y' = x := by simpa [V.upd] using hy'.symm
        subst hyx
        refine ⟨max n m + 1, inner.set (i.toNat * B.size e + off) cx, ?_, fun b hbb => .inl (hb b hbb), fun j b => Dk j b ∨ (j = i.toNat ∧ Dx b), ?_, ?_, ?_⟩
        · rw [hl']; exact q_stored hq hseg cx
        · rintro j k' b (hj | ⟨rfl, hj⟩) (hk | ⟨rfl, hk⟩)
          · exact h3 j k' b hj hk
          · exact absurd (h4 _ _ hj).1 (hdis b hk)
          · exact absurd (h4 _ _ hk).1 (hdis b hj)
          · rfl
        · rintro j b (hj | ⟨rfl, hj⟩)
          · exact ⟨.inl (h4 j b hj).1, (h4 j b hj).2⟩
          · refine ⟨.inr hj, fun e => hdis b hj ?_⟩
            exact hb b e
        · intro j u hu
          rcases helem j u hu with ⟨rfl, rfl⟩ | ⟨hji, hlj⟩
          · rw [seg_set_same hs, hz']
            obtain ⟨k1, Dl, k2, k3, k4⟩ := h5 _ _ hget
            refine ⟨by simpa using k1, fun q b => if q = off then Dx b else Dl q b, fun q u c hqu hqc => ?_, fun q q' b hq1 hq2 => ?_, fun q b hqb => ?_⟩
            · rw [List.getElem?_set] at hqu hqc
              by_cases hqo : off = q
              · subst hqo
                rw [if_pos rfl, if_pos hlen] at hqu
                rw [if_pos rfl, if_pos (by rw [← k1]; exact hlen)] at hqc
                injection hqu with hqu
                injection hqc with hqc
                subst hqu; subst hqc
                simp only [if_true]
                exact Own.le hx (Nat.le_max_right ..)
              · rw [if_neg hqo] at hqu hqc
                have hqo' : ¬ q = off := fun e => hqo e.symm
                simp only [if_neg hqo']
                refine (Own.move (k2 q u c hqu hqc) (fun b hb' => heap_set_ne ?_)).le (Nat.le_max_left ..)
                rw [add_block]
                rintro rfl
                exact (h4 _ _ (k4 q _ hb')).2 rfl
            · simp only at hq1 hq2
              split at hq1 <;> split at hq2
              · omega
              · exact absurd (h4 _ _ (k4 _ _ hq2)).1 (hdis b hq1)
              · exact absurd (h4 _ _ (k4 _ _ hq1)).1 (hdis b hq2)
              · exact k3 q q' b hq1 hq2
            · simp only at hqb
              split at hqb
              · exact .inr ⟨rfl, hqb⟩
              · exact .inl (k4 q b hqb)
          · rw [seg_set_other hs (fun e => hji e.symm)]
            refine (h5 j u hlj).imp (fun v c Dk' hsub hr => (hr.move (fun b hb' => heap_set_ne ?_)).le (Nat.le_max_left ..)) (fun b hb' => .inl hb')
            rw [add_block]
            rintro rfl
            exact (h4 _ _ (hsub _ hb')).2 rfl
      · -- deeper
        obtain ⟨k1, Dl, k2, k3, k4⟩ := h5 _ _ hget
        have hcu : ((inner.drop (i.toNat * B.size e)).take (B.size e))[off]? = some u := by
          obtain ⟨ad', he', hc'⟩ := q_cells hq (by omega)
          injection he' with he'
          subst he'
          rw [cells_at hs]
          have := hc' (i.toNat * B.size e + off) inner[i.toNat * B.size e + off] (List.getElem?_eq_getElem hseg)
          rw [hcell] at this
          rw [List.getElem?_eq_getElem hseg, this]
        have hown := k2 off v1 u hv hcu
        have hDl : ∀ b, Dl off b → D b := fun b hb' => (h4 _ _ (k4 off b hb')).1
        have hv1 : (B.enc e (std.get (B.dflt e) l i))[off] = v1 := by rw [hg] at hv; injection hv
        obtain ⟨n', hn'⟩ := ih hown hr (by rw [← hv1]; exact hy') hx (fun b hb' hd => hdis b hb' (hDl b hd))
        have hadD : Dl off ad.block := AddrR.block H hr hown
        have hadne : ad.block ≠ a.block := by
          intro e'
          have := (h4 _ _ (k4 off _ hadD)).2
          exact this (by rw [e']; rfl)
        refine ⟨max n n' + 1, inner, ?_, fun b hbb => .inl (hb b hbb), fun j b => Dk j b ∨ (j = i.toNat ∧ Dx b), ?_, ?_, ?_⟩
        · rw [hl']
          exact q_move hq (fun k' hk' => heap_set_ne (by
            have : a.block = k' := by simpa [Value.ownBlock] using hk'
            rw [← this]; exact fun e => hadne e.symm))
        · rintro j k' b (hj | ⟨rfl, hj⟩) (hk | ⟨rfl, hk⟩)
          · exact h3 j k' b hj hk
          · exact absurd (h4 _ _ hj).1 (hdis b hk)
          · exact absurd (h4 _ _ hk).1 (hdis b hj)
          · rfl
        · rintro j b (hj | ⟨rfl, hj⟩)
          · exact ⟨.inl (h4 j b hj).1, (h4 j b hj).2⟩
          · exact ⟨.inr hj, fun e => hdis b hj (hb b e)⟩
        · intro j u' hu'
          rcases helem j u' hu' with ⟨rfl, rfl⟩ | ⟨hji, hlj⟩
          · rw [hz']
            refine ⟨by simpa using k1, fun q b => Dl q b ∨ (q = off ∧ Dx b), fun q u2 c hqu hqc => ?_, ?_, ?_⟩
            · rw [List.getElem?_set] at hqu
              by_cases hqo : off = q
              · subst hqo
                rw [if_pos rfl, if_pos hlen] at hqu
                injection hqu with hqu
                rw [hcu] at hqc
                injection hqc with hqc
                subst hqu; subst hqc
                exact (Own.mono hn' (fun b hb' => hb'.elim .inl (fun h => .inr ⟨rfl, h⟩))).le (Nat.le_max_right ..)
              · rw [if_neg hqo] at hqu
                refine Own.mono ((Own.move (k2 q u2 c hqu hqc) (fun b hb' => heap_set_ne ?_)).le (Nat.le_max_left ..)) (fun b hb' => .inl hb')
                rintro rfl
                exact hqo (k3 off q _ hadD hb')
            · rintro q q' b (hq1 | ⟨rfl, hq1⟩) (hq2 | ⟨rfl, hq2⟩)
              · exact k3 q q' b hq1 hq2
              · exact absurd (h4 _ _ (k4 _ _ hq1)).1 (hdis b hq2)
              · exact absurd (h4 _ _ (k4 _ _ hq2)).1 (hdis b hq1)
              · rfl
            · rintro q b (hqb | ⟨rfl, hqb⟩)
              · exact .inl (k4 q b hqb)
              · exact .inr ⟨rfl, hqb⟩
          · refine (h5 j u' hlj).imp (fun v c Dk' hsub hr' => (hr'.move (fun b hb' => heap_set_ne ?_)).le (Nat.le_max_left ..)) (fun b hb' => .inl hb')
            rintro rfl
            exact hji (h3 _ _ _ (hsub _ hb') (k4 off _ hadD))
end
end Go.I

/-! ISem16 -/
set_option linter.unusedVariables false
set_option linter.unusedSimpArgs false
namespace Go.I
open Go.RowKit Go.Proofs.YtogfddilolannaaDoorW.PrintWords
section
variable {B : Tab}
theorem get_set_same {e : TypeId} {l : List (B.T e)} {i : Int} {z : B.T e} (h1 : i < l.length) (h0 : 0 ≤ i) : std.get (B.dflt e) (std.set l i z) i = z := by
  have : i.toNat < l.length := by omega
  simp [std, List.getD_eq_getElem?_getD, this]
/-- Behind a store at a place beside it a place lies where it lay. -/
theorem AddrR.after (H : TabE B) {w : World} {x cxv : VT B} {cx : Value} (j : Nat) : ∀ {st : List (Int × Nat)} {n : Nat} {v v' : VT B} {c : Value} {D : Nat → Prop} {ad ad1 : Addr}, AddrR w st v c ad → AddrR w (farL j st) v c ad1 → Own w n v c D →
    V.upd std v (farL j st) x = some v' → AddrR (w.setCell ad1 cx) st v' c ad := by
  intro st
  induction st with
  | nil => intro n v v' c D ad ad1 h; exact h.elim
  | cons y st ih =>
    obtain ⟨i, o⟩ := y
    intro n v v' c D ad ad1 ha hb ho hu
    obtain ⟨e, l, rfl, a, cap, rfl, h0, h1, hs, h2⟩ := ha
    cases st with
    | nil =>
      rcases h2 with ⟨_, rfl⟩ | ⟨hne, _⟩
      · simp only [farL, V.upd, Option.bind_eq_some_iff, Option.map_eq_some_iff] at hu
        obtain ⟨y', _, z, hz, rfl⟩ := hu
        exact ⟨e, _, rfl, a, cap, by simp [std], h0, by simpa [std] using h1, hs, .inl ⟨rfl, rfl⟩⟩
      · exact absurd rfl hne
    | cons z0 st =>
      rcases h2 with ⟨h, _⟩ | ⟨_, v1, u, hv, hcell, hr⟩
      · cases h
      have hf : farL j ((i, o) :: z0 :: st) = (i, o) :: farL j (z0 :: st) := rfl
      rw [hf] at hb hu
      obtain ⟨e', l', he', a', cap', hc', k0, k1, ks, k2⟩ := hb
      injection he' with he1 he2
      subst he1
      have he2 := eq_of_heq he2
      subst he2
      injection hc' with ha' _ _
      injection ha' with ha'
      subst ha'
      rcases k2 with ⟨h, _⟩ | ⟨_, v2, u2, hv2, hcell2, hr2⟩
      · exact absurd h (farL_ne j _ (by simp))
      rw [hv] at hv2
      injection hv2 with hv2
      subst hv2
      rw [hcell] at hcell2
      injection hcell2 with hcell2
      subst hcell2
      cases n with
      | zero => exact ho.elim
      | succ n =>
        obtain ⟨a2, cap2, u3, Dk, hc3, hDa, hu3, hk, hsub⟩ := own_at H ho i h0 h1 hv
        injection hc3 with ha3 _ _
        injection ha3 with ha3
        subst ha3
        rw [hcell] at hu3
        injection hu3 with hu3
        subst hu3
        -- the deeper cell is another block's
        have hne : ad1.block ≠ a.block := by
          obtain ⟨inner, hq, hbb, Dq, q3, q4, q5⟩ := ho
          have hget := std_get (B.dflt e) l i h0 h1
          obtain ⟨k1', Dl, k2', k3', k4'⟩ := q5 _ _ hget
          have hlen : o < (B.enc e (std.get (B.dflt e) l i)).length := by rw [H.enc_len]; exact hs
          have hin : inner.length = l.length * B.size e := hq.1
          have hseg : i.toNat * B.size e + o < inner.length := by
            rw [hin]
            have := Nat.mul_le_mul_right (B.size e) (show i.toNat + 1 ≤ l.length by omega)
            rw [Nat.add_mul] at this
            omega
          have hcu : ((inner.drop (i.toNat * B.size e)).take (B.size e))[o]? = some u := by
            obtain ⟨ad', he', hc'⟩ := q_cells hq (by omega)
            injection he' with he'
            subst he'
            rw [cells_at hs]
            have := hc' (i.toNat * B.size e + o) inner[i.toNat * B.size e + o] (List.getElem?_eq_getElem hseg)
            rw [hcell] at this
            rw [List.getElem?_eq_getElem hseg, this]
          have hb1 := AddrR.block H hr2 (k2' o v1 u hv hcu)
          intro e'
          exact (q4 _ _ (k4' o _ hb1)).2 (by rw [e']; rfl)
        simp only [V.upd, Option.bind_eq_some_iff, Option.map_eq_some_iff] at hu
        obtain ⟨y', hy', z, hz, rfl⟩ := hu
        have hgD : (B.enc e (std.get (B.dflt e) l i)).getD o .dead = v1 := by simp [List.getD_eq_getElem?_getD, hv]
        rw [hgD] at hy'
        have hz' := H.dec_enc _ _ _ hz
        rw [setAt_eq] at hz'
        refine ⟨e, _, rfl, a, cap, by simp [std], h0, by simpa [std] using h1, hs, .inr ⟨by simp, y', u, ?_, (cell_same (heap_set_ne (by rw [add_block]; exact fun e => hne e.symm))).trans hcell, ih hr hr2 hk hy'⟩⟩
        rw [get_set_same h1 h0, hz']
        rw [List.getElem?_set, if_pos rfl, if_pos (List.getElem?_eq_some_iff.1 hv).1]
end
section
variable {P : Program} {B : Tab} {M : FuncId → List Md} {F : FuncId → Option (Fi B)} {kl : KL}
variable {X : Base B} {s s' : S B} {a : Act} {w : World} {Γ : Gh B} {β : Nat → Nat} {o : Oper} {n : Nat} {k : S B → Tr B} {r : Res B} {Q : Exit → Act → World → Prop}
theorem killE_data (q kq : Nat) (v : VT B) : V.data (V.killE q kq v) = V.data v := by
  rcases killE_same q kq v with h | h
  · rw [h]
  · rw [h]
    cases v with
    | lit u => cases h
    | own e l => cases h
    | _ => rfl
theorem kill_data (q kq : Nat) (v : VT B) : V.data (V.kill q kq v) = V.data v := by
  cases v with
  | «at» p => simp only [V.kill]; split <;> rfl
  | ptr p => simp only [V.kill]; split <;> rfl
  | _ => rfl
theorem own_of_leaf {ok : Nat → Prop} {v : VT B} {c : Value} {D : Nat → Prop} (h : LeafR X ok Γ β w v c D) (hv : v.data = true) : ∃ m, Own w m v c D := by
  cases v with
  | lit u => exact ⟨0, h⟩
  | own e l => exact h
  | _ => cases hv
theorem modify_set {α : Type} (d : α) (f : α → α) : ∀ (l : List α) (n : Nat), l.modify n f = l.set n (f (l.getD n d))
  | [], n => by simp
  | x :: l, 0 => by simp
  | x :: l, n + 1 => by
    have := modify_set d f l n
    simp only [List.modify_succ_cons, List.set_cons_succ, List.getD_cons_succ, this]
theorem updW_eq (H : TabE B) (v : VT B) (st : List (Int × Nat)) (x : VT B) : V.updW std v st x = V.upd std v st x := by
  unfold V.updW
  split
  · rename_i e l
    split
    · rename_i i off
      split
      · rename_i f hf
        have h1 := H.upd_ok e off x f hf (std.get (B.dflt e) l i)
        simp only [V.upd, Option.bind_some, h1, Option.map_some]
        congr 2
        exact modify_set (B.dflt e) f l i.toNat
      · rfl
    · rfl
  · rfl
theorem Rel.put1 (H : TabE B) (hro : ∀ t b, ¬ X.ro t b) (h : Rel X s a w Γ β) {p : Place} {j : Nat} {ad : Addr} {D : Nat → Prop} (hl : LeafR X (okB X Γ β w) Γ β w (.ptr p) (.pointer (some ad)) D) {e0 : Ent B} {rest : List (Ent B)} (hΓ : Γ 0 = e0 :: rest)
    (hp : S.put1 std s (p.far j) = some s') :
    ∃ Γ', Rel X s' a (w.setCell (ad.add j) e0.c) Γ' β ∧ csOf (Γ' 0) = csOf rest ∧ s'.tm.length = s.tm.length ∧ LeafR X (okB X Γ' β (w.setCell (ad.add j) e0.c)) Γ' β (w.setCell (ad.add j) e0.c) (.ptr p) (.pointer (some ad)) none_ ∧
      (w.cell? (ad.add j)).isSome = true ∧ w.frozen? (ad.add j) = false ∧ (Γ' 0).map (fun y => V.data y.v) = rest.map (fun y => V.data y.v) := by
  have hhd : s.hd = e0.v :: vs rest := by rw [show s.hd = vs (Γ 0) from h.root 0, hΓ]; rfl
  unfold S.put1 at hp
  simp only [updW_eq H] at hp
  rw [hhd] at hp
  simp only at hp
  split at hp
  · cases hp
  rename_i hcond
  obtain ⟨hr0, hcond⟩ := not_or.1 hcond
  obtain ⟨hkl, hcond⟩ := not_or.1 hcond
  obtain ⟨hnd, hdat0⟩ := not_or.1 hcond
  have hdat : p.st ≠ [] → e0.v.data = true := by
    intro hst
    have : (p.far j).st ≠ [] := by
      obtain ⟨_, _, st⟩ := p
      cases st with
      | nil => exact absurd rfl hst
      | cons z st => exact farL_ne j _ hst
    cases hv : e0.v.data with
    | true => rfl
    | false => exact absurd ⟨this, hv⟩ hdat0
  have hkl := Classical.not_not.1 hkl
  obtain ⟨y, hy, hs'⟩ := Option.map_eq_some_iff.1 hp
  obtain ⟨q, k0, st⟩ := p
  -- who tells of the leaf is killed
  have key : ∀ (fk : VT B → VT B) (hf1 : ∀ v, fk v = v ∨ fk v = .dead) (hf2 : ∀ v, v.isOwn = true → fk v = v) (hf3 : ∀ v, V.data (fk v) = V.data v) (kq : Nat) (cnew : Value) (vnew : VT B) (Dnew : Nat → Prop) (x : Ent B) (hkq : (Γ q)[kq]? = some x) (hq0 : q ≠ 0)
      (hal : ∀ v p', Alias (fk v) p' → ¬ (p'.r = q ∧ p'.k = kq) ∨ (fk v = .at p' ∧ p'.st = [] ∧ cnew = x.c ∧ vnew.isOwn = true))
      (hs' : (({ s with hd := vs rest } : S B).map fk).setLeaf q kq vnew = s')
      (hcT : (q = 1 ∨ ∃ t, q = 2 * t + 2) → cnew = x.c)
      (hDn : ∀ b, Dnew b → x.D b ∨ e0.D b)
      (hblk : ∀ b, b < w.heap.size → ¬ x.D b → (∀ t, q = 2 * t + 3 → b ≠ β t) → (w.setCell (ad.add j) e0.c).heap[b]? = w.heap[b]?)
      (hbox : ∀ t ty, q = 2 * t + 3 → w.heap[β t]? = some (.cells (csOf (Γ q)).toArray ty (0, 0)) → (w.setCell (ad.add j) e0.c).heap[β t]? = some (.cells ((csOf (Γ q)).set kq cnew).toArray ty (0, 0)))
      (hleaf : ∀ (Γ1 : Gh B), (∀ b, okB X Γ β w b → okB X Γ1 β (w.setCell (ad.add j) e0.c) b ∧ (w.setCell (ad.add j) e0.c).heap[b]? = w.heap[b]?) →
        (∀ (r' j' : Nat) (z : Ent B), r' ≠ 0 → (Γ r')[j']? = some z → ¬ (r' = q ∧ j' = kq) → (Γ1 r')[j']? = some { z with v := fk z.v }) → (∀ t, Γ1 (2 * t + 3) ≠ [] ↔ Γ (2 * t + 3) ≠ []) →
        LeafR X (okB X Γ1 β (w.setCell (ad.add j) e0.c)) Γ1 β (w.setCell (ad.add j) e0.c) vnew cnew Dnew),
      ∃ Γ', Rel X s' a (w.setCell (ad.add j) e0.c) Γ' β ∧ csOf (Γ' 0) = csOf rest ∧ s'.tm.length = s.tm.length ∧ (Γ' q)[kq]? = some ⟨vnew, cnew, Dnew⟩ ∧ (∀ t, Γ' (2 * t + 3) ≠ [] ↔ Γ (2 * t + 3) ≠ []) ∧ (Γ' 0).map (fun y => V.data y.v) = rest.map (fun y => V.data y.v) := by
    intro fk hf1 hf2 hf3 kq cnew vnew Dnew x hkq hq0 hal hs' hcT hDn hblk hbox hleaf
    have h1 := h.map H fk hf1 hf2
    generalize hG1 : (fun r => (Γ r).map fun x : Ent B => { x with v := fk x.v }) = Γk at h1
    have hk1 : (Γk q)[kq]? = some { x with v := fk x.v } := by rw [← hG1]; simp [hkq]
    have hcsk : ∀ r', csOf (Γk r') = csOf (Γ r') := fun r' => by rw [← hG1]; simp [csOf, Function.comp_def]
    have hk0 : Γk 0 = { e0 with v := fk e0.v } :: rest.map (fun x : Ent B => { x with v := fk x.v }) := by rw [← hG1]; simp [hΓ]
    have hnek : ∀ r', Γk r' ≠ [] ↔ Γ r' ≠ [] := fun r' => by rw [← hG1]; simp
    have hputne : ∀ t, putG Γk 1 q kq ⟨vnew, cnew, Dnew⟩ (2 * t + 3) ≠ [] ↔ Γ (2 * t + 3) ≠ [] := by
      intro t
      unfold putG
      by_cases hq : 2 * t + 3 = q
      · subst hq; rw [setG_same]; rw [← hnek]; simp
      · rw [setG_ne _ _ hq, setG_ne _ _ (by omega)]; exact hnek _
    have hsz : (w.setCell (ad.add j) e0.c).heap.size = w.heap.size := by simp [World.setCell]
    have hokall : ∀ b, okB X Γ β w b → okB X (putG Γk 1 q kq ⟨vnew, cnew, Dnew⟩) β (w.setCell (ad.add j) e0.c) b ∧ (w.setCell (ad.add j) e0.c).heap[b]? = w.heap[b]? := by
      intro b hb
      refine ⟨hb.imp (by omega) (fun r' z hz hd => ?_) (fun t ht he => .inl ⟨(hputne t).1 ht, he⟩), hblk b hb.1 (hb.2.2.1 q x (List.mem_of_getElem? hkq)) (fun t ht => hb.2.2.2 t ?_)⟩
      · unfold putG at hz
        by_cases hq : r' = q
        · subst hq
          rw [setG_same] at hz
          rcases List.mem_or_eq_of_mem_set hz with hz | rfl
          · rw [← hG1] at hz
            obtain ⟨z', hz', rfl⟩ := List.mem_map.1 hz
            exact .inl ⟨r', z', hz', hd⟩
          · rcases hDn b hd with h2 | h2
            · exact .inl ⟨r', x, List.mem_of_getElem? hkq, h2⟩
            · exact .inl ⟨0, e0, by rw [hΓ]; simp, h2⟩
        · rw [setG_ne _ _ hq] at hz
          by_cases h0 : r' = 0
          · subst h0
            rw [setG_same, hk0] at hz
            have hz := List.mem_of_mem_drop hz
            rw [← hk0, ← hG1] at hz
            obtain ⟨z', hz', rfl⟩ := List.mem_map.1 hz
            exact .inl ⟨0, z', hz', hd⟩
          · rw [setG_ne _ _ h0, ← hG1] at hz
            obtain ⟨z', hz', rfl⟩ := List.mem_map.1 hz
            exact .inl ⟨r', z', hz', hd⟩
      · rw [← ht]; exact List.ne_nil_of_length_pos (by have := (List.getElem?_eq_some_iff.1 hkq).1; omega)
    have h2 := h1.setL H (m := 1) (w' := w.setCell (ad.add j) e0.c) hq0 hk1 (v := vnew) (c := cnew) (D := Dnew)
      (fun r' z p' hz hp' => by
        rw [← hG1] at hz
        obtain ⟨z', _, rfl⟩ := List.mem_map.1 hz
        exact hal _ _ hp')
      (hleaf _ hokall (fun r' j' z h0 hz hn => by
        unfold putG
        by_cases hq : r' = q
        · subst hq
          rw [setG_same, List.getElem?_set, if_neg (fun e => hn ⟨rfl, e.symm⟩), ← hG1]
          simp [hz]
        · rw [setG_ne _ _ hq, setG_ne _ _ h0, ← hG1]
          simp [hz]) hputne)
      hcT
      (fun b hb => (hDn b hb).imp id (fun h3 => .inl ⟨{ e0 with v := fk e0.v }, by rw [hk0]; simp, h3⟩))
      hblk
      (fun t ty ht hb => by
        rw [hcsk] at hb
        have := hbox t ty ht hb
        have e1 : csOf ((Γk q).set kq ⟨vnew, cnew, Dnew⟩) = (csOf (Γ q)).set kq cnew := by rw [← hcsk]; simp [csOf, List.map_set]
        rw [e1]; exact this)
      (by omega) rfl rfl rfl (.inl fun t _ => hro t)
    have hse : ({ s.map fk with hd := (s.map fk).hd.drop 1 } : S B) = ({ s with hd := vs rest } : S B).map fk := by
      unfold S.map
      simp [hhd]
    rw [hse] at h2
    rw [hs'] at h2
    refine ⟨_, h2, ?_, by rw [h2.size, h.size], ?_, hputne, ?_⟩
    · unfold putG
      rw [setG_ne _ _ (Ne.symm hq0), setG_same, hk0]
      simp [csOf, Function.comp_def]
    · unfold putG
      rw [setG_same, List.getElem?_set, if_pos rfl, if_pos (List.getElem?_eq_some_iff.1 hk1).1]
    · unfold putG
      rw [setG_ne _ _ (Ne.symm hq0), setG_same, hk0]
      simp only [List.drop_succ_cons, List.drop_zero, List.map_map]
      refine List.map_congr_left fun z _ => ?_
      exact hf3 z.v
  have he0 := h.leaf 0 e0 (by rw [hΓ]; simp)
  cases st with
  | nil =>
    obtain ⟨t, rfl, hne, hc⟩ := hl
    injection hc with hc
    injection hc with hc
    subst hc
    have hfar : Place.far ⟨2 * t + 3, k0, []⟩ j = ⟨2 * t + 3, k0 + j, []⟩ := rfl
    rw [hfar] at hr0 hkl hy hs'
    simp only [V.killP] at hr0 hkl hy hs' hne
    replace hs' : (({ s with hd := vs rest } : S B).map (V.kill (2 * t + 3) (k0 + j))).setLeaf (2 * t + 3) (k0 + j) y = s' := hs'
    obtain ⟨x, hx⟩ : ∃ x, (Γ (2 * t + 3))[k0 + j]? = some x := ⟨_, List.getElem?_eq_getElem (by rw [h.root, vs_length] at hkl; exact hkl)⟩
    have hadd : (⟨β t, k0, none⟩ : Addr).add j = ⟨β t, k0 + j, none⟩ := by
      unfold Addr.add
      split
      · rename_i h0; subst h0; rfl
      · rfl
    obtain ⟨ty, hb⟩ := h.bx t hne
    have hyv : y = V.kill (2 * t + 3) (k0 + j) e0.v := by simpa [V.upd] using hy.symm
    have hnD : ∀ b, e0.D b → b ≠ β t := fun b hb' e => h.bdisj 0 e0 t (by rw [hΓ]; simp) hne (e ▸ hb')
    obtain ⟨Γ', k1, k2, k3, k4, k5, k6⟩ := key (V.kill (2 * t + 3) (k0 + j)) (kill_same _ _) (kill_own _ _) (kill_data _ _) (k0 + j) e0.c y e0.D x hx hr0 (fun v p' hp' => .inl (kill_alias hp')) hs' (fun hu => by rcases hu with hu | ⟨u, hu⟩ <;> omega) (fun b hb' => .inr hb')
      (fun b hb' hn hbt => heap_set_ne (by rw [hadd]; exact hbt t rfl))
      (fun u ty' hu hb' => by
        have : u = t := by omega
        subst this
        rw [hadd]
        rw [blk_set hb']
        simp)
      (fun Γ1 hok hst hne1 => by
        rw [hyv]
        rcases kill_same (2 * t + 3) (k0 + j) e0.v with hk | hk
        · rw [hk]
          have hal : ∀ p', Alias e0.v p' → ¬ (p'.r = 2 * t + 3 ∧ p'.k = k0 + j) := fun p' hp' => kill_alias (by rw [hk]; exact hp')
          refine he0.move H hok (fun _ b hb' => heap_set_ne (by rw [hadd]; exact hnD b hb')) (fun p' z hp' hz hzo => ?_) (fun p' u hp' hs hr' hg => ⟨by rw [hr'] at hg ⊢; exact (hne1 u).2 hg, rfl⟩)
          have h00 := (h.aliasOwn (r := 0) (by rw [hΓ]; simp) hp').1
          refine ⟨_, hst _ _ z h00 hz (hal p' hp'), kill_own _ _ _ hzo, rfl, z.D, h.leaf _ z (List.mem_of_getElem? hz), fun b hb' => heap_set_ne (by rw [hadd]; exact fun e => h.bdisj _ z t (List.mem_of_getElem? hz) hne (by have e' : b = β t := e; rw [← e']; exact hb'))⟩
        · rw [hk]; trivial)
    refine ⟨Γ', k1, k2, k3, ⟨t, rfl, (k5 t).2 hne, rfl⟩, ?_, ?_, k6⟩
    · rw [hadd, blk_cell hb]
      simp [csOf, hx]
    · rw [hadd]; exact blk_frozen hb _
  | cons z st =>
    obtain ⟨hq0, x, ad', hx, ha, hc⟩ := hl
    injection hc with hc
    injection hc with hc
    subst hc
    simp only at hq0 hx
    have hfar : Place.far ⟨q, k0, z :: st⟩ j = ⟨q, k0, farL j (z :: st)⟩ := rfl
    rw [hfar] at hr0 hkl hy hs' hnd
    simp only at hr0 hkl hy hs' hnd
    have hleafx : s.leaf q k0 = x.v := by
      unfold S.leaf
      rw [h.root, List.getD_eq_getElem?_getD]
      simp [vs, hx]
    rw [hleafx] at hy
    have hfne := farL_ne j (z :: st) (by simp)
    have hwd : (V.walk std x.v (farL j (z :: st))).isDead = false := by
      have : ¬ (S.get std s ⟨q, k0, farL j (z :: st)⟩).isDead = true := fun e => hnd ⟨hfne, e⟩
      have e2 : S.get std s ⟨q, k0, farL j (z :: st)⟩ = V.walk std x.v (farL j (z :: st)) := by show V.walk std (s.leaf q k0) _ = _; rw [hleafx]
      rw [e2] at this
      simpa using this
    have haf := AddrR.far H j ha hwd
    have hlx := h.leaf q x (List.mem_of_getElem? hx)
    obtain ⟨zi, zo⟩ := z
    have ha' := ha
    obtain ⟨e, l, hxv, _⟩ := ha'
    rw [hxv] at hlx ha haf hy
    obtain ⟨n', hlx⟩ := hlx
    obtain ⟨uu, mm, DD, h1, h2, h3, h4⟩ := AddrR.leaf H haf hlx
    have hdat' := hdat (by simp)
    obtain ⟨m0, ho0⟩ := own_of_leaf he0 hdat'
    have hfn := hfne
    obtain ⟨f0, fs0, hfl0⟩ : ∃ f0 fs0, farL j ((zi, zo) :: st) = f0 :: fs0 := by
      cases hfl : farL j ((zi, zo) :: st) with
      | nil => exact absurd hfl hfne
      | cons f fs => exact ⟨f, fs, rfl⟩
    have hkP : ∀ v : VT B, V.killP ⟨q, k0, farL j ((zi, zo) :: st)⟩ v = V.killE q k0 v := fun v => by simp only [V.killP, hfl0]
    have hkF : (V.killP ⟨q, k0, farL j ((zi, zo) :: st)⟩ : VT B → VT B) = V.killE q k0 := funext hkP
    rw [hkF] at hs' hy
    have hkv : V.killE q k0 e0.v = e0.v := by
      cases hv : e0.v with
      | lit u => rfl
      | own e l => rfl
      | _ => rw [hv] at hdat'; cases hdat'
    rw [hkv] at hy
    have hblk1 : x.D (ad.add j).block := AddrR.block H haf hlx
    have hdisj : ∀ b, e0.D b → ¬ x.D b := by
      intro b hb hb'
      have := h.disj 0 0 q k0 e0 x (by rw [hΓ]; rfl) hx b hb hb'
      exact hq0 this.1.symm
    have ho0' : Own (w.setCell (ad.add j) e0.c) m0 e0.v e0.c e0.D := ho0.move (fun b hb => heap_set_ne (fun e => hdisj b hb (e ▸ hblk1)))
    obtain ⟨n2, hnew⟩ := Own.upd H hlx haf hy ho0' hdisj
    have hyo : ∃ l', y = .own e l' := by
      cases hfl : farL j ((zi, zo) :: st) with
      | nil => exact absurd hfl hfne
      | cons f fs =>
        rw [hfl] at hy
        obtain ⟨fi, fo⟩ := f
        simp only [V.upd, Option.bind_eq_some_iff, Option.map_eq_some_iff] at hy
        obtain ⟨_, _, z', _, rfl⟩ := hy
        exact ⟨_, rfl⟩
    obtain ⟨l', hyl⟩ := hyo
    obtain ⟨Γ', k1, k2, k3, k4, k5, k6⟩ := key (V.killE q k0) (killE_same _ _) (killE_own _ _) (killE_data _ _) k0 x.c y (fun b => x.D b ∨ e0.D b) x hx hq0 (fun v p' hp' => (killE_alias hp').imp id fun e => ⟨e.1, e.2, rfl, by rw [hyl]; rfl⟩) hs' (fun _ => rfl) (fun b hb => hb)
      (fun b hb hn _ => heap_set_ne (fun e => hn (e ▸ hblk1)))
      (fun t ty ht hb => by
        have hne : Γ (2 * t + 3) ≠ [] := by rw [← ht]; exact List.ne_nil_of_length_pos (by have := (List.getElem?_eq_some_iff.1 hx).1; omega)
        rw [heap_set_ne (fun e => h.bdisj q x t (List.mem_of_getElem? hx) hne (by rw [e]; exact hblk1)), hb]
        congr 3
        refine (List.ext_getElem? fun i => ?_)
        rw [List.getElem?_set]
        split
        · rename_i hi
          subst hi
          have hlt := (List.getElem?_eq_some_iff.1 hx).1
          rw [if_pos (by rw [cs_length]; exact hlt)]
          simp [csOf, hx]
        · rfl)
      (fun Γ1 _ _ _ => by rw [hyl] at hnew ⊢; exact ⟨n2, hnew⟩)
    refine ⟨Γ', k1, k2, k3, ?_, by rw [h1]; rfl, h2, k6⟩
    exact ⟨hq0, _, ad, k4, AddrR.after H (cxv := e0.v) j ha haf hlx hy, rfl⟩
end
end Go.I

/-! ISem17 -/
set_option linter.unusedVariables false
set_option linter.unusedSimpArgs false
namespace Go.I
open Go.RowKit Go.Proofs.YtogfddilolannaaDoorW.PrintWords
section
variable {P : Program} {B : Tab} {M : FuncId → List Md} {F : FuncId → Option (Fi B)} {kl : KL}
variable {X : Base B} {a : Act} {β : Nat → Nat} {o : Oper} {n : Nat} {k : S B → Tr B} {r : Res B} {Q : Exit → Act → World → Prop}
theorem Rel.putN (H : TabE B) (hro : ∀ t b, ¬ X.ro t b) {p : Place} {ad : Addr} : ∀ (m j : Nat) {s s' : S B} {w : World} {Γ : Gh B}, Rel X s a w Γ β → LeafR X (okB X Γ β w) Γ β w (.ptr p) (.pointer (some ad)) none_ → m ≤ (Γ 0).length →
    (∀ c ∈ csOf (Γ 0), c.oneCell' = true) → S.putN std s p j m = some s' →
    ∃ Γ' w', Rel X s' a w' Γ' β ∧ csOf (Γ' 0) = (csOf (Γ 0)).drop m ∧ s'.tm.length = s.tm.length ∧ (storeCells ad ((csOf (Γ 0)).take m) j).run P w = .ok () w'
  | 0, j, s, s', w, Γ, h, _, _, _, hp => by
    simp only [S.putN, Option.some.injEq] at hp
    subst hp
    exact ⟨Γ, w, h, rfl, rfl, by simp [storeCells]⟩
  | m + 1, j, s, s', w, Γ, h, hl, hm, hone, hp => by
    simp only [S.putN, Option.bind_eq_some_iff] at hp
    obtain ⟨s1, h1, h2⟩ := hp
    cases hΓ : Γ 0 with
    | nil => rw [hΓ] at hm; simp at hm
    | cons e0 rest =>
      obtain ⟨Γ1, k1, k2, k3, k4, k5, k6, _⟩ := h.put1 H hro hl hΓ h1
      have hone1 : ∀ c ∈ csOf (Γ1 0), c.oneCell' = true := by
        intro c hc
        rw [k2] at hc
        exact hone c (by rw [hΓ]; exact List.mem_cons_of_mem _ hc)
      have hl1 : (Γ1 0).length = rest.length := by rw [← cs_length, k2, cs_length]
      obtain ⟨Γ2, w2, m1, m2, m3, m4⟩ := Rel.putN H hro m (j + 1) k1 k4 (by rw [hΓ] at hm; simp at hm; omega) hone1 h2
      refine ⟨Γ2, w2, m1, ?_, m3.trans k3, ?_⟩
      · rw [m2, k2]; rfl
      · have e1 : csOf (e0 :: rest) = e0.c :: csOf rest := rfl
        rw [e1, List.take_succ_cons]
        have hc0 : e0.c.oneCell' = true := hone _ (by rw [hΓ]; simp [csOf])
        obtain ⟨u, hu⟩ := Option.isSome_iff_exists.1 k5
        simp only [storeCells, Sem.run_bind]
        rw [run_store P w _ _ _ hc0, hu]
        simp only [k6, Bool.false_eq_true, if_false, Result.andThen_ok]
        rw [k2] at m4
        exact m4
theorem cells_of_WR {x : WT B} {c : Value} {cs : List Value} (h : WR x c cs) (ht : x.isTup = false) (h1 : ∀ v ∈ cs, v.oneCell' = true) : c.cells.toList = cs := by
  cases x with
  | one v =>
    have hcs : cs = [c] := h
    subst hcs
    have := h1 c (by simp)
    cases c <;> first | rfl | simp [Value.oneCell'] at this
  | agg l =>
    have hc : c = .agg cs.toArray := h
    rw [hc]; rfl
  | tup l => cases ht
variable {s : S B} {w : World} {Γ : Gh B}
theorem op_store (H : TabP P B) (hro : ∀ t b, ¬ X.ro t b) (h : Rel X s a w Γ β) (hh : s.hd = []) {t : TypeId} {ax x : Operand} (ho : o.op = .store t ax x) (hg : G std M F n kl (stepOp std M o s k) r) : o.wp P a w (Done X M F kl s.tm.length n k r) Q := by
  simp only [stepOp, ho] at hg
  split at hg
  · rename_i g m hlay
    split at hg
    · exact (G.no_inv hg).elim
    rename_i hnt
    have hnt : (s.peek t x).isTup = false := by simpa using hnt
    obtain ⟨s1, h1, hg⟩ := G.ofOpt_inv hg
    obtain ⟨Γ1, E, k1, k2, k3, k4, k5, k6⟩ := h.take H.toTabE h1
    rw [h.hd0 hh] at k2
    have hcs : csOf (Γ1 0) = csOf E := by simpa [csOf] using k2
    split at hg
    · rename_i p hp
      obtain ⟨E2, hE2⟩ := k1.peek 0 ax
      rw [hp] at hE2
      obtain ⟨D, hl, hD, rfl⟩ := hE2.one
      have e : ∃ ad, a.eval ax = .pointer (some ad) := by
        simp only [LeafR] at hl
        cases hs : p.st with
        | nil => rw [hs] at hl; obtain ⟨t, _, _, h3⟩ := hl; exact ⟨_, h3⟩
        | cons y st => rw [hs] at hl; obtain ⟨_, _, ad, _, _, h3⟩ := hl; exact ⟨ad, h3⟩
      obtain ⟨ad, e⟩ := e
      rw [e] at hl
      split at hg
      · rename_i hlen
        obtain ⟨s2, h2, hg⟩ := G.ofOpt_inv hg
        have hm : (Γ1 0).length = m := by rw [← hlen, show s1.hd = vs (Γ1 0) from k1.root 0, vs_length]
        obtain ⟨Γ2, w2, m1, m2, m3, m4⟩ := Rel.putN (P := P) H.toTabE hro m 0 k1 (LeafR.any hl rfl) (by omega) (by rw [hcs]; exact k6) h2
        have hcells : (a.eval x).cells.toList = csOf E := cells_of_WR k5 hnt k6
        obtain ⟨d, i, q1, q2, q3, q4, q5, q6⟩ := H.lay_ok t g m hlay
        have hsz : (a.eval x).cells.size = m := by rw [← Array.length_toList, hcells, ← hcs, cs_length, hm]
        rw [show m = (csOf (Γ1 0)).length by rw [cs_length, hm]] at m2 m4
        rw [List.take_length, hcs, ← hcells] at m4
        rw [List.drop_length] at m2
        have hrun : (execOp a.eval o).run P w = .ok .skip w2 := by
          have e0 : (Instr.sureAddr (.pointer (some ad))).run P w = .ok ad w := rfl
          simp [execOp, ho, e, Instr.storeAt, e0, storeVar, run_sizeOf_info q3, q4, hsz, m4]
        unfold Oper.wp
        rw [hrun]
        -- the state behind it
        have hg0 : Γ2 0 = [] := by
          have : (Γ2 0).length = 0 := by rw [← cs_length, m2]; rfl
          exact List.eq_nil_of_length_eq_zero this
        have hh2 : s2.hd = [] := by rw [show s2.hd = vs (Γ2 0) from m1.root 0, hg0]; rfl
        show Done X M F kl s.tm.length n k r (a.put o.dst undef) w2
        have hput : ∃ Γ3, Rel X (s2.def_ o.dst (.one .dead)) (a.put o.dst undef) w2 Γ3 β ∧ (s2.def_ o.dst (.one .dead)).hd = [] ∧ (s2.def_ o.dst (.one .dead)).tm.length = s2.tm.length :=
          m1.defS H.toTabE hh2 (x := .one .dead) (c := undef) (E := [⟨.dead, undef, none_⟩]) ⟨rfl, rfl, fun y hy => by simp at hy; subst hy; exact ⟨trivial, fun b hb => hb⟩⟩ o.dst
        obtain ⟨Γ3, p1, p2, p3⟩ := hput
        exact ⟨_, Γ3, β, n, Nat.le_refl _, p1, p2, by rw [p3, m3, k3], hg⟩
      · exact (G.no_inv hg).elim
    · exact (G.no_inv hg).elim
  · exact (G.no_inv hg).elim
end
end Go.I

/-! ISemB -/
set_option linter.unusedVariables false
set_option linter.unusedSimpArgs false
namespace Go.I
open Go.RowKit Go.Proofs.YtogfddilolannaaDoorW.PrintWords
section
variable {P : Program} {B : Tab} {M : FuncId → List Md} {F : FuncId → Option (Fi B)} {kl : KL}
variable {X : Base B} {s : S B} {a : Act} {w : World} {Γ : Gh B} {β : Nat → Nat} {o : Oper} {n : Nat} {k : S B → Tr B} {r : Res B} {Q : Exit → Act → World → Prop}
theorem G.guards_inv : ∀ {bs : List Bool} {k : Tr B}, G std M F n kl (guardsT bs k) r → (∀ b ∈ bs, b = true) ∧ G std M F n kl k r
  | [], k, h => ⟨fun _ h => (by cases h), h⟩
  | b :: bs, k, h => by
    obtain ⟨h1, h2⟩ := G.guard_inv h
    obtain ⟨h3, h4⟩ := G.guards_inv h2
    exact ⟨fun c hc => by rcases List.mem_cons.1 hc with rfl | hc; exact h1; exact h3 c hc, h4⟩
/-- A builder of one's own has been laid. -/
theorem op_allocB (H : TabP P B) (h : Rel X s a w Γ β) (hh : s.hd = []) {e : TypeId} (ho : o.op = .alloc e) (he : e = B.bldT ∧ e ≠ 0) (hg : G std M F n kl (k (({ s with hd := [.bld ⟨#[]⟩] } : S B).lay o.dst (.one .dead))) r) : o.wp P a w (Done X M F kl s.tm.length n k r) Q := by
  obtain ⟨rfl, he0⟩ := he
  obtain ⟨i, v, q1, q2, q3⟩ := H.bldZ he0
  have hrun : (execOp a.eval o).run P w = .ok (.value (.pointer (some ⟨w.heap.size, 0, none⟩))) (w.alloc (.cells #[.pointer none, .slice none 0 0] B.bldT (0, 0))) := by
    simp [execOp, ho, Instr.alloc, zeroValue, typeInfo, q1, q2, newVar, newRow, q3]
  refine wp_value hrun ?_
  have hb : BldR B (w.alloc (.cells #[.pointer none, .slice none 0 0] B.bldT (0, 0))) ⟨#[]⟩ (.pointer (some ⟨w.heap.size, 0, none⟩)) (fun b => b = w.heap.size) :=
    ⟨w.heap.size, .pointer none, .slice none 0 0, rfl, rfl, heap_alloc_new w _, .inl rfl, World.ownsRowF_nil _ _ _ _, by simp [Value.ownBlock], fun g hg => by simp [Value.ownBlock] at hg⟩
  have m1 := h.reH H.toTabE (w' := w.alloc (.cells #[.pointer none, .slice none 0 0] B.bldT (0, 0))) [⟨.bld ⟨#[]⟩, .pointer (some ⟨w.heap.size, 0, none⟩), fun b => b = w.heap.size⟩]
    (fun _ y hy => by simp at hy; subst hy; exact hb)
    (fun j k x y hx hy b _ _ => by
      have h1 := (List.getElem?_eq_some_iff.1 hx).1
      have h2 := (List.getElem?_eq_some_iff.1 hy).1
      simp at h1 h2
      omega)
    (fun y hy b hb => by simp at hy; subst hy; have : b = w.heap.size := hb; exact .inr ⟨by omega, by simp; omega⟩)
    (fun b hb _ => Below.heap_alloc w _ b hb) (by simp) rfl rfl rfl
  exact done_lay H.toTabE m1 (x := .one .dead) (by rw [setG_same]; rfl) (by rw [setG_same]; rfl) hg
theorem run_enterB {f : FuncId} {fn : Func} {c : Code} (hf : P.funcs[f]? = some fn) (hb : fn.body = some c) (hn : (fn.name == "runtime.NumGoroutine") = false) {args : Array Operand} {ats : Array TypeId}
    {fx : Operand} (ho : o.op = .call { callee := .value fx, args := args, argTypes := ats }) (e : a.eval fx = .func (.func f) #[] #[]) (w : World) : (execOp a.eval o).run P w = .ok (.enter f (args.map a.eval)) w := by
  have hn' : ¬ fn.name = "runtime.NumGoroutine" := by simpa using hn
  simp [execOp, ho, resolve, e, Deferred.ofValue, invoke, callFunc, hf, hn', hb]
/-- A builder of one's own, and what its function leaves of it. -/
theorem bld_done (H : TabP P B) (h : Rel X s a w Γ β) (hh : s.hd = []) {t : Nat} {y : Ent B} (hy : (Γ (2 * t + 2))[0]? = some y) {x' : ByteArray} {w' : World} (hb : BldN B w y.D w' x' y.c) {R : WT B} {U : Value} {E : List (Ent B)} (hp : ∀ Γ' : Gh B, Peek X Γ' β w' R U E)
    (hg : G std M F n kl (k ((s.bldPut t x').def_ o.dst R)) r) : Done X M F kl s.tm.length n k r (a.put o.dst U) w' := by
  obtain ⟨D', b1, b2, b3, b4, b5, b6, b7⟩ := hb
  have m0 := h.map H.toTabE (V.kill (2 * t + 2) 0) (kill_same _ _) (kill_own _ _)
  generalize hGk : (fun r => (Γ r).map fun x : Ent B => { x with v := V.kill (2 * t + 2) 0 x.v }) = Γk at m0
  have hyk : (Γk (2 * t + 2))[0]? = some { y with v := V.kill (2 * t + 2) 0 y.v } := by rw [← hGk]; simp [hy]
  have m1 := m0.setL H.toTabE (m := 0) (r := 2 * t + 2) (k := 0) (by omega) hyk (w' := w') (v := .bld x') (c := y.c) (D := D')
    (fun q x p hx hp => by
      rw [← hGk] at hx
      obtain ⟨z, _, rfl⟩ := List.mem_map.1 hx
      exact .inl (kill_alias hp))
    b1 (fun _ => rfl) (fun b hb => (b2 b hb).elim .inl fun h => .inr (.inr h)) (fun b hlt hn _ => b3 b hlt hn) (fun u ty e => by omega) b4 b5 b6 b7 (.inl fun u e => by omega)
  have m1 : Rel X (s.bldPut t x') a w' (putG Γk 0 (2 * t + 2) 0 ⟨.bld x', y.c, D'⟩) β := m1
  have hhd : (s.bldPut t x').hd = [] := by
    have := m1.root 0
    rw [show (s.bldPut t x').root 0 = (s.bldPut t x').hd from rfl] at this
    rw [this, putG, setG_ne _ _ (by omega), setG_same, ← hGk]
    simp [h.hd0 hh, vs]
  have hlen : (s.bldPut t x').tm.length = s.tm.length := by rw [m1.size, h.size]
  rw [← hlen]
  exact (done_def H.toTabE m1 hhd (hp _) hg).2
theorem op_bld (H : TabP P B) (h : Rel X s a w Γ β) (hh : s.hd = []) {fx : Operand} {args : Array Operand} {ats : Array TypeId} {f : FuncId} {kd : BK}
    (ho : o.op = .call { callee := .value fx, args := args, argTypes := ats }) (hev : a.eval fx = .func (.func f) #[] #[]) (hk : B.bldOp f = some kd) (hg : G std M F n kl (bldStep std kd o s args.toList k) r) : o.wp P a w (Done X M F kl s.tm.length n k r) Q := by
  obtain ⟨⟨fn, c, f1, f2, f3⟩, hc⟩ := H.bldF f kd hk
  unfold bldStep at hg
  split at hg
  case h_2 => exact (G.no_inv hg).elim
  rename_i t ys hargs
  split at hg
  case h_2 => exact (G.no_inv hg).elim
  rename_i x hx
  obtain ⟨z, hz, hg⟩ := G.ofOpt_inv hg
  obtain ⟨hgs, hg⟩ := G.guards_inv hg
  have htl : t < s.tm.length := by
    rcases Nat.lt_or_ge t s.tm.length with h | h
    · exact h
    · rw [List.getD_eq_getElem?_getD, List.getElem?_eq_none h] at hx; cases hx
  have hx' : s.tm[t]? = some (.one (.bld x)) := by
    rw [List.getD_eq_getElem?_getD, List.getElem?_eq_getElem htl] at hx
    rw [List.getElem?_eq_getElem htl]
    exact congrArg some hx
  have hta : t < a.tmps.size := by rw [← h.size]; exact htl
  have hrt := h.root (2 * t + 2)
  rw [root_tm, List.getD_eq_getElem?_getD, hx', Option.getD_some] at hrt
  obtain ⟨y, hΓ⟩ : ∃ y, Γ (2 * t + 2) = [y] := by
    have : (Γ (2 * t + 2)).length = 1 := by have := congrArg List.length hrt; simpa [vs, W.leaves] using this.symm
    exact List.length_eq_one_iff.1 this
  have hyv : y.v = .bld x := by rw [hΓ] at hrt; simpa [vs, W.leaves] using hrt.symm
  have hwr := h.tm t _ _ hx' (Array.getElem?_eq_getElem hta)
  have hyc : a.eval (.tmp t) = y.c := by
    rw [hΓ] at hwr
    have : [y.c] = [a.tmps[t]] := hwr
    injection this with this
    simp [Act.eval, hta, this]
  have hy : (Γ (2 * t + 2))[0]? = some y := by rw [hΓ]; rfl
  have hbl : BldR B w x y.c y.D := by
    have := h.leaf (2 * t + 2) y (by rw [hΓ]; simp)
    rw [hyv] at this
    exact this
  have hdl : ∀ b, y.D b → b < w.heap.size := fun b hb => (h.dlt (2 * t + 2) y b (by rw [hΓ]; simp) hb).1
  have hcc := hc w x y.c y.D hbl hdl
  have fin : ∀ {x' : ByteArray} {V : Value} {R : WT B} {E : List (Ent B)}, (∀ w' (Γ' : Gh B), Peek X Γ' β w' R V E) → Calls P f (args.map a.eval) w (fun e w' => e = .returned V ∧ BldN B w y.D w' x' y.c) → G std M F n kl (k ((s.bldPut t x').def_ o.dst R)) r → o.wp P a w (Done X M F kl s.tm.length n k r) Q := by
    intro x' V R E hp hcall hg
    unfold Oper.wp
    rw [run_enterB f1 f2 f3 ho hev w]
    rw [Oper.upon_enter]
    refine Calls.mono hcall fun e w1 he => ?_
    obtain ⟨rfl, hN⟩ := he
    exact bld_done H h hh hy hN (hp w1) hg
  have hval : ∀ {vs' : List Value}, ys.map a.eval = vs' → args.map a.eval = (y.c :: vs').toArray := by
    intro vs' e
    apply Array.toList_inj.1
    simp only [Array.toList_map, hargs, List.map_cons, hyc, e]
  unfold bldRes at hz
  split at hz
  · rename_i m hys
    injection hz with hz
    subst hz
    simp only [List.mem_cons, List.not_mem_nil, or_false, forall_eq_or_imp, forall_eq] at hgs
    obtain ⟨g1, g2, g3⟩ := hgs
    have g1 : 0 ≤ m := by simpa [std] using g1
    have g2 : m ≤ 255 := by simpa [std] using g2
    have g3 : (x.size : Int) < 140737488355328 := by simpa [std] using g3
    obtain ⟨u, hu1, hu2⟩ := List.map_eq_singleton_iff.1 hys
    refine fin (fun w' Γ' => peek_lit X Γ' β w' .nilIface rfl) ?_ hg
    rw [hval (vs' := [.int .u8 m]) (by rw [hu1, List.map_cons, h.litPeek hu2]; rfl)]
    exact hcc m g1 g2 (by omega)
  · rename_i z hys
    injection hz with hz
    subst hz
    simp only [List.mem_cons, List.not_mem_nil, or_false, forall_eq] at hgs
    have g1 : (x.size : Int) + z.size ≤ 140737488355328 := by simpa [std] using hgs
    obtain ⟨u, hu1, hu2⟩ := List.map_eq_singleton_iff.1 hys
    refine fin (V := .tuple #[.int .i64 z.size, .nilIface]) (E := [⟨.lit (.int .i64 z.size), .int .i64 z.size, none_⟩, ⟨.lit .nilIface, .nilIface, none_⟩]) (fun w' Γ' => ⟨rfl, ?_, ?_⟩) ?_ hg
    · exact ⟨[[.int .i64 z.size], [.nilIface]], rfl, rfl, rfl⟩
    · intro e he
      simp only [List.mem_cons, List.not_mem_nil, or_false] at he
      rcases he with rfl | rfl
      · exact ⟨⟨rfl, rfl⟩, fun b hb => hb⟩
      · exact ⟨⟨rfl, rfl⟩, fun b hb => hb⟩
    · rw [hval (vs' := [.string z]) (by rw [hu1, List.map_cons, h.litPeek hu2]; rfl)]
      exact hcc z (by omega)
  · rename_i hys
    injection hz with hz
    subst hz
    refine fin (fun w' Γ' => peek_lit X Γ' β w' (.string x) rfl) ?_ hg
    rw [hval (vs' := []) (by rw [List.map_eq_nil_iff.1 hys]; rfl)]
    exact hcc
  · rename_i hys
    injection hz with hz
    subst hz
    refine fin (fun w' Γ' => peek_lit X Γ' β w' (.int .i64 x.size) rfl) ?_ hg
    rw [hval (vs' := []) (by rw [List.map_eq_nil_iff.1 hys]; rfl)]
    exact hcc
  · cases hz
end
end Go.I

/-! ISem18 -/
set_option linter.unusedVariables false
set_option linter.unusedSimpArgs false
namespace Go.I
open Go.RowKit Go.Proofs.YtogfddilolannaaDoorW.PrintWords
section
variable {P : Program} {B : Tab} {M : FuncId → List Md} {F : FuncId → Option (Fi B)} {kl : KL}
variable {X : Base B} {a : Act} {β : Nat → Nat} {o : Oper} {n : Nat} {k : S B → Tr B} {r : Res B} {Q : Exit → Act → World → Prop}
variable {s : S B} {w : World} {Γ : Gh B}
/-- Zero leaves, as entries. -/
theorem zr_entries (X : Base B) (ok : Nat → Prop) (Γ : Gh B) (β : Nat → Nat) (w : World) : ∀ (z : List (VT B)) (cs : List Value), ZR z cs → ∃ E : List (Ent B), vs E = z ∧ csOf E = cs ∧ (∀ y ∈ E, y.D = none_) ∧
    (∀ y ∈ E, y.c.oneCell' = true) ∧ ∀ y ∈ E, (∃ u, y.v = .lit u ∧ y.c = u) ∨ ∃ e, y.v = .own e [] ∧ y.c = .slice none 0 0
  | [], [], _ => ⟨[], rfl, rfl, (fun y hy => by cases hy), (fun y hy => by cases hy), fun y hy => by cases hy⟩
  | .lit v :: zs, c :: cs, h => by
    obtain ⟨h1, h2, h3⟩ := h
    obtain ⟨E, k1, k2, k3, k4, k5⟩ := zr_entries X ok Γ β w zs cs h3
    refine ⟨⟨.lit v, c, none_⟩ :: E, by simp [vs, ← k1], by simp [csOf, ← k2], fun y hy => ?_, fun y hy => ?_, fun y hy => ?_⟩
    · rcases List.mem_cons.1 hy with rfl | hy
      · rfl
      · exact k3 y hy
    · rcases List.mem_cons.1 hy with rfl | hy
      · rw [h1]; exact h2
      · exact k4 y hy
    · rcases List.mem_cons.1 hy with rfl | hy
      · exact .inl ⟨v, rfl, h1⟩
      · exact k5 y hy
  | .own e [] :: zs, c :: cs, h => by
    obtain ⟨h1, h3⟩ := h
    obtain ⟨E, k1, k2, k3, k4, k5⟩ := zr_entries X ok Γ β w zs cs h3
    refine ⟨⟨.own e [], c, none_⟩ :: E, by simp [vs, ← k1], by simp [csOf, ← k2], fun y hy => ?_, fun y hy => ?_, fun y hy => ?_⟩
    · rcases List.mem_cons.1 hy with rfl | hy
      · rfl
      · exact k3 y hy
    · rcases List.mem_cons.1 hy with rfl | hy
      · show c.oneCell' = true
        rw [h1]; rfl
      · exact k4 y hy
    · rcases List.mem_cons.1 hy with rfl | hy
      · exact .inr ⟨e, rfl, h1⟩
      · exact k5 y hy
theorem zr_leaf {ok : Nat → Prop} {Γ : Gh B} {β : Nat → Nat} {w : World} {y : Ent B} (h1 : y.c.oneCell' = true) (h : (∃ u, y.v = .lit u ∧ y.c = u) ∨ ∃ e, y.v = .own e [] ∧ y.c = .slice none 0 0) {D : Nat → Prop} : LeafR X ok Γ β w y.v y.c D := by
  rcases h with ⟨u, e1, e2⟩ | ⟨e, e1, e2⟩
  · rw [e1]; exact ⟨e2, by rw [← e2]; exact h1⟩
  · rw [e1, e2]; exact LeafR.nil e
/-- The hand becomes memory, whatever tells of its name killed ahead. -/
theorem Rel.boxK (H : TabE B) (h : Rel X s a w Γ β) (hne : s.hd ≠ []) (d ty : Nat) (hdl : d < s.tm.length) (s' : S B) (hs' : s' = (s.killR (2 * d + 3)).killR (2 * d + 2)) :
    ∃ Γ' β', Rel X ⟨[], setAt s'.tm d (.one (.ptr ⟨2 * d + 3, 0, []⟩)), setAt s'.bx d s'.hd, s'.gh⟩ (a.put (some d) (.pointer (some ⟨w.heap.size, 0, none⟩))) (w.alloc (.cells (csOf (Γ 0)).toArray ty (0, 0))) Γ' β' := by
  have h1 := (h.map H (V.killR (2 * d + 3)) (killR_same _) (killR_own _)).map H (V.killR (2 * d + 2)) (killR_same _) (killR_own _)
  generalize hG : (fun r => ((fun r => (Γ r).map fun x : Ent B => { x with v := V.killR (2 * d + 3) x.v }) r).map fun x : Ent B => { x with v := V.killR (2 * d + 2) x.v }) = G at h1
  have hs2 : s' = (s.map (V.killR (2 * d + 3))).map (V.killR (2 * d + 2)) := hs'
  rw [← hs2] at h1
  have hcs : csOf (G 0) = csOf (Γ 0) := by rw [← hG]; simp [csOf, Function.comp_def]
  have hne0 : G 0 ≠ [] := by
    have hΓ : Γ 0 ≠ [] := fun e => hne (by rw [show s.hd = vs (Γ 0) from h.root 0, e]; rfl)
    rw [← hG]; simpa using hΓ
  have hmem : ∀ q x, x ∈ G q → ∃ z : VT B, x.v = V.killR (2 * d + 2) (V.killR (2 * d + 3) z) := by
    intro q x hx
    rw [← hG] at hx
    obtain ⟨y, hy, rfl⟩ := List.mem_map.1 hx
    obtain ⟨z, hz, rfl⟩ := List.mem_map.1 hy
    exact ⟨z.v, rfl⟩
  have hsame : ∀ (u : VT B), V.killR (2 * d + 2) u = u ∨ V.killR (2 * d + 2) u = .dead := killR_same _
  have hd : d < s'.tm.length := by rw [hs']; simpa [S.killR, S.map] using hdl
  have m := h1.boxH H (d := d) (ty := ty) (fun q x p hx hp => ?_) (fun q x p hx hp => ?_) hd hne0
  · rw [hcs] at m
    exact ⟨_, _, m⟩
  · obtain ⟨z, hz⟩ := hmem q x hx
    rw [hz] at hp
    exact killR_alias (.inl hp)
  · obtain ⟨z, hz⟩ := hmem q x hx
    rw [hz] at hp
    rcases hsame (V.killR (2 * d + 3) z) with e | e
    · rw [e] at hp; exact killR_alias hp
    · rw [e] at hp
      rcases hp with (hp | ⟨hp, _⟩) | hp <;> cases hp
theorem op_box (H : TabP P B) (h : Rel X s a w Γ β) (hh : s.hd = []) {e : TypeId} {x : Operand} (ho : o.op = .box e x) (hg : G std M F n kl (stepOp std M o s k) r) : o.wp P a w (Done X M F kl s.tm.length n k r) Q := by
  simp only [stepOp, ho] at hg
  split at hg
  · rename_i d hd
    split at hg
    · exact (G.no_inv hg).elim
    rename_i hnt
    have hnt : (s.peek e x).isTup = false := by simpa using hnt
    obtain ⟨s1, h1, hg⟩ := G.ofOpt_inv hg
    obtain ⟨Γ1, E, k1, k2, k3, k4, k5, k6⟩ := h.take H.toTabE h1
    rw [h.hd0 hh] at k2
    have hcs : csOf (Γ1 0) = csOf E := by simpa [csOf] using k2
    split at hg
    · exact (G.no_inv hg).elim
    rename_i hne
    have hdl : d < s1.tm.length := by
      rcases Nat.lt_or_ge d s1.tm.length with h | h
      · exact h
      · exact absurd (.inr (by simpa [S.killR, S.map] using h)) hne
    have hne1 : s1.hd ≠ [] := by
      intro e1
      apply hne
      left
      simp [S.killR, S.map, e1]
    obtain ⟨Γ2, β2, m1⟩ := k1.boxK H.toTabE hne1 d e hdl _ rfl
    have hcells : (a.eval x).cells.toList = csOf E := cells_of_WR k5 hnt k6
    have hc2 : (a.eval x).cells = (csOf (Γ1 0)).toArray := by rw [hcs, ← hcells]
    have hrun : (execOp a.eval o).run P w = .ok (.value (.pointer (some ⟨w.heap.size, 0, none⟩))) (w.alloc (.cells (csOf (Γ1 0)).toArray e (0, 0))) := by
      simp [execOp, ho, Instr.box, newVar, newRow, hc2]
    refine wp_value hrun ?_
    rw [hd]
    exact ⟨_, Γ2, β2, n, Nat.le_refl _, m1, rfl, by simp [setAt_eq, S.killR, S.map, k3], hg⟩
  · exact (G.no_inv hg).elim
theorem op_alloc (H : TabP P B) (h : Rel X s a w Γ β) (hh : s.hd = []) {e : TypeId} (ho : o.op = .alloc e) (hg : G std M F n kl (stepOp std M o s k) r) : o.wp P a w (Done X M F kl s.tm.length n k r) Q := by
  simp only [stepOp, ho] at hg
  split at hg
  · rename_i he
    exact op_allocB H h hh ho he hg
  split at hg
  · rename_i d z hd hz
    split at hg
    · exact (G.no_inv hg).elim
    rename_i hne
    obtain ⟨i, v, q1, q2, q3⟩ := H.zero_ok e z hz
    obtain ⟨E, k1, k2, k3, k4, k5⟩ := zr_entries X (okB X Γ β w) Γ β w z _ q3
    -- the zeros in the hand
    have h1 := h.reH H.toTabE (w' := w) E (fun _ y hy => zr_leaf (k4 y hy) (k5 y hy)) (fun j k x y hx hy b hb => by rw [k3 x (List.mem_of_getElem? hx)] at hb; exact hb.elim) (fun y hy b hb => by rw [k3 y hy] at hb; exact hb.elim) (fun _ _ _ => rfl) (Nat.le_refl _) rfl rfl rfl
    have hdl : d < s.tm.length := by
      rcases Nat.lt_or_ge d s.tm.length with h | h
      · exact h
      · exact absurd (.inr h) hne
    have hne1 : ({ s with hd := vs E } : S B).hd ≠ [] := by
      intro e1
      apply hne
      left
      have : z = [] := by rw [← k1]; exact e1
      rw [this]; rfl
    obtain ⟨Γ2, β2, m1⟩ := h1.boxK H.toTabE hne1 d e hdl _ rfl
    have hzk : ((({ s with hd := vs E } : S B).killR (2 * d + 3)).killR (2 * d + 2)).hd = z := by
      simp only [S.killR, S.map, List.map_map]
      rw [k1]
      rw [show z = z.map id by simp]
      rw [List.map_map]
      refine List.map_congr_left fun u hu => ?_
      rw [← k1] at hu
      obtain ⟨y, hy, rfl⟩ := List.mem_map.1 hu
      rcases k5 y hy with ⟨u, e1, _⟩ | ⟨e', e1, _⟩ <;> simp [e1, V.killR]
    rw [hzk] at m1
    have hc2 : v.cells = (csOf (setG Γ 0 E 0)).toArray := by rw [setG_same, k2]
    have hrun : (execOp a.eval o).run P w = .ok (.value (.pointer (some ⟨w.heap.size, 0, none⟩))) (w.alloc (.cells (csOf (setG Γ 0 E 0)).toArray e (0, 0))) := by
      simp [execOp, ho, Instr.alloc, zeroValue, typeInfo, q1, q2, newVar, newRow, hc2]
    refine wp_value hrun ?_
    rw [hd]
    refine ⟨_, Γ2, β2, n, Nat.le_refl _, m1, rfl, by simp [setAt_eq, S.killR, S.map], hg⟩
  · exact (G.no_inv hg).elim
end
end Go.I

/-! ISem19 -/
set_option linter.unusedVariables false
set_option linter.unusedSimpArgs false
namespace Go.I
open Go.RowKit Go.Proofs.YtogfddilolannaaDoorW.PrintWords
section
variable {P : Program} {B : Tab} {M : FuncId → List Md} {F : FuncId → Option (Fi B)} {kl : KL}
variable {X : Base B} {a : Act} {β : Nat → Nat} {o : Oper} {n : Nat} {k : S B → Tr B} {r : Res B} {Q : Exit → Act → World → Prop}
variable {s : S B} {w : World} {Γ : Gh B}
/-- Parts into the hand. -/
theorem Rel.takeP (H : TabE B) : ∀ (ps : List (TypeId × Operand × Nat)) {s s' : S B} {Γ : Gh B}, Rel X s a w Γ β → s.takeP ps = some s' →
    ∃ Γ', Rel X s' a w Γ' β ∧ csOf (Γ' 0) = csOf (Γ 0) ++ (ps.map fun p => (a.eval p.2.1).cells.toList).flatten ∧ s'.tm.length = s.tm.length ∧ ∀ p ∈ ps, (a.eval p.2.1).cells.size = p.2.2
  | [], s, s', Γ, h, hg => by
    simp only [S.takeP, Option.some.injEq] at hg
    subst hg
    exact ⟨Γ, h, by simp, rfl, fun p hp => by cases hp⟩
  | (t, x, m) :: ps, s, s', Γ, h, hg => by
    simp only [S.takeP] at hg
    split at hg
    · cases hg
    rename_i hnt
    split at hg
    · rename_i hlen
      rw [Option.bind_eq_some_iff] at hg
      obtain ⟨s1, h1, h2⟩ := hg
      obtain ⟨Γ1, E, k1, k2, k3, k4, k5, k6⟩ := h.take H h1
      obtain ⟨Γ2, m1, m2, m3, m4⟩ := Rel.takeP H ps k1 h2
      have hcells : (a.eval x).cells.toList = csOf E := cells_of_WR k5 (by simpa using hnt) k6
      refine ⟨Γ2, m1, by rw [m2, k2, ← hcells, List.map_cons, List.flatten_cons, List.append_assoc], m3.trans k3, fun p hp => ?_⟩
      rcases List.mem_cons.1 hp with rfl | hp
      · show (a.eval x).cells.size = m
        rw [← Array.length_toList, hcells, cs_length, ← k4, hlen]
      · exact m4 p hp
    · cases hg
/-! ### filling -/
theorem layAt_len {α : Type} : ∀ (vs cs : List α) (o : Nat), (layAt cs o vs).length = cs.length
  | [], cs, o => rfl
  | v :: vs, cs, o => by rw [layAt, layAt_len vs, setAt_eq, List.length_set]
theorem fillV_len {α : Type} : ∀ (ps : List (Nat × Nat)) (h cs : List α), (fillV ps h cs).length = cs.length
  | [], h, cs => rfl
  | (n, o) :: ps, h, cs => by rw [fillV, fillV_len ps, layAt_len]
theorem layAt_map {α γ : Type} (f : α → γ) : ∀ (vs cs : List α) (o : Nat), (layAt cs o vs).map f = layAt (cs.map f) o (vs.map f)
  | [], cs, o => rfl
  | v :: vs, cs, o => by
    rw [List.map_cons, layAt, layAt, layAt_map f vs, setAt_eq, setAt_eq, List.map_set]
theorem fillV_map {α γ : Type} (f : α → γ) : ∀ (ps : List (Nat × Nat)) (h cs : List α), (fillV ps h cs).map f = fillV ps (h.map f) (cs.map f)
  | [], h, cs => rfl
  | (n, o) :: ps, h, cs => by rw [fillV, fillV, fillV_map f ps, layAt_map, List.map_drop, List.map_take]
theorem layAt_mem {α : Type} : ∀ (vs cs : List α) (o : Nat) (y : α), y ∈ layAt cs o vs → y ∈ vs ∨ y ∈ cs
  | [], cs, o, y, h => .inr h
  | v :: vs, cs, o, y, h => by
    rw [layAt, setAt_eq] at h
    rcases layAt_mem vs _ _ y h with h | h
    · exact .inl (List.mem_cons_of_mem _ h)
    · rcases List.mem_or_eq_of_mem_set h with h | rfl
      · exact .inr h
      · exact .inl (List.mem_cons_self ..)
theorem fillV_mem {α : Type} : ∀ (ps : List (Nat × Nat)) (h cs : List α) (y : α), y ∈ fillV ps h cs → y ∈ h ∨ y ∈ cs
  | [], h, cs, y, hy => .inr hy
  | (n, o) :: ps, h, cs, y, hy => by
    rw [fillV] at hy
    rcases fillV_mem ps _ _ y hy with hy | hy
    · exact .inl (List.mem_of_mem_drop hy)
    · rcases layAt_mem _ _ _ y hy with hy | hy
      · exact .inl (List.mem_of_mem_take hy)
      · exact .inr hy
/-- No block belongs to two. -/
def Dis (l : List (Ent B)) : Prop := ∀ (j k : Nat) (x y : Ent B), l[j]? = some x → l[k]? = some y → ∀ b, x.D b → y.D b → j = k
def DisB (l m : List (Ent B)) : Prop := ∀ x ∈ l, ∀ y ∈ m, ∀ b, x.D b → ¬ y.D b
theorem layAt_dis : ∀ (vs cs : List (Ent B)) (o : Nat), Dis vs → Dis cs → DisB vs cs → Dis (layAt cs o vs)
  | [], cs, o, _, h, _ => h
  | v :: vs, cs, o, h1, h2, h3 => by
    rw [layAt, setAt_eq]
    have hv : Dis vs := fun j k x y hx hy b hb hb' => by
      have := h1 (j + 1) (k + 1) x y (by simpa using hx) (by simpa using hy) b hb hb'
      omega
    refine layAt_dis vs _ _ hv ?_ ?_
    · intro j k x y hx hy b hb hb'
      rw [List.getElem?_set] at hx hy
      by_cases hj : o = j <;> by_cases hk : o = k
      · omega
      · rw [if_pos hj] at hx
        rw [if_neg hk] at hy
        split at hx
        · injection hx with hx; subst hx
          exact (h3 v (by simp) y (List.mem_of_getElem? hy) b hb hb').elim
        · cases hx
      · rw [if_neg hj] at hx
        rw [if_pos hk] at hy
        split at hy
        · injection hy with hy; subst hy
          exact (h3 v (by simp) x (List.mem_of_getElem? hx) b hb' hb).elim
        · cases hy
      · rw [if_neg hj] at hx
        rw [if_neg hk] at hy
        exact h2 j k x y hx hy b hb hb'
    · intro x hx y hy b hb hb'
      rcases List.mem_or_eq_of_mem_set hy with hy | rfl
      · exact h3 x (List.mem_cons_of_mem _ hx) y hy b hb hb'
      · obtain ⟨j, hj⟩ := List.getElem?_of_mem hx
        have := h1 (j + 1) 0 x y (by simpa using hj) (by simp) b hb hb'
        omega
theorem fillV_dis : ∀ (ps : List (Nat × Nat)) (h cs : List (Ent B)), Dis h → Dis cs → DisB h cs → Dis (fillV ps h cs)
  | [], h, cs, _, h2, _ => h2
  | (n, o) :: ps, h, cs, h1, h2, h3 => by
    rw [fillV]
    have hd : Dis (h.drop n) := fun j k x y hx hy b hb hb' => by
      rw [List.getElem?_drop] at hx hy
      have := h1 _ _ x y hx hy b hb hb'
      omega
    have ht : Dis (h.take n) := fun j k x y hx hy b hb hb' => by
      rw [List.getElem?_take] at hx hy
      split at hx <;> split at hy
      · exact h1 _ _ x y hx hy b hb hb'
      · cases hy
      · cases hx
      · cases hx
    refine fillV_dis ps _ _ hd (layAt_dis _ _ _ ht h2 fun x hx y hy => h3 x (List.mem_of_mem_take hx) y hy) fun x hx y hy b hb hb' => ?_
    rcases layAt_mem _ _ _ y hy with hy | hy
    · obtain ⟨j, hj⟩ := List.getElem?_of_mem hx
      obtain ⟨i, hi⟩ := List.getElem?_of_mem hy
      rw [List.getElem?_drop] at hj
      rw [List.getElem?_take] at hi
      split at hi
      · have := h1 _ _ x y hj hi b hb hb'
        omega
      · cases hi
    · exact h3 x (List.mem_of_mem_drop hx) y hy b hb hb'
theorem fold_layAt (off : Nat) : ∀ (l : List Value) (cells : Array Value) (j : Nat), ((l.zipIdx j).foldl (fun cs (x : Value × Nat) => cs.setIfInBounds (off + x.2) x.1) cells).toList = layAt cells.toList (off + j) l
  | [], cells, j => rfl
  | v :: l, cells, j => by
    rw [List.zipIdx_cons, List.foldl_cons, fold_layAt off l, layAt, setAt_eq]
    simp [Nat.add_assoc]
/-- The model's filling is the lists'. -/
theorem fill_fillV (place : Nat → Option (Nat × Nat)) : ∀ (ps : List (Nat × Value × Nat × Nat)) (cells : Array Value), (∀ p ∈ ps, place p.1 = some (p.2.2.1, p.2.2.2) ∧ p.2.1.cells.size = p.2.2.2 ∧ p.2.2.1 + p.2.2.2 ≤ cells.size) →
    Instr.fill place cells (ps.map fun p => (p.1, p.2.1)) = some (fillV (ps.map fun p => (p.2.2.2, p.2.2.1)) (ps.map fun p => p.2.1.cells.toList).flatten cells.toList).toArray
  | [], cells, _ => by simp [Instr.fill, fillV]
  | (i, v, off, m) :: ps, cells, h => by
    obtain ⟨h1, h2, h3⟩ := h _ (List.mem_cons_self ..)
    simp only at h1 h2 h3
    simp only [List.map_cons, Instr.fill, h1, List.flatten_cons, fillV]
    rw [if_neg (by simp only [Bool.or_eq_true, decide_eq_true_eq, not_or, Decidable.not_not]; omega)]
    have e1 : v.cells.toList.length = m := by rw [Array.length_toList, h2]
    rw [List.drop_left' e1, List.take_left' e1]
    have hf : (v.cells.zipIdx.foldl (fun cs (x : Value × Nat) => cs.setIfInBounds (off + x.2) x.1) cells).toList = layAt cells.toList off v.cells.toList := by
      rw [← Array.foldl_toList, Array.toList_zipIdx]
      exact fold_layAt off _ _ 0
    have hsz : (v.cells.zipIdx.foldl (fun cs (x : Value × Nat) => cs.setIfInBounds (off + x.2) x.1) cells).size = cells.size := by
      rw [← Array.length_toList, hf, layAt_len, Array.length_toList]
    have := fill_fillV place ps (v.cells.zipIdx.foldl (fun cs (x : Value × Nat) => cs.setIfInBounds (off + x.2) x.1) cells) (fun p hp => by
      obtain ⟨q1, q2, q3⟩ := h p (List.mem_cons_of_mem _ hp)
      exact ⟨q1, q2, by rw [hsz]; exact q3⟩)
    rw [hf] at this
    exact this
/-- The hand's entries still hold where the hand's entries come to lie otherwise. -/
theorem Rel.handLeaf (H : TabE B) (h : Rel X s a w Γ β) {w' : World} {E : List (Ent B)} (hok : ∀ b, okB X Γ β w b → okB X (setG Γ 0 E) β w' b ∧ w'.heap[b]? = w.heap[b]?) {e : Ent B} (he : e ∈ Γ 0)
    (hk : ∀ q x, q ≠ 0 → x ∈ Γ q → ∀ b, x.D b → w'.heap[b]? = w.heap[b]?) (hown : ∀ b, e.D b → w'.heap[b]? = w.heap[b]?) : LeafR X (okB X (setG Γ 0 E) β w') (setG Γ 0 E) β w' e.v e.c e.D := by
  refine (h.leaf 0 e he).move H hok (fun _ => hown) (fun p z hp hz hzo => ?_) (fun p t hp hst hr hg => ⟨?_, rfl⟩)
  · have h0 := (h.aliasOwn he hp).1
    exact ⟨z, by rw [setG_ne _ _ h0]; exact hz, rfl, rfl, z.D, h.leaf _ z (List.mem_of_getElem? hz), hk _ z h0 (List.mem_of_getElem? hz)⟩
  · rw [hr] at hg ⊢
    rw [setG_ne _ _ (by omega)]
    exact hg
/-- The hand's entries otherwise laid, beside zeros: no block is written. -/
theorem Rel.layH (H : TabE B) (h : Rel X s a w Γ β) (E : List (Ent B)) (hm : ∀ y ∈ E, y ∈ Γ 0 ∨ (y.D = none_ ∧ y.c.oneCell' = true ∧ ((∃ u, y.v = .lit u ∧ y.c = u) ∨ ∃ e, y.v = .own e [] ∧ y.c = .slice none 0 0))) (hd : Dis E) :
    Rel X { s with hd := vs E } a w (setG Γ 0 E) β := by
  refine h.reH H (w' := w) E (fun hok y hy => ?_) hd (fun y hy b hb => ?_) (fun _ _ _ => rfl) (Nat.le_refl _) rfl rfl rfl
  · rcases hm y hy with h1 | ⟨_, h2, h3⟩
    · exact h.handLeaf H hok h1 (fun _ _ _ _ _ _ => rfl) (fun _ _ => rfl)
    · exact zr_leaf h2 h3
  · rcases hm y hy with h1 | ⟨h1, _⟩
    · exact .inl ⟨y, h1, hb⟩
    · rw [h1] at hb; exact hb.elim
theorem op_build (H : TabP P B) (h : Rel X s a w Γ β) (hh : s.hd = []) {t : TypeId} {ps : Array (Nat × Operand)} (ho : o.op = .build t ps) (hg : G std M F n kl (stepOp std M o s k) r) : OpS P o a w (DoneS w X M F kl s.tm.length n k r) := by
  simp only [stepOp, ho] at hg
  split at hg
  · rename_i z hz
    split at hg
    · exact (G.no_inv hg).elim
    rename_i hne
    have hne : B.flds t ≠ [] := fun e => hne (by rw [e]; rfl)
    split at hg
    · exact (G.no_inv hg).elim
    rename_i hlt
    have hlt : ∀ p ∈ ps.toList, p.1 < (B.flds t).length := by
      intro p hp
      have := fun e => hlt (List.any_eq_true.2 ⟨p, hp, e⟩)
      simpa using this
    obtain ⟨s1, h1, hg⟩ := G.ofOpt_inv hg
    obtain ⟨Γ1, k1, k2, k3, k4⟩ := h.takeP H.toTabE _ h1
    rw [h.hd0 hh] at k2
    have k2 : csOf (Γ1 0) = (ps.toList.map fun p => (a.eval p.2).cells.toList).flatten := by
      rw [k2]; simp [csOf, Function.comp_def]
    have k4 : ∀ p ∈ ps.toList, (a.eval p.2).cells.size = ((B.flds t).getD p.1 (0, 0)).2 := fun p hp => k4 _ (List.mem_map.2 ⟨p, hp, rfl⟩)
    obtain ⟨i, v, q1, q2, q3⟩ := H.zero_ok t z hz
    obtain ⟨it, zv, place, b1, b2, b3, b4⟩ := H.bld_ok t z hz hne
    rw [q1] at b1
    injection b1 with b1
    subst b1
    rw [q2] at b2
    injection b2 with b2
    subst b2
    obtain ⟨E, e1, e2, e3, e4, e5⟩ := zr_entries X (okB X Γ1 β w) Γ1 β w z _ q3
    have hzl : z.length = v.cells.size := by rw [← e1, vs_length, ← cs_length, e2, Array.length_toList]
    generalize hps : (ps.toList.map fun p => (((B.flds t).getD p.1 (0, 0)).2, ((B.flds t).getD p.1 (0, 0)).1)) = qs at hg
    have hfill := fill_fillV place (ps.toList.map fun p => (p.1, a.eval p.2, ((B.flds t).getD p.1 (0, 0)).1, ((B.flds t).getD p.1 (0, 0)).2)) v.cells (by
      intro p hp
      obtain ⟨p', hp', rfl⟩ := List.mem_map.1 hp
      have hl := hlt p' hp'
      obtain ⟨c1, c2⟩ := b3 p'.1 _ _ (List.getElem?_eq_getElem hl)
      have e : (B.flds t).getD p'.1 (0, 0) = (B.flds t)[p'.1] := by simp [List.getD_eq_getElem?_getD, hl]
      refine ⟨by rw [e]; exact c1, k4 p' hp', by rw [e, ← hzl]; exact c2⟩)
    simp only [List.map_map, Function.comp_def] at hfill
    rw [hps, ← k2, ← e2, ← b4] at hfill
    rw [show csOf (Γ1 0) = (Γ1 0).map (·.c) from rfl, show csOf E = E.map (·.c) from rfl, ← fillV_map] at hfill
    have hm := k1.layH H.toTabE (fillV qs (Γ1 0) E) (fun y hy => by
      rcases fillV_mem _ _ _ y hy with hy | hy
      · exact .inl hy
      · exact .inr ⟨e3 y hy, e4 y hy, e5 y hy⟩) (fillV_dis _ _ _ (fun j k x y hx hy b hb hb' => (k1.disj 0 j 0 k x y hx hy b hb hb').2) (fun j k x y hx hy b hb hb' => by rw [e3 x (List.mem_of_getElem? hx)] at hb; exact hb.elim) (fun x hx y hy b hb hb' => by rw [e3 y hy] at hb'; exact hb'))
    have hvs : vs (fillV qs (Γ1 0) E) = fillV qs s1.hd z := by
      rw [← e1, show s1.hd = vs (Γ1 0) from k1.root 0]; exact fillV_map _ _ _ _
    rw [hvs] at hm
    have hrun : ∀ w, (execOp a.eval o).run P w = .ok (.value (.agg (csOf (fillV qs (Γ1 0) E)).toArray)) w := by
      intro w
      have := run_build (P := P) w t (ps.map fun (i, x) => (i, a.eval x)) _ (by simpa using hfill)
      simp [execOp, ho, this]
      rfl
    refine wp_valueS hrun ⟨rfl, ?_⟩
    rw [← k3]
    refine done_lay H.toTabE hm (x := .agg z) ?_ ?_ hg
    · show Value.agg _ = Value.agg _
      rw [setG_same]
    · rw [setG_same, fillV_len, ← e1]; simp [vs, W.leaves]
  · exact (G.no_inv hg).elim
end
end Go.I

/-! ISem20 -/
set_option linter.unusedVariables false
set_option linter.unusedSimpArgs false
namespace Go.I
open Go.RowKit Go.Proofs.YtogfddilolannaaDoorW.PrintWords
section
variable {P : Program} {B : Tab} {M : FuncId → List Md} {F : FuncId → Option (Fi B)} {kl : KL}
variable {X : Base B} {a : Act} {β : Nat → Nat} {o : Oper} {n : Nat} {k : S B → Tr B} {r : Res B} {Q : Exit → Act → World → Prop}
variable {s : S B} {w : World} {Γ : Gh B}
theorem own_bound {w : World} : ∀ (E : List (Ent B)), (∀ y ∈ E, ∃ n, Own w n y.v y.c y.D) → ∃ n, ∀ y ∈ E, Own w n y.v y.c y.D
  | [], _ => ⟨0, fun y hy => by cases hy⟩
  | e :: E, h => by
    obtain ⟨n, hn⟩ := h e (List.mem_cons_self ..)
    obtain ⟨m, hm⟩ := own_bound E fun y hy => h y (List.mem_cons_of_mem _ hy)
    refine ⟨max n m, fun y hy => ?_⟩
    rcases List.mem_cons.1 hy with rfl | hy
    · exact hn.le (Nat.le_max_left ..)
    · exact (hm y hy).le (Nat.le_max_right ..)
theorem mkRows_spec (H : TabE B) (e : TypeId) : ∀ (m : Nat) (cs : List (VT B)) (l : List (B.T e)), mkRows B e m cs = some l → l.length = m ∧ ∀ (j : Nat) (x : B.T e), l[j]? = some x → B.enc e x = (cs.drop (j * B.size e)).take (B.size e)
  | 0, cs, l, h => by
    simp only [mkRows, Option.some.injEq] at h
    subst h
    exact ⟨rfl, fun j x hx => by simp at hx⟩
  | m + 1, cs, l, h => by
    simp only [mkRows, Option.bind_eq_some_iff, Option.map_eq_some_iff] at h
    obtain ⟨x, h1, l', h2, rfl⟩ := h
    obtain ⟨h3, h4⟩ := mkRows_spec H e m _ _ h2
    refine ⟨by simp [h3], fun j y hy => ?_⟩
    cases j with
    | zero =>
      simp at hy
      subst hy
      rw [Nat.zero_mul, List.drop_zero]
      exact H.dec_enc _ _ _ h1
    | succ j =>
      rw [h4 j y (by simpa using hy), List.drop_drop]
      congr 2
      rw [Nat.add_mul]; omega
/-- Entries become a row of one's own. -/
theorem own_row {w : World} {E : List (Ent B)} {e : TypeId} {m : Nat} {l : List (B.T e)} {c : Value} (hl : l.length = m) (henc : ∀ (j : Nat) (x : B.T e), l[j]? = some x → B.enc e x = ((vs E).drop (j * B.size e)).take (B.size e))
    (ho : ∀ y ∈ E, ∃ n, Own w n y.v y.c y.D) (hd : Dis E) (hq : QRow w 0 e (B.size e) c m (csOf E)) (hb : ∀ b, c.ownBlock = some b → ∀ y ∈ E, ¬ y.D b) :
    ∃ n, Own w n (.own e l : VT B) c (fun b => c.ownBlock = some b ∨ ∃ y ∈ E, y.D b) := by
  obtain ⟨n, hn⟩ := own_bound E ho
  refine ⟨n + 1, csOf E, by rw [hl]; exact hq, fun b h => .inl h, fun j b => ∃ i y, i / B.size e = j ∧ E[i]? = some y ∧ y.D b, ?_, ?_, ?_⟩
  · rintro j k b ⟨i, y, rfl, h1, h2⟩ ⟨i', y', rfl, h3, h4⟩
    rw [hd i i' y y' h1 h3 b h2 h4]
  · rintro j b ⟨i, y, _, h1, h2⟩
    exact ⟨.inr ⟨y, List.mem_of_getElem? h1, h2⟩, fun hc => hb b hc y (List.mem_of_getElem? h1) h2⟩
  · intro j x hx
    rw [henc j x hx]
    refine ⟨by simp [vs, csOf], fun i b => i < B.size e ∧ ∃ y, E[j * B.size e + i]? = some y ∧ y.D b, ?_, ?_, ?_⟩
    · intro i v cc hv hc
      rw [List.getElem?_take] at hv hc
      split at hv
      · rename_i hi
        rw [if_pos hi] at hc
        rw [List.getElem?_drop] at hv hc
        simp only [vs, csOf, List.getElem?_map, Option.map_eq_some_iff] at hv hc
        obtain ⟨y, h1, rfl⟩ := hv
        obtain ⟨y', h2, rfl⟩ := hc
        rw [h1] at h2
        injection h2 with h2
        subst h2
        exact (hn y (List.mem_of_getElem? h1)).mono fun b hb => ⟨hi, y, h1, hb⟩
      · cases hv
    · rintro i i' b ⟨_, y, h1, h2⟩ ⟨_, y', h3, h4⟩
      have := hd _ _ y y' h1 h3 b h2 h4
      omega
    · rintro i b ⟨hi, y, h1, h2⟩
      refine ⟨j * B.size e + i, y, ?_, h1, h2⟩
      rw [Nat.mul_comm, Nat.mul_add_div (by omega), Nat.div_eq_of_lt hi, Nat.add_zero]
/-- A leaf that is data owns what it owns. -/
theorem LeafR.ownOf {X : Base B} {ok Γ β w} {v : VT B} {c D} (h : LeafR X ok Γ β w v c D) (hv : v.data = true) : ∃ n, Own w n v c D := by
  cases v with
  | lit u => exact ⟨0, h⟩
  | own e l => exact h
  | _ => cases hv
theorem Own.leaf {X : Base B} {ok Γ β w} {n : Nat} {v : VT B} {c D} (h : Own w n v c D) : LeafR X ok Γ β w v c D := by
  cases v with
  | lit u => cases n <;> exact h
  | own e l => exact ⟨n, h⟩
  | _ => cases n <;> exact h.elim
/-- The hand becomes one row of one's own. -/
theorem Rel.rowH (H : TabE B) (h : Rel X s a w Γ β) {E : List (Ent B)} {w' : World} {e : TypeId} {m : Nat} {l : List (B.T e)} {c : Value} {D : Nat → Prop} (ho : ∃ n, Own w' n (.own e l : VT B) c D)
    (hD : ∀ b, D b → (∃ z, z ∈ Γ 0 ∧ z.D b) ∨ (w.heap.size ≤ b ∧ b < w'.heap.size))
    (hsame : ∀ b, b < w.heap.size → (∀ z, z ∈ Γ 0 → ¬ z.D b) → w'.heap[b]? = w.heap[b]?) (hsz : w.heap.size ≤ w'.heap.size) (hos : w'.os = w.os) (htape : w'.tape = w.tape) (hout : w'.output = w.output) :
    Rel X { s with hd := [.own e l] } a w' (setG Γ 0 [⟨.own e l, c, D⟩]) β := by
  refine h.reH H [⟨.own e l, c, D⟩] (fun _ y hy => ?_) (fun j k x y hx hy b hb hb' => ?_) (fun y hy b hb => ?_) hsame hsz hos htape hout
  · simp at hy
    subst hy
    exact ho
  · have h1 := (List.getElem?_eq_some_iff.1 hx).1
    have h2 := (List.getElem?_eq_some_iff.1 hy).1
    simp at h1 h2
    omega
  · simp at hy
    subst hy
    exact hD b hb
theorem done_row (H : TabE B) (h : Rel X s a w Γ β) {E : List (Ent B)} {w' : World} {e : TypeId} {l : List (B.T e)} {c : Value} {D : Nat → Prop} (ho : ∃ n, Own w' n (.own e l : VT B) c D)
    (hD : ∀ b, D b → (∃ z, z ∈ Γ 0 ∧ z.D b) ∨ (w.heap.size ≤ b ∧ b < w'.heap.size))
    (hsame : ∀ b, b < w.heap.size → (∀ z, z ∈ Γ 0 → ¬ z.D b) → w'.heap[b]? = w.heap[b]?) (hsz : w.heap.size ≤ w'.heap.size) (hos : w'.os = w.os) (htape : w'.tape = w.tape) (hout : w'.output = w.output) {dst : Option Nat}
    (hg : G std M F n kl (k (({ s with hd := [.own e l] } : S B).lay dst (.one .dead))) r) : Done X M F kl s.tm.length n k r (a.put dst c) w' := by
  have m1 := h.rowH H (m := 0) (E := E) ho hD hsame hsz hos htape hout
  exact done_lay H m1 (x := .one .dead) (by rw [setG_same]; rfl) (by rw [setG_same]; rfl) hg
theorem zeros_map {α γ : Type} (f : α → γ) (z : List α) : ∀ m, (zeros z m).map f = zeros (z.map f) m
  | 0 => rfl
  | m + 1 => by rw [zeros, List.map_append, zeros_map f z m]; rfl
theorem zeros_mem {α : Type} (z : List α) : ∀ m y, y ∈ zeros z m → y ∈ z
  | 0, y, h => by cases h
  | m + 1, y, h => by
    rcases List.mem_append.1 h with h | h
    · exact h
    · exact zeros_mem z m y h
theorem zeros_len {α : Type} (z : List α) : ∀ m, (zeros z m).length = m * z.length
  | 0 => by simp [zeros]
  | m + 1 => by rw [zeros, List.length_append, zeros_len z m, Nat.add_mul]; omega
theorem zeros_get {α : Type} (z : List α) (hz : 0 < z.length) : ∀ m i, i < m * z.length → (zeros z m)[i]? = z[i % z.length]?
  | 0, i, h => by omega
  | m + 1, i, h => by
    rw [zeros]
    by_cases hi : i < z.length
    · rw [List.getElem?_append_left hi, Nat.mod_eq_of_lt hi]
    · rw [List.getElem?_append_right (by omega), zeros_get z hz m _ (by rw [Nat.add_mul] at h; omega)]
      rw [← Nat.mod_eq_sub_mod (by omega)]
theorem zeros_made (z : Value) (m size : Nat) (hs : z.cells.size = size) (h0 : 0 < size) : (Array.range (m * size)).map (z.cells[· % z.cells.size]!) = (zeros z.cells.toList m).toArray := by
  apply Array.ext
  · simp [zeros_len, hs]
  · intro i h1 h2
    have h2' : i < m * z.cells.toList.length := by simpa [zeros_len] using h2
    have h3 := zeros_get z.cells.toList (by rw [Array.length_toList]; omega) m i h2'
    have h4 : i % z.cells.size < z.cells.size := Nat.mod_lt _ (by omega)
    have h5 : (zeros z.cells.toList m)[i]? = some (zeros z.cells.toList m)[i] := List.getElem?_eq_getElem (by simpa using h2)
    rw [h5] at h3
    simp only [Array.length_toList, Array.getElem?_toList, Array.getElem?_eq_getElem h4, Option.some.injEq] at h3
    simp only [Array.getElem_map, Array.getElem_range, List.getElem_toArray, h3]
    exact getElem!_pos z.cells _ h4
theorem zr_own {ok : Nat → Prop} {w : World} {y : Ent B} (h1 : y.c.oneCell' = true) (h : (∃ u, y.v = .lit u ∧ y.c = u) ∨ ∃ e, y.v = .own e [] ∧ y.c = .slice none 0 0) : ∃ n, Own w n y.v y.c y.D := by
  have hl : LeafR (⟨w, none_, none_, fun _ => none, fun _ _ => False, []⟩ : Base B) ok (fun _ => []) (fun _ => 0) w y.v y.c y.D := zr_leaf h1 h
  refine hl.ownOf ?_
  rcases h with ⟨u, e1, _⟩ | ⟨e', e1, _⟩ <;> rw [e1] <;> rfl
theorem qrow_new (w : World) (e : TypeId) (size m : Nat) (cs : List Value) (hl : cs.length = m * size) (hm : m ≤ maxLen) : QRow (w.alloc (.cells cs.toArray e (0, 0))) 0 e size (.slice (some ⟨w.heap.size, 0, none⟩) m m) m cs :=
  ⟨hl, .inr ⟨w.heap.size, 0, m, cs.toArray, by simp, Nat.zero_le _, heap_alloc_new w _, Nat.le_refl _, by omega, by simp [hl], by rw [Nat.zero_mul, List.drop_zero, ← hl]; exact List.take_length⟩⟩
theorem op_buildSlice (H : TabP P B) (h : Rel X s a w Γ β) (hh : s.hd = []) {t : TypeId} {m : Nat} {ps : Array (Nat × Operand)} (ho : o.op = .buildSlice t m ps) (hg : G std M F n kl (stepOp std M o s k) r) : o.wp P a w (Done X M F kl s.tm.length n k r) Q := by
  simp only [stepOp, ho] at hg
  split at hg
  · rename_i e he
    split at hg
    · rename_i z hz
      split at hg
      · exact (G.no_inv hg).elim
      rename_i hsmall
      split at hg
      · exact (G.no_inv hg).elim
      rename_i hlt
      have hlt : ∀ p ∈ ps.toList, p.1 < m := by
        intro p hp
        have := fun e => hlt (List.any_eq_true.2 ⟨p, hp, e⟩)
        simpa using this
      obtain ⟨s1, h1, hg⟩ := G.ofOpt_inv hg
      split at hg
      · exact (G.no_inv hg).elim
      rename_i hdata
      obtain ⟨l, hrows, hg⟩ := G.ofOpt_inv hg
      obtain ⟨Γ1, k1, k2, k3, k4⟩ := h.takeP H.toTabE _ h1
      rw [h.hd0 hh] at k2
      have k2 : csOf (Γ1 0) = (ps.toList.map fun p => (a.eval p.2).cells.toList).flatten := by
        rw [k2]; simp [csOf, Function.comp_def]
      have k4 : ∀ p ∈ ps.toList, (a.eval p.2).cells.size = B.size e := fun p hp => k4 _ (List.mem_map.2 ⟨p, hp, rfl⟩)
      obtain ⟨i, v, q1, q2, q3⟩ := H.zero_ok e z hz
      obtain ⟨ht, i', v', r1, r2, r3, r4, r5, r6, r7⟩ := H.elem_ok t e he
      rw [q1] at r1
      injection r1 with r1
      subst r1
      rw [q2] at r2
      injection r2 with r2
      subst r2
      obtain ⟨Z, e1, e2, e3, e4, e5⟩ := zr_entries X (okB X Γ1 β w) Γ1 β w z _ q3
      have hzl : z.length = B.size e := by rw [← e1, vs_length, ← cs_length, e2, Array.length_toList, r5]
      generalize hps : (ps.toList.map fun p => (B.size e, p.1 * B.size e)) = qs at hg hdata hrows
      generalize hE : fillV qs (Γ1 0) (zeros Z m) = E
      have hvs : vs E = fillV qs s1.hd (zeros z m) := by
        rw [← hE, ← e1, show s1.hd = vs (Γ1 0) from k1.root 0]
        show List.map _ _ = _
        rw [fillV_map, zeros_map]; rfl
      have hcs : csOf E = fillV qs (csOf (Γ1 0)) (zeros v.cells.toList m) := by
        rw [← hE, ← e2]
        show List.map _ _ = _
        rw [fillV_map, zeros_map]; rfl
      have hEl : E.length = m * B.size e := by rw [← hE, fillV_len, zeros_len, ← hzl, ← e1, vs_length]
      rw [← hvs] at hrows hdata
      have hmem : ∀ y ∈ E, y ∈ Γ1 0 ∨ y ∈ Z := by
        intro y hy
        rw [← hE] at hy
        rcases fillV_mem _ _ _ y hy with hy | hy
        · exact .inl hy
        · exact .inr (zeros_mem _ _ _ hy)
      have hdis : Dis E := by
        rw [← hE]
        refine fillV_dis _ _ _ (fun j k x y hx hy b hb hb' => (k1.disj 0 j 0 k x y hx hy b hb hb').2) (fun j k x y hx hy b hb hb' => ?_) (fun x hx y hy b hb hb' => ?_)
        · rw [e3 x (zeros_mem _ _ _ (List.mem_of_getElem? hx))] at hb; exact hb.elim
        · rw [e3 y (zeros_mem _ _ _ hy)] at hb'; exact hb'
      have hdat : ∀ y ∈ E, y.v.data = true := by
        intro y hy
        have := fun e => hdata (List.any_eq_true.2 ⟨y.v, List.mem_map.2 ⟨y, hy, rfl⟩, e⟩)
        simpa using this
      -- the new row
      have hmx : m ≤ maxLen := by
        have : m * B.size e ≤ 2 ^ 24 := Nat.le_of_not_lt hsmall
        have : m ≤ m * B.size e := Nat.le_mul_of_pos_right _ r6
        simp only [maxLen]
        omega
      generalize hw' : w.alloc (.cells (csOf E).toArray e (0, 0)) = w'
      have hq := qrow_new w e (B.size e) m (csOf E) (by rw [cs_length, hEl]) hmx
      rw [hw'] at hq
      have hstay : ∀ b, b < w.heap.size → w'.heap[b]? = w.heap[b]? := fun b hb => by rw [← hw']; exact Below.heap_alloc w _ b hb
      have hown : ∀ y ∈ E, ∃ n, Own w' n y.v y.c y.D := by
        intro y hy
        rcases hmem y hy with h2 | h2
        · obtain ⟨n', h3⟩ := (k1.leaf 0 y h2).ownOf (hdat y hy)
          exact ⟨n', h3.move fun b hb => hstay b (k1.dlt 0 y b h2 hb).1⟩
        · exact zr_own (ok := none_) (e4 y h2) (e5 y h2)
      have hnd : ∀ y ∈ E, ∀ b, y.D b → y ∈ Γ1 0 := by
        intro y hy b hb
        rcases hmem y hy with h2 | h2
        · exact h2
        · rw [e3 y h2] at hb; exact hb.elim
      obtain ⟨ml, hrow⟩ := mkRows_spec H.toTabE e m _ l hrows
      have hO := own_row (w := w') (E := E) (e := e) (m := m) (l := l) ml hrow hown hdis hq (fun b hb y hy hyb => by
        have hb' : w.heap.size = b := by simpa [Value.ownBlock] using hb
        have := (k1.dlt 0 y b (hnd y hy b hyb) hyb).1
        omega)
      have hrun : (execOp a.eval o).run P w = .ok (.value (.slice (some ⟨w.heap.size, 0, none⟩) m m)) w' := by
        by_cases hm0 : m = 0
        · subst hm0
          have hE0 : E = [] := List.eq_nil_of_length_eq_zero (by rw [hEl, Nat.zero_mul])
          have hps0 : ps = #[] := by
            have : ps.toList = [] := List.eq_nil_iff_forall_not_mem.2 fun p hp => absurd (hlt p hp) (by omega)
            exact Array.toList_inj.1 this
          subst hps0
          rw [← hw', hE0]
          simp [execOp, ho, Instr.buildSlice, run_underlying ht, run_sizeOf_info q1, Instr.fill, newRow, csOf, show Array.range 0 = #[] from rfl]
          try rfl
        · have hfill := fill_fillV (fun i => some (i * B.size e, B.size e)) (ps.toList.map fun p => (p.1, a.eval p.2, p.1 * B.size e, B.size e)) (zeros v.cells.toList m).toArray (by
            intro p hp
            obtain ⟨p', hp', rfl⟩ := List.mem_map.1 hp
            refine ⟨rfl, k4 p' hp', ?_⟩
            have := hlt p' hp'
            have h5 : (zeros v.cells.toList m).length = m * B.size e := by rw [zeros_len, Array.length_toList, r5]
            show p'.1 * B.size e + B.size e ≤ (zeros v.cells.toList m).toArray.size
            rw [List.size_toArray, h5, ← Nat.succ_mul]
            exact Nat.mul_le_mul_right _ this)
          simp only [List.map_map, Function.comp_def] at hfill
          rw [hps, ← k2, ← hcs] at hfill
          have := run_buildSlice (P := P) w t e m (ps.map fun (i, x) => (i, a.eval x)) (csOf E).toArray i v ht q1 q2 (by rw [r3]; omega) (by rw [r3]; exact Nat.mul_ne_zero hm0 (by omega)) (by
            rw [r3, zeros_made v m (B.size e) r5 r6]
            simpa using hfill)
          simp [execOp, ho, this, ← hw']
      refine wp_value hrun ?_
      rw [← k3]
      refine done_row H.toTabE k1 (E := E) hO (fun b hb => ?_) (fun b hb _ => hstay b hb) (by rw [← hw']; simp) (by rw [← hw']; rfl) (by rw [← hw']; rfl) (by rw [← hw']; rfl) hg
      rcases hb with hb | ⟨y, hy, hb⟩
      · have hb' : w.heap.size = b := by simpa [Value.ownBlock] using hb
        refine .inr ⟨by omega, ?_⟩
        rw [← hw']; simp; omega
      · exact .inl ⟨y, hnd y hy b hb, hb⟩
    · exact (G.no_inv hg).elim
  · exact (G.no_inv hg).elim
theorem made_zeros (z : Value) (m size : Nat) (hs : z.cells.size = size) (h0 : 0 < size) : madeCells z.cells (m * size) = (zeros z.cells.toList m).toArray := zeros_made z m size hs h0
theorem zeros_take {α : Type} (z : List α) : ∀ (m j : Nat), j ≤ m → (zeros z m).take (j * z.length) = zeros z j
  | 0, j, h => by
    have : j = 0 := by omega
    subst this; simp [zeros]
  | m + 1, 0, h => by simp [zeros]
  | m + 1, j + 1, h => by
    rw [zeros, zeros, Nat.add_mul, Nat.one_mul, Nat.add_comm, List.take_append]
    rw [List.take_of_length_le (by omega), Nat.add_sub_cancel_left, zeros_take z m j (by omega)]
theorem mkRows_zeros (H : TabE B) {e : TypeId} {z : List (VT B)} {x : B.T e} (hz : B.dec e z = some x) (hl : z.length = B.size e) : ∀ m, mkRows B e m (zeros z m) = some (List.replicate m x)
  | 0 => rfl
  | m + 1 => by
    simp only [mkRows, zeros]
    rw [← hl, List.take_left' rfl, List.drop_left' rfl, hz]
    simp only [Option.bind_some, mkRows_zeros H hz hl m, Option.map_some]
    rfl
theorem op_makeSlice (H : TabP P B) (h : Rel X s a w Γ β) (hh : s.hd = []) {t : TypeId} {x y : Operand} (ho : o.op = .makeSlice t x y) (hg : G std M F n kl (stepOp std M o s k) r) : o.wp P a w (Done X M F kl s.tm.length n k r) Q := by
  simp only [stepOp, ho] at hg
  split at hg
  · rename_i k1 l k2 c hx hy
    have ex := h.litPeek hx
    have ey := h.litPeek hy
    split at hg
    · rename_i e he
      split at hg
      · rename_i z hz
        split at hg
        · exact (G.no_inv hg).elim
        rename_i hdata
        obtain ⟨d, hdec, hg⟩ := G.ofOpt_inv hg
        obtain ⟨h0, hg⟩ := G.guard_inv hg
        obtain ⟨h1, hg⟩ := G.guard_inv hg
        obtain ⟨h2, hg⟩ := G.guard_inv hg
        have h0 : 0 ≤ l := by simpa [std] using h0
        have h1 : l ≤ c := by simpa [std] using h1
        have h2 : c * (B.bytes e : Int) ≤ 281474976710656 := by simpa [std] using h2
        obtain ⟨i, v, q1, q2, q3⟩ := H.zero_ok e z hz
        obtain ⟨ht, i', v', r1, r2, r3, r4, r5, r6, r7⟩ := H.elem_ok t e he
        rw [q1] at r1
        injection r1 with r1
        subst r1
        rw [q2] at r2
        injection r2 with r2
        subst r2
        obtain ⟨Z, e1, e2, e3, e4, e5⟩ := zr_entries X (okB X Γ β w) Γ β w z _ q3
        have hzl : z.length = B.size e := by rw [← e1, vs_length, ← cs_length, e2, Array.length_toList, r5]
        have hcb : c ≤ 281474976710656 := by
          have : c * 1 ≤ c * (B.bytes e : Int) := Int.mul_le_mul_of_nonneg_left (by omega) (by omega)
          omega
        have hrun := run_make (P := P) w t e i v ht q1 q2 k1 k2 l c h0 h1 (by rw [r4, Int.mul_comm]; exact h2) (by omega)
        rw [r3, made_zeros v _ _ r5 r6] at hrun
        generalize hw' : w.alloc (.cells (zeros v.cells.toList c.toNat).toArray e) = w' at hrun
        have hstay : ∀ b, b < w.heap.size → w'.heap[b]? = w.heap[b]? := fun b hb => by rw [← hw']; exact Below.heap_alloc w _ b hb
        have hvl : v.cells.toList.length = B.size e := by rw [Array.length_toList, r5]
        -- the entries of the row's elements
        have hcs : csOf (zeros Z l.toNat) = zeros v.cells.toList l.toNat := by
          rw [← e2]; exact zeros_map _ _ _
        have hvs : vs (zeros Z l.toNat) = zeros z l.toNat := by
          rw [← e1]; exact zeros_map _ _ _
        have hq : QRow w' 0 e (B.size e) (.slice (some ⟨w.heap.size, 0, none⟩) l.toNat c.toNat) l.toNat (csOf (zeros Z l.toNat)) := by
          rw [hcs]
          refine ⟨by rw [zeros_len, hvl], .inr ⟨w.heap.size, 0, c.toNat, (zeros v.cells.toList c.toNat).toArray, by simp, Nat.zero_le _, by rw [← hw']; exact heap_alloc_new w _, by omega, by simp only [maxLen]; omega, ?_, ?_⟩⟩
          · rw [List.size_toArray, zeros_len, hvl, Nat.zero_add]
          · rw [Nat.zero_mul, List.drop_zero, ← hvl]
            exact zeros_take _ _ _ (by omega)
        have hnone : ∀ y ∈ zeros Z l.toNat, ∀ b, ¬ y.D b := fun y hy b hb => by rw [e3 y (zeros_mem _ _ _ hy)] at hb; exact hb
        obtain ⟨ml, hrow⟩ := mkRows_spec H.toTabE e l.toNat _ _ (mkRows_zeros H.toTabE hdec hzl l.toNat)
        have hO := own_row (w := w') (E := zeros Z l.toNat) (e := e) (m := l.toNat) (l := List.replicate l.toNat d) (c := .slice (some ⟨w.heap.size, 0, none⟩) l.toNat c.toNat) ml (by rw [hvs]; exact hrow)
          (fun y hy => zr_own (ok := none_) (e4 y (zeros_mem _ _ _ hy)) (e5 y (zeros_mem _ _ _ hy))) (fun j k x y hx hy b hb _ => (hnone x (List.mem_of_getElem? hx) b hb).elim) hq (fun b _ y hy => hnone y hy b)
        refine wp_value (v := .slice (some ⟨w.heap.size, 0, none⟩) l.toNat c.toNat) (w' := w') (by simp [execOp, ho, ex, ey, hrun]) ?_
        refine done_row H.toTabE h (E := []) hO (fun b hb => ?_) (fun b hb _ => hstay b hb) (by rw [← hw']; simp) (by rw [← hw']; rfl) (by rw [← hw']; rfl) (by rw [← hw']; rfl) hg
        rcases hb with hb | ⟨y, hy, hb⟩
        · have hb' : w.heap.size = b := by simpa [Value.ownBlock] using hb
          refine .inr ⟨by omega, ?_⟩
          rw [← hw']; simp; omega
        · exact (hnone y hy b hb).elim
      · exact (G.no_inv hg).elim
    · exact (G.no_inv hg).elim
  · exact (G.no_inv hg).elim
end
end Go.I

/-! ISem21 -/
set_option linter.unusedVariables false
set_option linter.unusedSimpArgs false
namespace Go.I
open Go.RowKit Go.Proofs.YtogfddilolannaaDoorW.PrintWords
section
variable {P : Program} {B : Tab} {M : FuncId → List Md} {F : FuncId → Option (Fi B)} {kl : KL}
variable {X : Base B} {a : Act} {β : Nat → Nat} {o : Oper} {n : Nat} {k : S B → Tr B} {r : Res B} {Q : Exit → Act → World → Prop}
variable {s : S B} {w : World} {Γ : Gh B}
/-- A row's literal cells. -/
def LitCells (w : World) (e : TypeId) (l : List (B.T e)) (c : Value) : Prop :=
  ∃ A cap, c = .slice A l.length cap ∧ l.length ≤ cap ∧ (0 < l.length → ∃ ad, A = some ad ∧ ∀ (j : Nat) x (i : Nat) u, l[j]? = some x → (B.enc e x)[i]? = some (.lit u) → w.cell? (ad.add (j * B.size e + i)) = some u ∧ u.oneCell' = true)
theorem own_cells (H : TabE B) {w : World} {n : Nat} {e : TypeId} {l : List (B.T e)} {c : Value} {D} (h : Own w n (.own e l : VT B) c D) : LitCells w e l c := by
  cases n with
  | zero => exact h.elim
  | succ n =>
    obtain ⟨inner, hq, hb, Dk, h3, h4, h5⟩ := h
    obtain ⟨A, cap, rfl, hle⟩ := q_slice hq
    refine ⟨A, cap, rfl, hle, fun hp => ?_⟩
    obtain ⟨ad, rfl, hcell⟩ := q_cells hq hp
    refine ⟨ad, rfl, fun j x i u hx hu => ?_⟩
    obtain ⟨h6, Dj, h7, _, _⟩ := h5 j x hx
    have hi : i < (B.enc e x).length := (List.getElem?_eq_some_iff.1 hu).1
    obtain ⟨c', hc'⟩ : ∃ c', ((inner.drop (j * B.size e)).take (B.size e))[i]? = some c' := ⟨_, List.getElem?_eq_getElem (by rw [← h6]; exact hi)⟩
    have hR := h7 i _ _ hu hc'
    have : c' = u ∧ u.oneCell' = true := by cases n <;> exact hR
    rw [List.getElem?_take, if_pos (by rw [← H.enc_len]; exact hi), List.getElem?_drop] at hc'
    exact ⟨by rw [← this.1]; exact hcell _ _ hc', this.2⟩
theorem imm_cells {w : World} {ok : Nat → Prop} {n : Nat} {e : TypeId} {l : List (B.T e)} {c : Value} (h : Imm w ok n (.imm e l : VT B) c) : LitCells w e l c := by
  cases n with
  | zero => exact h.elim
  | succ n =>
    obtain ⟨A, cap, rfl, hle, _, hp⟩ := h
    refine ⟨A, cap, rfl, hle, fun h0 => ?_⟩
    obtain ⟨ad, rfl, _, hrow⟩ := hp h0
    refine ⟨ad, rfl, fun j x i u hx hu => ?_⟩
    obtain ⟨cs, hl, hcs⟩ := hrow j x hx
    obtain ⟨c', hc'⟩ : ∃ c', cs[i]? = some c' := ⟨_, List.getElem?_eq_getElem (by rw [← hl.1]; exact (List.getElem?_eq_some_iff.1 hu).1)⟩
    have hR := hl.2 i _ _ hu hc'
    have : c' = u ∧ u.oneCell' = true := by cases n <;> exact hR
    exact ⟨by rw [← this.1]; exact hcs i _ hc', this.2⟩
theorem Rel.lookCells (h : Rel X s a w Γ β) (H : TabE B) {v : VT B} {c : Value} {D : Nat → Prop} (hl : LeafR X (okB X Γ β w) Γ β w v c D) {e : TypeId} {xs : List (B.T e)} (hg : S.look std s v = .own e xs ∨ S.look std s v = .imm e xs) : LitCells w e xs c := by
  rcases hg with hg | hg
  · obtain ⟨m, D', hown⟩ := h.lookOwn H hl hg
    exact own_cells H hown
  · have := h.lookImm hl hg H
    subst this
    obtain ⟨n', hl⟩ := hl
    exact imm_cells hl
theorem run_bytes (w : World) {src dst e : TypeId} (hs : P.underlying src = some (.slice e)) (he : P.underlying e = some (.int .u8)) (hd : P.underlying dst = some .string) {xs : List (B.T e)} {l : List Int} {c : Value} (hc : LitCells w e xs c)
    (h1 : B.size e = 1) (hl : l.length = xs.length) (hx : ∀ (j : Nat) x, xs[j]? = some x → ∃ m, l[j]? = some m ∧ B.enc e x = [.lit (.int .u8 m)]) : (convert src dst c).run P w = .ok (.string (std.strOf l)) w := by
  obtain ⟨A, cap, rfl, _, hp⟩ := hc
  rw [run_convert_bytes_string w src dst e A xs.length cap hs he hd]
  cases A with
  | none =>
    have h0 : xs.length = 0 := by
      rcases Nat.eq_zero_or_pos xs.length with h | h
      · exact h
      · obtain ⟨ad, h, _⟩ := hp h; cases h
    have : l = [] := List.eq_nil_of_length_eq_zero (by omega)
    subst this
    simp [Conv.bytesToString, std]
    rfl
  | some ad =>
    have hload : (loadCells ad xs.length).run P w = .ok (l.map (Value.int .u8)).toArray w := by
      have := run_loadCells_list (P := P) w ad (l.map (Value.int .u8)) (fun j v hj => by
        simp only [List.getElem?_map, Option.map_eq_some_iff] at hj
        obtain ⟨m, hm, rfl⟩ := hj
        have hjl : j < xs.length := by rw [← hl]; exact (List.getElem?_eq_some_iff.1 hm).1
        obtain ⟨ad', had, hcell⟩ := hp (by omega)
        injection had with had
        subst had
        obtain ⟨m', hm', henc⟩ := hx j _ (List.getElem?_eq_getElem hjl)
        rw [hm] at hm'
        injection hm' with hm'
        subst hm'
        have := (hcell j _ 0 (.int .u8 m) (List.getElem?_eq_getElem hjl) (by rw [henc]; rfl)).1
        rw [h1] at this
        simpa using this)
      rw [List.length_map, hl] at this
      exact this
    rw [run_bytesToString w ad xs.length cap l hload, foldl_push_bytes]
    simp [std, ByteArray.empty, ByteArray.emptyWithCapacity]
    rfl
theorem op_convert (H : TabP P B) (h : Rel X s a w Γ β) (hh : s.hd = []) {src dst : TypeId} {x : Operand} (ho : o.op = .convert src dst x) (hg : G std M F n kl (stepOp std M o s k) r) : o.wp P a w (Done X M F kl s.tm.length n k r) Q := by
  simp only [stepOp, ho] at hg
  split at hg
  · rename_i k1 m hx
    have ex := h.litPeek hx
    split at hg
    · rename_i k2 k3 hs hd
      have hd' := H.ikind_ok dst k3 hd
      refine wp_value (v := .int k3 (std.wrap k3 m)) (w' := w) ?_ (done_def H.toTabE h hh (peek_lit X Γ β w _ rfl) hg).2
      simp [execOp, ho, ex, convert, run_underlying (H.ikind_ok src k2 hs), run_underlying hd', Conv.intToInt, std]
    · exact (G.no_inv hg).elim
  · rename_i y hx
    have ex := h.litPeek hx
    split at hg
    · rename_i hs
      split at hg
      · rename_i e he
        split at hg
        · rename_i l hl
          obtain ⟨hsmall, hg⟩ := G.guard_inv hg
          have hsmall : (y.size : Int) ≤ 140737488351232 := by simpa [std] using hsmall
          obtain ⟨o1, o2, o3, o4⟩ := H.of_ok e _ l hl
          obtain ⟨ht, _⟩ := H.elem_ok dst e he
          have hrun := run_bytes_of_string (P := P) w src dst e y (H.str_ok src hs) ht o1
          generalize hC : bytesRow y (grownCap w y.size 0 e) = C at hrun
          generalize hw' : w.drew.alloc (.cells C e (C.size, C.size + 1)) = w' at hrun
          have hstay : ∀ b, b < w.heap.size → w'.heap[b]? = w.heap[b]? := fun b hb => by rw [← hw']; exact Below.heap_alloc w.drew _ b hb
          have hsz : w'.heap.size = w.heap.size + 1 := by rw [← hw']; exact (by simp : (w.drew.alloc (.cells C e (C.size, C.size + 1))).heap.size = w.drew.heap.size + 1)
          have hnew : w'.heap[w.heap.size]? = some (.cells C e (C.size, C.size + 1)) := by rw [← hw']; exact heap_alloc_new w.drew _
          have h1 := h.reH H.toTabE (w' := w') [] (fun _ y hy => by cases hy) (fun j k x y hx => by simp at hx) (fun y hy => by cases hy) (fun b hb _ => hstay b hb) (by omega) (by rw [← hw']; rfl) (by rw [← hw']; rfl) (by rw [← hw']; rfl)
          have hs' : ({ s with hd := vs ([] : List (Ent B)) } : S B) = s := by cases s; simp only at hh; subst hh; rfl
          rw [hs'] at h1
          have hΓ : ∀ q x, x ∈ setG Γ 0 ([] : List (Ent B)) q → x ∈ Γ q := by
            intro q x hx
            by_cases hq : q = 0
            · subst hq; rw [setG_same] at hx; cases hx
            · rwa [setG_ne _ _ hq] at hx
          have hbl : (std.bytesOf y).length = y.size := by show (y.data.toList.map _).length = y.data.size; simp
          refine wp_value (v := .slice (some ⟨w.heap.size, 0, none⟩) y.size (grownCap w y.size 0 e)) (w' := w') (by simp [execOp, ho, ex, hrun]) (done_def H.toTabE h1 hh (peek_leaf (v := .imm e l) ⟨1, ?_⟩) hg).2
          have hge : y.size ≤ grownCap w y.size 0 e := by have := grownCap_ge w y.size 0 e; omega
          have hmx : l.length ≤ 9223372036854775807 := by
            rw [o3, hbl]
            omega
          refine ⟨_, _, by rw [o3, hbl], by rw [o3, hbl]; exact hge, hmx, fun hpos => ⟨⟨w.heap.size, 0, none⟩, rfl, ?_, fun j z hz => ?_⟩⟩
          · refine ⟨by show w.heap.size < _; omega, .inr (.inr h.grow), fun q x hx hb => ?_, fun t ht hb => ?_⟩
            · have := (h.dlt q x _ (hΓ q x hx) hb).1
              exact Nat.lt_irrefl _ this
            · rw [setG_ne _ _ (by omega)] at ht
              obtain ⟨ty, hb'⟩ := h.bx t ht
              have := (Array.getElem?_eq_some_iff.1 hb').1
              simp only at hb
              omega
          · obtain ⟨m, hm, henc⟩ := o4 j z hz
            refine ⟨[.int .u8 m], ⟨by rw [henc]; rfl, fun i v c hv hc => ?_⟩, fun i u hu => ?_⟩
            · rw [henc] at hv
              have hi : i = 0 := by
                have := (List.getElem?_eq_some_iff.1 hv).1
                simp at this
                omega
              subst hi
              simp at hv hc
              subst hv; subst hc
              exact ⟨rfl, rfl⟩
            · have hi : i = 0 := by
                have := (List.getElem?_eq_some_iff.1 hu).1
                simp at this
                omega
              subst hi
              simp at hu
              subst hu
              rw [o2]
              have hj : j < y.size := by
                have := (List.getElem?_eq_some_iff.1 hm).1
                omega
              have hcell : w'.cell? ⟨w.heap.size, j, none⟩ = C[j]? := cell_of_row w' _ j C e _ hnew
              rw [show (⟨w.heap.size, 0, none⟩ : Addr).add (j * 1 + 0) = ⟨w.heap.size, j, none⟩ by simp [Addr.add]; omega, hcell, ← hC]
              have hj' : j < y.data.size := hj
              simp only [std, List.getElem?_map, Array.getElem?_toList, Array.getElem?_eq_getElem hj', Option.map_some, Option.some.injEq] at hm
              simp only [bytesRow]
              rw [Array.getElem?_append_left (by simpa using hj')]
              simp [Array.getElem?_eq_getElem hj', ← hm]
        · exact (G.no_inv hg).elim
      · exact (G.no_inv hg).elim
    · exact (G.no_inv hg).elim
  · rename_i v hv1 hv2 hx
    obtain ⟨E, hE⟩ := h.peek 0 x
    rw [hx] at hE
    obtain ⟨D, hl, hD, rfl⟩ := hE.one
    split at hg
    · rename_i l hlb
      obtain ⟨e, xs, t1, t2, t3, t4, t5, t6, t7⟩ := H.to_ok _ _ _ _ hlb
      have hc := h.lookCells H.toTabE hl t4
      exact wp_value (v := .string (std.strOf l)) (w' := w) (by simp [execOp, ho, run_bytes w t1 t2 t3 hc t5 t6 t7]) (done_def H.toTabE h hh (peek_lit X Γ β w _ rfl) hg).2
    · exact (G.no_inv hg).elim
  · exact (G.no_inv hg).elim
theorem LitCells.move {w w' : World} {e : TypeId} {xs : List (B.T e)} {c : Value} (h : LitCells w e xs c) (hs : ∀ ad n m, c = .slice (some ad) n m → 0 < n → w'.heap[ad.block]? = w.heap[ad.block]?) : LitCells w' e xs c := by
  obtain ⟨A, cap, rfl, h1, hp⟩ := h
  refine ⟨A, cap, rfl, h1, fun h0 => ?_⟩
  obtain ⟨ad, rfl, hc⟩ := hp h0
  refine ⟨ad, rfl, fun j x i u hx hu => ?_⟩
  obtain ⟨k1, k2⟩ := hc j x i u hx hu
  exact ⟨(cell_same (by rw [add_block]; exact hs ad _ _ rfl h0)).trans k1, k2⟩
/-- A conversion that leaves the world as it is. -/
theorem op_convertS (H : TabP P B) (h : Rel X s a w Γ β) (hh : s.hd = []) {src dst : TypeId} {x : Operand} (ho : o.op = .convert src dst x) (hcv : cvOK (s.peek 0 x) = true) (hg : G std M F n kl (stepOp std M o s k) r) : OpS P o a w (DoneS w X M F kl s.tm.length n k r) := by
  simp only [stepOp, ho] at hg
  split at hg
  · rename_i k1 m hx
    have ex := h.litPeek hx
    split at hg
    · rename_i k2 k3 hs hd
      have hd' := H.ikind_ok dst k3 hd
      refine wp_valueS (v := .int k3 (std.wrap k3 m)) (fun w => ?_) (done_def H.toTabE h hh (peek_lit X Γ β w _ rfl) hg)
      simp [execOp, ho, ex, convert, run_underlying (H.ikind_ok src k2 hs), run_underlying hd', Conv.intToInt, std]
    · exact (G.no_inv hg).elim
  · rename_i y hx
    rw [hx] at hcv
    cases hcv
  · rename_i v hv1 hv2 hx
    obtain ⟨E, hE⟩ := h.peek 0 x
    rw [hx] at hE
    obtain ⟨D, hl, hD, rfl⟩ := hE.one
    split at hg
    · rename_i l hlb
      obtain ⟨e, xs, t1, t2, t3, t4, t5, t6, t7⟩ := H.to_ok _ _ _ _ hlb
      have hc := h.lookCells H.toTabE hl t4
      exact ⟨.string (std.strOf l), fun w' hw' => by
        have hc' := hc.move (w' := w') fun ad n m e hn => hw' _ (.inr ⟨_, _, _, ad, n, m, ho, e, hn, rfl⟩)
        simp [execOp, ho, run_bytes w' t1 t2 t3 hc' t5 t6 t7], done_def H.toTabE h hh (peek_lit X Γ β w _ rfl) hg⟩
    · exact (G.no_inv hg).elim
  · exact (G.no_inv hg).elim
theorem op_min (H : TabE B) (h : Rel X s a w Γ β) (hh : s.hd = []) {args : Array Operand} {ats : Array TypeId} (ho : o.op = .call { callee := .builtin .min, args := args, argTypes := ats }) (hg : G std M F n kl (stepOp std M o s k) r) : OpS P o a w (DoneS w X M F kl s.tm.length n k r) := by
  simp only [stepOp, ho] at hg
  split at hg
  · rename_i x y hx
    have hx' : args = #[x, y] := by cases args; simp_all
    subst hx'
    split at hg
    · rename_i i u j v h1 h2
      have e1 := h.litPeek h1
      have e2 := h.litPeek h2
      exact wp_valueS (v := .int i (std.mn u v)) (fun w => by simp [execOp, ho, resolve, invoke, builtin, e1, e2, Builtin.min_, Builtin.min2, std]) (done_def H h hh (peek_lit X Γ β w _ rfl) hg)
    · exact (G.no_inv hg).elim
  · exact (G.no_inv hg).elim
theorem csOf_drop (l : List (Ent B)) (m : Nat) : csOf (l.drop m) = (csOf l).drop m := by simp [csOf, List.map_drop]
theorem csOf_take (l : List (Ent B)) (m : Nat) : csOf (l.take m) = (csOf l).take m := by simp [csOf, List.map_take]
/-- A component of a tuple. -/
theorem tup_split : ∀ (vs' : List (Bool × List (VT B))) (css : List (List Value)) (E : List (Ent B)) (i : Nat) (b : Bool) (cs : List (VT B)), (vs'.map (·.2)).flatten = vs E → css.flatten = csOf E → css.map List.length = vs'.map (fun x => x.2.length) → vs'[i]? = some (b, cs) →
    ∃ E', (∀ y ∈ E', y ∈ E) ∧ vs E' = cs ∧ css[i]? = some (csOf E')
  | [], css, E, i, b, cs, _, _, _, h => by simp at h
  | (b0, cs0) :: vs', css, E, i, b, cs, h1, h2, h3, h4 => by
    cases css with
    | nil => simp at h3
    | cons c0 css =>
      simp only [List.map_cons, List.cons.injEq] at h3
      simp only [List.map_cons, List.flatten_cons] at h1 h2
      have e1 : cs0 = vs (E.take cs0.length) := by
        rw [show vs (E.take cs0.length) = (vs E).take cs0.length by simp [vs, List.map_take], ← h1, List.take_left' rfl]
      have e2 : c0 = csOf (E.take cs0.length) := by rw [csOf_take, ← h2, ← h3.1, List.take_left' rfl]
      have e3 : (vs'.map (·.2)).flatten = vs (E.drop cs0.length) := by
        rw [show vs (E.drop cs0.length) = (vs E).drop cs0.length by simp [vs, List.map_drop], ← h1, List.drop_left' rfl]
      have e4 : css.flatten = csOf (E.drop cs0.length) := by rw [csOf_drop, ← h2, ← h3.1, List.drop_left' rfl]
      cases i with
      | zero =>
        simp only [List.getElem?_cons_zero, Option.some.injEq, Prod.mk.injEq] at h4
        exact ⟨E.take cs0.length, fun y hy => List.mem_of_mem_take hy, by rw [← e1, h4.2], by rw [List.getElem?_cons_zero, e2]⟩
      | succ i =>
        obtain ⟨E', k1, k2, k3⟩ := tup_split vs' css _ i b cs e3 e4 h3.2 (by simpa using h4)
        exact ⟨E', fun y hy => List.mem_of_mem_drop (k1 y hy), k2, by simpa using k3⟩
theorem op_extract (H : TabP P B) (h : Rel X s a w Γ β) (hh : s.hd = []) {x : Operand} {i : Nat} (ho : o.op = .extract x i) (hg : G std M F n kl (stepOp std M o s k) r) : OpS P o a w (DoneS w X M F kl s.tm.length n k r) := by
  simp only [stepOp, ho] at hg
  split at hg
  · rename_i vs' hx
    obtain ⟨E, hE⟩ := h.peek 0 x
    rw [hx] at hE
    split at hg
    · rename_i b cs hi
      split at hg
      · rename_i hone
        obtain ⟨s1, h1, hg⟩ := G.ofOpt_inv hg
        obtain ⟨css, w1, w2, w3⟩ := hE.wr
        obtain ⟨E', k1, k2, k3⟩ := tup_split vs' css E i b cs hE.lv w1.symm w2 hi
        unfold S.grab at h1
        rw [← k2] at h1
        obtain ⟨Γ1, m1, m2, m3, m4⟩ := h.grabF H.toTabE E' (fun v => v) (fun y hy => (hE.lf y (k1 y hy)).1.none_of (hE.lf y (k1 y hy)).2) h1
        rw [h.hd0 hh] at m2
        have hcs : csOf (Γ1 0) = csOf E' := by simpa [csOf] using m2
        have hlen : (Γ1 0).length = cs.length := by rw [← cs_length, hcs, cs_length, ← vs_length, k2]
        have hval : ∃ v, (((vs'.zip css).map fun x => if x.1.1 then Value.agg x.2.toArray else x.2.headD undef).toArray)[i]? = some v ∧ v = if b then .agg (csOf E').toArray else (csOf E').headD undef := by
          have hz : (vs'.zip css)[i]? = some ((b, cs), csOf E') := List.getElem?_zip_eq_some.2 ⟨hi, k3⟩
          refine ⟨_, ?_, rfl⟩
          rw [List.getElem?_toArray, List.getElem?_map, hz]
          rfl
        obtain ⟨v, v1, v2⟩ := hval
        refine wp_valueS (v := v) (fun w => by simp only [execOp, ho, w3, Instr.extract, v1]; rfl) ⟨rfl, ?_⟩
        rw [← m3]
        cases b with
        | true =>
          refine done_lay H.toTabE m1 (x := .agg cs) ?_ hlen.symm hg
          show v = _
          rw [v2, hcs]; rfl
        | false =>
          have h1' : cs.length = 1 := by simpa using hone
          refine done_lay H.toTabE m1 (x := .one .dead) ?_ (by rw [hlen, h1']; rfl) hg
          show csOf (Γ1 0) = [v]
          rw [hcs, v2]
          have : (csOf E').length = 1 := by rw [cs_length, ← vs_length, k2, h1']
          match csOf E', this with
          | [c], _ => rfl
      · exact (G.no_inv hg).elim
    · exact (G.no_inv hg).elim
  · exact (G.no_inv hg).elim
end
end Go.I

/-! ISem22 -/
set_option linter.unusedVariables false
set_option linter.unusedSimpArgs false
namespace Go.I
open Go.RowKit Go.Proofs.YtogfddilolannaaDoorW.PrintWords
section
variable {P : Program} {B : Tab} {M : FuncId → List Md} {F : FuncId → Option (Fi B)} {kl : KL}
variable {X : Base B} {a : Act} {β : Nat → Nat} {o : Oper} {n : Nat} {k : S B → Tr B} {r : Res B} {Q : Exit → Act → World → Prop}
variable {s : S B} {w : World} {Γ : Gh B}
/-- What is appended: elements and their cells, in memory. -/
structure Src (w : World) (e : TypeId) (ys : List (B.T e)) (c : Value) (D : Nat → Prop) (N : Nat) (inner : List Value) (Dk : Nat → Nat → Prop) : Prop where
  form : ∃ A cap, c = .slice A ys.length cap ∧ (0 < ys.length → ∃ ad, A = some ad ∧ ∀ j u, inner[j]? = some u → w.cell? (ad.add j) = some u)
  len : inner.length = ys.length * B.size e
  one : ∀ u ∈ inner, u.oneCell' = true
  dis : ∀ j k b, Dk j b → Dk k b → j = k
  sub : ∀ k b, Dk k b → D b
  els : ∀ (j : Nat) x, ys[j]? = some x → LsR (Own w N) (B.enc e x) ((inner.drop (j * B.size e)).take (B.size e)) (Dk j)
theorem own_src (H : TabE B) {e : TypeId} (hsz : 0 < B.size e) {w : World} {N : Nat} {ys : List (B.T e)} {c : Value} {D} (h : Own w (N + 1) (.own e ys : VT B) c D) : ∃ inner Dk, Src w e ys c D N inner Dk := by
  obtain ⟨inner, hq, hb, Dk, h3, h4, h5⟩ := h
  obtain ⟨A, cap, rfl, hle⟩ := q_slice hq
  refine ⟨inner, Dk, ⟨A, cap, rfl, fun hp => q_cells hq hp⟩, hq.1, fun u hu => ?_, h3, fun k b hb => (h4 k b hb).1, h5⟩
  obtain ⟨i, hi⟩ := List.getElem?_of_mem hu
  have hil : i < ys.length * B.size e := by rw [← hq.1]; exact (List.getElem?_eq_some_iff.1 hi).1
  have hj : i / B.size e < ys.length := (Nat.div_lt_iff_lt_mul hsz).2 hil
  have hk : i % B.size e < B.size e := Nat.mod_lt _ hsz
  obtain ⟨h6, Dj, h7, _, _⟩ := h5 _ _ (List.getElem?_eq_getElem hj)
  have hc : ((inner.drop (i / B.size e * B.size e)).take (B.size e))[i % B.size e]? = some u := by
    rw [List.getElem?_take, if_pos hk, List.getElem?_drop, Nat.div_add_mod']
    exact hi
  have hv : i % B.size e < (B.enc e ys[i / B.size e]).length := by rw [H.enc_len]; exact hk
  have := h7 _ _ _ (List.getElem?_eq_getElem hv) hc
  have hl : LeafR (⟨w, none_, none_, fun _ => none, fun _ _ => False, []⟩ : Base B) none_ (fun _ => []) (fun _ => 0) w _ u _ := Own.leaf this
  exact hl.oneCell (by rintro hd; rw [hd] at this; cases N <;> exact this.elim)
theorem flat_get {α : Type} {size : Nat} : ∀ (L : List (List α)), (∀ x ∈ L, x.length = size) → ∀ j i, i < size → L.flatten[j * size + i]? = L[j]?.bind (·[i]?)
  | [], _, j, i, hi => by simp
  | x :: L, h, 0, i, hi => by
    rw [List.flatten_cons, Nat.zero_mul, Nat.zero_add, List.getElem?_append_left (by rw [h x (by simp)]; exact hi)]
    simp
  | x :: L, h, j + 1, i, hi => by
    rw [List.flatten_cons, List.getElem?_append_right (by rw [h x (by simp), Nat.add_mul]; omega), h x (by simp)]
    rw [show (j + 1) * size + i - size = j * size + i by rw [Nat.add_mul]; omega, flat_get L (fun y hy => h y (by simp [hy])) j i hi]
    simp
theorem flat_len {α : Type} {size : Nat} : ∀ (L : List (List α)), (∀ x ∈ L, x.length = size) → L.flatten.length = L.length * size
  | [], _ => by simp
  | x :: L, h => by rw [List.flatten_cons, List.length_append, h x (by simp), flat_len L (fun y hy => h y (by simp [hy])), List.length_cons, Nat.add_mul]; omega
def litVal (v : VT B) : Value :=
  match v with
  | .lit u => u
  | _ => undef
theorem lit_src (H : TabE B) {e : TypeId} (hsz : 0 < B.size e) (hp : ∀ x v, v ∈ B.enc e x → ∃ u : Value, v = .lit u ∧ u.oneCell' = true) {w : World} {ys : List (B.T e)} {c : Value} {D} (h : LitCells w e ys c) : ∃ inner Dk, Src w e ys c D 0 inner Dk := by
  obtain ⟨A, cap, rfl, hle, hc⟩ := h
  have hL : ∀ x ∈ ys.map (fun x => (B.enc e x).map litVal), x.length = B.size e := by
    intro x hx
    obtain ⟨y, _, rfl⟩ := List.mem_map.1 hx
    rw [List.length_map, H.enc_len]
  have hget : ∀ j i, i < B.size e → (ys.map (fun x => (B.enc e x).map litVal)).flatten[j * B.size e + i]? = ys[j]?.bind fun x => (B.enc e x)[i]?.map litVal := by
    intro j i hi
    rw [flat_get _ hL j i hi, List.getElem?_map]
    cases ys[j]? <;> simp
  have hlen : (ys.map (fun x => (B.enc e x).map litVal)).flatten.length = ys.length * B.size e := by rw [flat_len _ hL, List.length_map]
  refine ⟨(ys.map fun x => (B.enc e x).map litVal).flatten, fun _ _ => False, ⟨A, cap, rfl, fun h0 => ?_⟩, hlen, fun u hu => ?_, fun _ _ _ h => h.elim, fun _ _ h => h.elim, fun j x hx => ?_⟩
  · obtain ⟨ad, rfl, hcell⟩ := hc h0
    refine ⟨ad, rfl, fun j u hu => ?_⟩
    have hjl : j < ys.length * B.size e := by rw [← hlen]; exact (List.getElem?_eq_some_iff.1 hu).1
    have hk : j % B.size e < B.size e := Nat.mod_lt _ hsz
    have hdj : j / B.size e < ys.length := (Nat.div_lt_iff_lt_mul hsz).2 hjl
    have e1 := hget (j / B.size e) (j % B.size e) hk
    rw [Nat.div_add_mod', hu, List.getElem?_eq_getElem hdj] at e1
    have hv : j % B.size e < (B.enc e ys[j / B.size e]).length := by rw [H.enc_len]; exact hk
    simp only [Option.bind_some, List.getElem?_eq_getElem hv, Option.map_some, Option.some.injEq] at e1
    obtain ⟨u', hu', _⟩ := hp _ _ (List.getElem_mem hv)
    rw [hu'] at e1
    have e1 : u = u' := e1
    subst e1
    have := (hcell _ _ _ _ (List.getElem?_eq_getElem hdj) (by rw [List.getElem?_eq_getElem hv, hu'])).1
    rwa [Nat.div_add_mod'] at this
  · obtain ⟨l, hl, hu⟩ := List.mem_flatten.1 hu
    obtain ⟨y, _, rfl⟩ := List.mem_map.1 hl
    obtain ⟨v, hv, rfl⟩ := List.mem_map.1 hu
    obtain ⟨u', rfl, h1⟩ := hp _ _ hv
    exact h1
  · refine ⟨?_, fun _ _ => False, fun i v c hv hc' => ?_, fun _ _ _ h => h.elim, fun _ _ h => h.elim⟩
    · have hj := (List.getElem?_eq_some_iff.1 hx).1
      rw [H.enc_len, List.length_take, List.length_drop, hlen]
      have : (j + 1) * B.size e ≤ ys.length * B.size e := Nat.mul_le_mul_right _ hj
      rw [Nat.add_mul] at this
      omega
    · have hi : i < B.size e := by rw [← H.enc_len e x]; exact (List.getElem?_eq_some_iff.1 hv).1
      rw [List.getElem?_take, if_pos hi, List.getElem?_drop, hget j i hi, hx] at hc'
      simp only [Option.bind_some, hv, Option.map_some, Option.some.injEq] at hc'
      obtain ⟨u', rfl, h1⟩ := hp _ _ (List.mem_of_getElem? hv)
      exact ⟨hc'.symm, h1⟩
theorem run_append_zero (w : World) (t ty e : TypeId) (i : TypeInfo) (ht : P.underlying t = some (.slice e)) (hi : P.info? e = some i) (A : Option Addr) (m cap : Nat) (hle : m ≤ cap) (A' : Option Addr) (cap' : Nat) :
    (Builtin.append_ #[t, t] ty #[.slice A m cap, .slice A' 0 cap']).run P w = .ok (.slice A m cap) w := by
  have hl : ∀ ad, (loadCells ad 0).run P w = .ok #[] w := fun ad => by
    have := run_loadCells_list (P := P) w ad [] (fun j v hj => by simp at hj)
    simpa using this
  cases A <;> cases A' <;> simp [Builtin.append_, run_underlying ht, sizeOf, typeInfo, hi, Builtin.lenOf, Builtin.firstCells, hle, storeCells, hl]
/-- A row and what is appended. -/
theorem run_app (H : TabP P B) {t ty e : TypeId} (he : B.elem t = some e) {N1 N2 : Nat} {xs ys : List (B.T e)} {c1 c2 : Value} {D1 D2 : Nat → Prop} (h1 : Own w (N1 + 1) (.own e xs : VT B) c1 D1) {inner2 : List Value} {Dk2 : Nat → Nat → Prop} (h2 : Src w e ys c2 D2 N2 inner2 Dk2)
    (hdis : ∀ b, D1 b → ¬ D2 b) (hlt : ∀ b, D1 b ∨ D2 b → b < w.heap.size) (hroom : (xs.length + ys.length) * B.bytes e ≤ 140737488355328) (hmax : xs.length + ys.length ≤ maxLen) :
    ∃ c' w', (Builtin.append_ #[t, t] ty #[c1, c2]).run P w = .ok c' w' ∧ w.grownBy w' c1.ownBlock ∧ (∀ b, c1.ownBlock = some b → D1 b) ∧
      ∃ n, Own w' n (.own e (xs ++ ys) : VT B) c' (fun b => D1 b ∨ D2 b ∨ (w.heap.size ≤ b ∧ b < w'.heap.size)) := by
  obtain ⟨ht, i, v, r1, r2, r3, r4, r5, r6, r7⟩ := H.elem_ok t e he
  obtain ⟨inner, hq, hb, Dk, h3, h4, h5⟩ := h1
  obtain ⟨A2, cap2, rfl, hform⟩ := h2.form
  have key : ∃ c' w', (Builtin.append_ #[t, t] ty #[c1, .slice A2 ys.length cap2]).run P w = .ok c' w' ∧ QRow w' 0 e (B.size e) c' (xs.length + ys.length) (inner ++ inner2) ∧ w.grownBy w' c1.ownBlock ∧ (c'.ownBlock = c1.ownBlock ∨ ∃ b, c'.ownBlock = some b ∧ w.heap.size ≤ b) := by
    by_cases hm : ys.length = 0
    · have hi2 : inner2 = [] := List.eq_nil_of_length_eq_zero (by rw [h2.len, hm, Nat.zero_mul])
      obtain ⟨A, cap, rfl, hle⟩ := q_slice hq
      refine ⟨_, w, by rw [hm]; exact run_append_zero w t ty e i ht r1 A xs.length cap hle A2 cap2, by rw [hm, hi2, List.append_nil]; exact hq, ⟨rfl, rfl, rfl, Nat.le_refl _, fun _ _ _ => rfl⟩, .inl rfl⟩
    · obtain ⟨ad, rfl, hcell⟩ := hform (by omega)
      exact q_append (P := P) w 0 t ty e i v (B.size e) (B.bytes e) ht r1 r2 r3 r4 r5 r6 c1 xs.length inner hq ad ys.length cap2 inner2 h2.len hcell h2.one (by omega) hmax hroom (Nat.zero_le _)
  obtain ⟨c', w', k1, k2, k3, k4⟩ := key
  refine ⟨c', w', k1, k3, hb, max N1 N2 + 1, inner ++ inner2, by rw [List.length_append]; exact k2, fun b hbb => ?_, fun j b => if j < xs.length then Dk j b else Dk2 (j - xs.length) b, ?_, ?_, ?_⟩
  · rcases k4 with k4 | ⟨b', k4, k5⟩
    · rw [k4] at hbb; exact .inl (hb b hbb)
    · rw [k4] at hbb
      injection hbb with hbb
      subst hbb
      exact .inr (.inr ⟨k5, q_lt k2 b' k4⟩)
  · intro j k b hj hk
    split at hj <;> split at hk
    · exact h3 j k b hj hk
    · exact (hdis b (h4 j b hj).1 (h2.sub _ b hk)).elim
    · exact (hdis b (h4 k b hk).1 (h2.sub _ b hj)).elim
    · have := h2.dis _ _ b hj hk; omega
  · intro j b hj
    have hD : D1 b ∨ D2 b := by
      split at hj
      · exact .inl (h4 j b hj).1
      · exact .inr (h2.sub _ b hj)
    refine ⟨hD.imp id .inl, fun hc => ?_⟩
    rcases k4 with k4 | ⟨b', k4, k5⟩
    · rw [k4] at hc
      split at hj
      · exact (h4 j b hj).2 hc
      · exact hdis b (hb b hc) (h2.sub _ b hj)
    · rw [k4] at hc
      injection hc with hc
      have := hlt b hD
      omega
  · intro j x hx
    have hstay : ∀ b, (D1 b ∨ D2 b) → c1.ownBlock ≠ some b → w'.heap[b]? = w.heap[b]? := fun b hD hne => k3.block b (hlt b hD) (fun e => hne e.symm)
    by_cases hj : j < xs.length
    · rw [List.getElem?_append_left hj] at hx
      have e1 : ((inner ++ inner2).drop (j * B.size e)).take (B.size e) = (inner.drop (j * B.size e)).take (B.size e) := by
        have : (j + 1) * B.size e ≤ xs.length * B.size e := Nat.mul_le_mul_right _ hj
        rw [Nat.add_mul] at this
        rw [List.drop_append_of_le_length (by rw [hq.1]; omega), List.take_append_of_le_length (by rw [List.length_drop, hq.1]; omega)]
      rw [e1]
      refine (h5 j x hx).imp (fun v c Dv hs hR => ?_) (fun b hb => by simp only [hj, if_true]; exact hb)
      exact (hR.move fun b hb' => hstay b (.inl (h4 j b (hs b hb')).1) (h4 j b (hs b hb')).2).le (Nat.le_max_left ..)
    · rw [List.getElem?_append_right (by omega)] at hx
      have e1 : ((inner ++ inner2).drop (j * B.size e)).take (B.size e) = (inner2.drop ((j - xs.length) * B.size e)).take (B.size e) := by
        have hle : xs.length * B.size e ≤ j * B.size e := Nat.mul_le_mul_right _ (by omega)
        rw [List.drop_append, List.drop_eq_nil_of_le (by rw [hq.1]; exact hle), List.nil_append, hq.1, Nat.sub_mul]
      rw [e1]
      refine (h2.els _ x hx).imp (fun v c Dv hs hR => ?_) (fun b hb => by simp only [hj, if_false]; exact hb)
      exact (hR.move fun b hb' => hstay b (.inr (h2.sub _ b (hs b hb'))) (fun hc => hdis b (hb b hc) (h2.sub _ b (hs b hb')))).le (Nat.le_max_right ..)
theorem one_cs {x : WT B} {c : Value} {cs : List Value} (h : x.isOne = true) (hw : WR x c cs) : cs = [c] := by
  cases x with
  | one v => exact hw
  | agg l => cases h
  | tup l => cases h
theorem op_append (H : TabP P B) (h : Rel X s a w Γ β) (hh : s.hd = []) {args : Array Operand} {ats : Array TypeId} (ho : o.op = .call { callee := .builtin .append, args := args, argTypes := ats }) (hg : G std M F n kl (stepOp std M o s k) r) : o.wp P a w (Done X M F kl s.tm.length n k r) Q := by
  simp only [stepOp, ho] at hg
  split at hg
  · rename_i x y t t2 rest hx ht
    have hx' : args = #[x, y] := by cases args; simp_all
    subst hx'
    split at hg
    · rename_i e he
      split at hg
      · rename_i ht2
        subst ht2
        obtain ⟨s1, h1, hg⟩ := G.ofOpt_inv hg
        obtain ⟨s2, h2, hg⟩ := G.ofOpt_inv hg
        split at hg
        · exact (G.no_inv hg).elim
        rename_i hone
        have hone : (s.peek t2 x).isOne = true ∧ (s1.peek t2 y).isOne = true := by simpa using hone
        obtain ⟨Γ1, E1, k1, k2, k3, k4, k5, k6⟩ := h.take H.toTabE h1
        obtain ⟨Γ2, E2, m1, m2, m3, m4, m5, m6⟩ := k1.take H.toTabE h2
        rw [h.hd0 hh] at k2
        have c1 := one_cs hone.1 k5
        have c2 := one_cs hone.2 m5
        rw [k2, c1, c2] at m2
        have hcs : csOf (Γ2 0) = [a.eval x, a.eval y] := by simpa [csOf] using m2
        have hhd : s2.hd = vs (Γ2 0) := m1.root 0
        -- two entries
        obtain ⟨z1, z2, hz⟩ : ∃ z1 z2, Γ2 0 = [z1, z2] := by
          have : (Γ2 0).length = 2 := by rw [← cs_length, hcs]; rfl
          match Γ2 0, this with
          | [z1, z2], _ => exact ⟨z1, z2, rfl⟩
        rw [hz] at hcs hhd
        have hc1 : z1.c = a.eval x := by simp [csOf] at hcs; exact hcs.1
        have hc2 : z2.c = a.eval y := by simp [csOf] at hcs; exact hcs.2
        have hl1 := m1.leaf 0 z1 (by rw [hz]; simp)
        have hl2 := m1.leaf 0 z2 (by rw [hz]; simp)
        have hdis : ∀ b, z1.D b → ¬ z2.D b := fun b hb hb' => by
          have := (m1.disj 0 0 0 1 z1 z2 (by rw [hz]; rfl) (by rw [hz]; rfl) b hb hb').2
          omega
        have hlt1 : ∀ b, z1.D b → b < w.heap.size := fun b hb => (m1.dlt 0 z1 b (by rw [hz]; simp) hb).1
        have hlt2 : ∀ b, z2.D b → b < w.heap.size := fun b hb => (m1.dlt 0 z2 b (by rw [hz]; simp) hb).1
        have heval : ∀ {c' : Value} {w' : World}, (Builtin.append_ #[t2, t2] o.type #[a.eval x, a.eval y]).run P w = .ok c' w' → (execOp a.eval o).run P w = .ok (.value c') w' := by
          intro c' w' hr
          have hats : ∀ x y : Value, (Builtin.append_ ats o.type #[x, y]) = Builtin.append_ #[t2, t2] o.type #[x, y] := by
            intro x y
            have e0 : ats[0]? = some t2 := by rw [← Array.getElem?_toList, ht]; rfl
            have e1 : ats[1]? = some t2 := by rw [← Array.getElem?_toList, ht]; rfl
            unfold Builtin.append_
            simp only [e0, e1]
            rfl
          simp [execOp, ho, resolve, invoke, builtin, hats, hr]
        have fin : ∀ (xs ys : List (B.T e)) (N : Nat) (inner2 : List Value) (Dk2 : Nat → Nat → Prop) (D2 : Nat → Prop), (∃ N1, Own w (N1 + 1) (.own e xs : VT B) z1.c z1.D) → Src w e ys z2.c D2 N inner2 Dk2 → (∀ b, D2 b → z2.D b) → ((xs.length : Int) + ys.length) * B.bytes e ≤ 140737488351232 →
            G std M F n kl (k (({ s2 with hd := [.own e (xs ++ ys)] } : S B).lay o.dst (.one .dead))) r → o.wp P a w (Done X M F kl s.tm.length n k r) Q := by
          rintro xs ys N inner2 Dk2 D2 ⟨N1, hO⟩ hS hD2 hroom hg
          obtain ⟨ht', i, v, r1, r2, r3, r4, r5, r6, r7⟩ := H.elem_ok t2 e he
          have hroom' : (xs.length + ys.length) * B.bytes e ≤ 140737488351232 := by
            have : (((xs.length + ys.length) * B.bytes e : Nat) : Int) ≤ 140737488351232 := by
              rw [Int.natCast_mul, Int.natCast_add]; exact hroom
            omega
          have hmax : xs.length + ys.length ≤ maxLen := by
            have : xs.length + ys.length ≤ (xs.length + ys.length) * B.bytes e := Nat.le_mul_of_pos_right _ r7
            simp only [maxLen]
            omega
          obtain ⟨c', w', q1, q2, q3, q4⟩ := run_app (P := P) (ty := o.type) H he hO hS (fun b hb hb' => hdis b hb (hD2 b hb')) (fun b hb => hb.elim (hlt1 b) fun hb => hlt2 b (hD2 b hb)) (by omega) hmax
          rw [hc1, hc2] at q1
          refine wp_value (heval q1) ?_
          rw [← k3, ← m3]
          refine done_row H.toTabE m1 (E := []) q4 (fun b hb => ?_) (fun b hb hne => q2.block b hb fun hc => ?_) q2.size q2.os q2.tape q2.output hg
          · rcases hb with hb | hb | hb
            · exact .inl ⟨z1, by rw [hz]; simp, hb⟩
            · exact .inl ⟨z2, by rw [hz]; simp, hD2 b hb⟩
            · exact .inr hb
          · exact hne z1 (by rw [hz]; simp) (q3 b hc.symm)
        obtain ⟨ht', i, v, r1, r2, r3, r4, r5, r6, r7⟩ := H.elem_ok t2 e he
        split at hg
        · rename_i e1 xs e2 ys hd2
          split at hg
          · rename_i heq
            subst heq
            split at hg
            · rename_i heq
              subst heq
              obtain ⟨hroom, hg⟩ := G.guard_inv hg
              rw [hhd] at hd2
              simp only [vs, List.map_cons, List.map_nil, List.cons.injEq, and_true] at hd2
              rw [hd2.1] at hl1
              rw [hd2.2] at hl2
              obtain ⟨N1, hl1⟩ := hl1
              obtain ⟨N2, hl2⟩ := hl2
              cases N1 with
              | zero => exact hl1.elim
              | succ N1 =>
                cases N2 with
                | zero => exact hl2.elim
                | succ N2 =>
                  obtain ⟨inner, Dk, hS⟩ := own_src H.toTabE r6 hl2
                  exact fin xs ys N2 inner Dk z2.D ⟨N1, hl1⟩ hS (fun _ h => h) (by simpa [std] using hroom) hg
            · exact (G.no_inv hg).elim
          · exact (G.no_inv hg).elim
        · rename_i e1 xs e2 ys hd2
          split at hg
          · rename_i heq
            subst heq
            split at hg
            · rename_i heq
              subst heq
              split at hg
              · rename_i hpl
                obtain ⟨hroom, hg⟩ := G.guard_inv hg
                rw [hhd] at hd2
                simp only [vs, List.map_cons, List.map_nil, List.cons.injEq, and_true] at hd2
                rw [hd2.1] at hl1
                rw [hd2.2] at hl2
                obtain ⟨N1, hl1⟩ := hl1
                obtain ⟨N2, hl2⟩ := hl2
                cases N1 with
                | zero => exact hl1.elim
                | succ N1 =>
                  obtain ⟨inner, Dk, hS⟩ := lit_src (D := none_) H.toTabE r6 (H.plain_ok _ hpl) (imm_cells hl2)
                  exact fin xs ys 0 inner Dk none_ ⟨N1, hl1⟩ hS (fun _ h => h.elim) (by simpa [std] using hroom) hg
              · exact (G.no_inv hg).elim
            · exact (G.no_inv hg).elim
          · exact (G.no_inv hg).elim
        · exact (G.no_inv hg).elim
      · exact (G.no_inv hg).elim
    · exact (G.no_inv hg).elim
  · exact (G.no_inv hg).elim
end
end Go.I

/-! ISem23 -/
set_option linter.unusedVariables false
set_option linter.unusedSimpArgs false
namespace Go.I
open Go.RowKit Go.Proofs.YtogfddilolannaaDoorW.PrintWords
section
variable {P : Program} {B : Tab} {M : FuncId → List Md} {F : FuncId → Option (Fi B)} {kl : KL}
variable {X : Base B} {a : Act} {β : Nat → Nat} {o : Oper} {n : Nat} {k : S B → Tr B} {r : Res B} {Q : Exit → Act → World → Prop}
variable {s : S B} {w : World} {Γ : Gh B}
/-- Operations that leave the world as it is. -/
def stillK (o : Oper) : Bool :=
  match o.op with
  | .move _ | .convert _ _ _ | .assign _ | .build _ _ | .extract _ _ | .pick _ _ _ | .nilCheck _ | .unOp _ _ _ | .binOp _ _ _ _ _ | .load _ _ | .fieldAddr _ _ _ | .indexAddr _ _ _ | .index _ _ _ | .slice _ _ _ _ none => true
  | .call { callee := .builtin .len, .. } => true
  | .call { callee := .builtin .min, .. } => true
  | _ => false
theorem op_still (H : TabP P B) (h : Rel X s a w Γ β) (hh : s.hd = []) (hk : stillK o = true) (hcv : ∀ t u x, o.op = .convert t u x → cvOK (s.peek 0 x) = true) (hg : G std M F n kl (stepOp std M o s k) r) : OpS P o a w (DoneS w X M F kl s.tm.length n k r) := by
  cases ho : o.op with
  | move x => exact op_move H.toTabE h hh ho hg
  | convert t u x => exact op_convertS H h hh ho (hcv _ _ _ ho) hg
  | assign x => exact op_assign H.toTabE h hh ho hg
  | build t ps => exact op_build H h hh ho hg
  | extract x i => exact op_extract H h hh ho hg
  | pick c x y => exact op_pick H.toTabE h hh ho hg
  | load t x => exact op_load H h hh ho hg
  | nilCheck x => exact op_nilCheck H.toTabE h hh ho hg
  | binOp op t x y u => exact op_binOp H h hh ho hg
  | unOp op t x => exact op_unOp H.toTabE h hh ho hg
  | slice t x lo hi m =>
    cases m with
    | none => exact op_slice H h hh ho hg
    | some _ => simp only [stepOp, ho] at hg; exact (G.no_inv hg).elim
  | fieldAddr t x f => exact op_fieldAddr H h hh ho hg
  | indexAddr t x i => exact op_indexAddr H h hh ho hg
  | index t x i => exact op_index H h hh ho hg
  | call c =>
    obtain ⟨ce, args, ats⟩ := c
    cases ce with
    | builtin b =>
      cases b with
      | len => exact op_len H h hh ho hg
      | min => exact op_min H.toTabE h hh ho hg
      | _ => simp [stillK, ho] at hk
    | _ => simp [stillK, ho] at hk
  | _ => simp [stillK, ho] at hk
theorem stepOps_append (all : List Oper) : ∀ (l1 l2 : List Oper) (s : S B) (k : S B → Tr B), stepOps std M all (l1 ++ l2) s k = stepOps std M all l1 s fun s' => stepOps std M all l2 s' k
  | [], _, _, _ => rfl
  | o :: os, l2, s, k => by
    simp only [List.cons_append, stepOps, stepOps_append all os l2]
/-- What is drawn has no bearing. -/
theorem Rel.redraw (H : TabE B) (h : Rel X s a w Γ β) (hh : s.hd = []) (d : Nat) : Rel X s a { w with drawn := d } Γ β := by
  have h0 := h.hd0 hh
  have h1 := h.reH (w' := { w with drawn := d }) H [] (fun _ e he => by cases he) (fun j k x y hx => by simp at hx) (fun e he => by cases he) (fun b _ _ => rfl) (Nat.le_refl _) rfl rfl rfl
  have e1 : setG Γ 0 [] = Γ := by rw [← h0]; funext r; unfold setG; split <;> simp_all
  have e2 : ({ s with hd := vs ([] : List (Ent B)) } : S B) = s := by obtain ⟨x, y, z, g⟩ := s; simp only at hh; subst hh; rfl
  rw [e1, e2] at h1
  exact h1
def isStore (o : Oper) : Bool := match o.op with
  | .store _ _ _ => true
  | _ => false
/-- Every operation does what is told, in so many calls and rounds. -/
def OpsOK (P : Program) (B : Tab) (M : FuncId → List Md) (F : FuncId → Option (Fi B)) (n : Nat) : Prop :=
  ∀ (kl : KL) (X : Base B) (s : S B) (a : Act) (w : World) (Γ : Gh B) (β : Nat → Nat) (o : Oper) (k : S B → Tr B) (r : Res B) (Q : Exit → Act → World → Prop) (m : Nat), m ≤ n → ((∀ t b, ¬ X.ro t b) ∨ (isStore o = false ∧ ∀ t b, X.ro t b → 2 * t + 3 ∉ touchOf M o s)) → Rel X s a w Γ β → s.hd = [] →
    G std M F m kl (stepOp std M o s k) r → o.wp P a w (Done X M F kl s.tm.length m k r) Q
theorem peek_undef (X : Base B) (Γ : Gh B) (β : Nat → Nat) (w : World) : Peek X Γ β w (.tup []) undef [] :=
  ⟨rfl, ⟨[], rfl, rfl, rfl⟩, fun y hy => by cases hy⟩
theorem setTm_same {s : S B} {d : Nat} {x : WT B} (h : s.tm.getD d (.one .dead) = x) : s.setTm d x = s ∨ ¬ d < s.tm.length := by
  by_cases hd : d < s.tm.length
  · left
    unfold S.setTm
    rw [setAt_eq]
    have : s.tm[d] = x := by simpa [List.getD_eq_getElem?_getD, hd] using h
    rw [← this, List.set_getElem_self]
  · exact .inr hd
theorem tm_lit (h : Rel X s a w Γ β) {d : Nat} {v : Value} (hd : s.tm.getD d (.one .dead) = .one (.lit v)) : a.tmps[d]? = some v ∧ d < s.tm.length := by
  have hlt : d < s.tm.length := by
    rcases Nat.lt_or_ge d s.tm.length with h1 | h1
    · exact h1
    · simp [List.getD_eq_getElem?_getD, List.getElem?_eq_none h1] at hd
  have e := h.litPeek (ty := 0) (x := .tmp d) (v := v) (by simp only [S.peek, hd]; rfl)
  have hlt' : d < a.tmps.size := by rw [← h.size]; exact hlt
  refine ⟨?_, hlt⟩
  rw [Array.getElem?_eq_getElem hlt']
  simpa [Act.eval, hlt'] using e
theorem tm_undef (h : Rel X s a w Γ β) {d : Nat} (hd : s.tm.getD d (.one .dead) = .tup []) : a.tmps[d]? = some undef := by
  have hlt : d < s.tm.length := by
    rcases Nat.lt_or_ge d s.tm.length with h1 | h1
    · exact h1
    · simp [List.getD_eq_getElem?_getD, List.getElem?_eq_none h1] at hd
  have hlt' : d < a.tmps.size := by rw [← h.size]; exact hlt
  have hx : s.tm[d]? = some (.tup []) := by
    rw [List.getElem?_eq_getElem hlt]
    simpa [List.getD_eq_getElem?_getD, hlt] using hd
  obtain ⟨css, h1, h2, h3⟩ := h.tm d _ _ hx (Array.getElem?_eq_getElem hlt')
  have : css = [] := by simpa using h2
  subst this
  rw [Array.getElem?_eq_getElem hlt', h3]
  rfl
theorem dstOf_bind {ops : Array Oper} {j d : Nat} (h : dstOf ops.toList j = some d) : (ops[j]?).bind (·.dst) = some d := by
  unfold dstOf at h
  rw [← Array.getElem?_toList]
  cases hj : ops.toList[j]? with
  | none => rw [hj] at h; cases h
  | some o => rw [hj] at h; exact h
/-- What is left of a region's operations. -/
theorem ops_sound (H : TabP P B) {ops : Array Oper} {N : Nat} (HO : OpsOK P B M F N) (hro : ∀ t b, ¬ X.ro t b) {L : Nat} :
    ∀ (l : List Oper) (i : Nat) {s : S B} {a : Act} {w : World} {Γ : Gh B} {β : Nat → Nat} {n : Nat} {r : Res B}, n ≤ N → ops.toList.drop i = l → Rel X s a w Γ β → s.hd = [] → s.tm.length = L → G std M F n kl (stepOps std M ops.toList l s k) r →
      (∀ a' w', Done X M F kl L n k r a' w' → Q .normal a' w') → wpOps P ops Q (List.range' i l.length) a w
  | [], i, s, a, w, Γ, β, n, r, hn, hl, h, hh, hL, hg, hQ => by
    simp only [List.length_nil, List.range'_zero, wpOps]
    exact hQ a w ⟨s, Γ, β, n, Nat.le_refl _, h, hh, hL, hg⟩
  | o :: os, i, s, a, w, Γ, β, n, r, hn, hl, h, hh, hL, hg, hQ => by
    have hi : ops[i]? = some o := by
      rw [← Array.getElem?_toList]
      have : (ops.toList.drop i)[0]? = some o := by rw [hl]; rfl
      rw [List.getElem?_drop] at this
      simpa using this
    have hl' : ops.toList.drop (i + 1) = os := by
      rw [← List.drop_drop, hl]; rfl
    simp only [List.length_cons, List.range'_succ, wpOps, hi]
    -- an operation that is done
    have go : ∀ {s : S B} {Γ : Gh B}, Rel X s a w Γ β → s.hd = [] → s.tm.length = L → G std M F n kl (stepOp std M o s fun s' => stepOps std M ops.toList os s' k) r → Region.wanted o (yielded ops a.tmps) = true →
        (if Region.wanted o (yielded ops a.tmps) = true then o.wp P a w (wpOps P ops Q (List.range' (i + 1) os.length)) Q ∨ (o.asks P a w ∧ LetsOut Q) else wpOps P ops Q (List.range' (i + 1) os.length) (a.put o.dst undef) w) := by
      intro s Γ h hh hL hg hw
      rw [if_pos hw]
      left
      refine Oper.wp_mono ?_ (HO kl X s a w Γ β o _ r Q n hn (.inl hro) h hh hg)
      rintro a' w' ⟨s', Γ', β', m, hm, k1, k2, k3, k4⟩
      exact ops_sound H HO hro os (i + 1) (Nat.le_trans hm hn) hl' k1 k2 (k3.trans hL) k4 fun a' w' ⟨s', Γ', β', m', hm', k1, k2, k3, k4⟩ => hQ a' w' ⟨s', Γ', β', m', Nat.le_trans hm' hm, k1, k2, k3, k4⟩
    -- an operation that is passed over
    have skip : ∀ {s : S B} {Γ : Gh B}, Rel X s a w Γ β → s.hd = [] → s.tm.length = L → G std M F n kl (stepOps std M ops.toList os (s.def_ o.dst (.tup [])) k) r → ¬ Region.wanted o (yielded ops a.tmps) = true →
        (if Region.wanted o (yielded ops a.tmps) = true then o.wp P a w (wpOps P ops Q (List.range' (i + 1) os.length)) Q ∨ (o.asks P a w ∧ LetsOut Q) else wpOps P ops Q (List.range' (i + 1) os.length) (a.put o.dst undef) w) := by
      intro s Γ h hh hL hg hw
      rw [if_neg hw]
      obtain ⟨Γ', h1, h2, h3⟩ := h.defS H.toTabE hh (peek_undef X Γ β w) o.dst
      exact ops_sound H HO hro os (i + 1) hn hl' h1 h2 (h3.trans hL) hg hQ
    rw [stepOps] at hg
    split at hg
    · rename_i hgd
      exact go h hh hL hg (by simp [Region.wanted, hgd])
    · rename_i j want hgd
      split at hg
      · rename_i d hd
        have hbd := dstOf_bind hd
        split at hg
        · rename_i b hb
          obtain ⟨e1, e2⟩ := tm_lit h hb
          have hy : yielded ops a.tmps j = some b := by simp only [yielded, hbd, Option.bind_some, e1]
          have hst : ∀ b', b = b' → s.setTm d (.one (.lit (.bool b'))) = s := by
            rintro b' rfl
            rcases setTm_same hb with e | e
            · exact e
            · exact absurd e2 e
          rcases G.cond_inv hg with ⟨hbt, hg2⟩ | ⟨hbt, hg2⟩
          · rw [hst true hbt] at hg2
            cases want with
            | true => exact go h hh hL hg2 (by simp [Region.wanted, hgd, hy, hbt])
            | false => exact skip h hh hL hg2 (by simp [Region.wanted, hgd, hy, hbt])
          · rw [hst false hbt] at hg2
            cases want with
            | true => exact skip h hh hL hg2 (by simp [Region.wanted, hgd, hy, hbt])
            | false => exact go h hh hL hg2 (by simp [Region.wanted, hgd, hy, hbt])
        · rename_i hb
          have e1 := tm_undef h hb
          have hy : yielded ops a.tmps j = none := by simp only [yielded, hbd, Option.bind_some, e1]; rfl
          exact skip h hh hL hg (by simp [Region.wanted, hgd, hy])
        · exact (G.no_inv hg).elim
      · exact (G.no_inv hg).elim
theorem Done.le {L n m : Nat} {k : S B → Tr B} {a' : Act} {w' : World} (h : Done X M F kl L m k r a' w') (hm : m ≤ n) : Done X M F kl L n k r a' w' := by
  obtain ⟨s, Γ, β, m', h1, h2⟩ := h
  exact ⟨s, Γ, β, m', Nat.le_trans h1 hm, h2⟩
def exOf : Ex → Exit
  | .normal => .normal
  | .exit id => .exit id
  | .ret => .ret
theorem dead_rel (H : TabE B) {s : S B} {Γ : Gh B} (h : Rel X s a w Γ β) (hh : s.hd = []) (t : Nat) : ∃ Γ', Rel X (s.def_ (some t) (.one .dead)) a w Γ' β ∧ (s.def_ (some t) (.one .dead)).hd = [] ∧ (s.def_ (some t) (.one .dead)).tm.length = s.tm.length := by
  by_cases ht : t < a.tmps.size
  · obtain ⟨Γ', k1, k2, k3⟩ := h.defS H hh (x := .one .dead) (c := a.tmps[t]) (E := [⟨.dead, a.tmps[t], none_⟩]) ⟨rfl, rfl, fun y hy => by simp at hy; subst hy; exact ⟨trivial, fun b hb => hb⟩⟩ (some t)
    have : a.put (some t) a.tmps[t] = a := by
      have e : a.tmps.setIfInBounds t a.tmps[t] = a.tmps := by
        apply Array.ext
        · simp
        · intro i h1 h2
          rw [Array.getElem_setIfInBounds]
          split
          · rename_i e; subst e; rfl
          · rfl
      show ({ a with tmps := a.tmps.setIfInBounds t a.tmps[t] } : Act) = a
      rw [e]
    rw [this] at k1
    exact ⟨Γ', k1, k2, k3⟩
  · obtain ⟨Γ', k1, k2, k3⟩ := h.defS H hh (x := .one .dead) (c := undef) (E := [⟨.dead, undef, none_⟩]) ⟨rfl, rfl, fun y hy => by simp at hy; subst hy; exact ⟨trivial, fun b hb => hb⟩⟩ (some t)
    rw [put_out ht] at k1
    exact ⟨Γ', k1, k2, k3⟩
theorem deads_rel (H : TabE B) : ∀ (ks : List Nat) {s : S B} {Γ : Gh B}, Rel X s a w Γ β → s.hd = [] → ∃ Γ', Rel X (ks.foldl (fun s t => s.def_ (some t) (.one .dead)) s) a w Γ' β ∧ (ks.foldl (fun s t => s.def_ (some t) (.one .dead)) s).hd = [] ∧ (ks.foldl (fun s t => s.def_ (some t) (.one .dead)) s).tm.length = s.tm.length
  | [], s, Γ, h, hh => ⟨Γ, h, hh, rfl⟩
  | t :: ks, s, Γ, h, hh => by
    obtain ⟨Γ', k1, k2, k3⟩ := dead_rel H h hh t
    obtain ⟨Γ2, m1, m2, m3⟩ := deads_rel H ks k1 k2
    exact ⟨Γ2, m1, m2, m3.trans k3⟩
theorem wipe_rel (H : TabE B) : ∀ (tm pre : List (WT B)) (ks : List Nat) {s : S B} {Γ : Gh B}, Rel X s a w Γ β → s.hd = [] → s.tm = pre ++ tm → ownIn ks pre.length tm = false → ∃ Γ', Rel X { s with tm := pre ++ I.wipe ks pre.length tm } a w Γ' β ∧ (I.wipe ks pre.length tm).length = tm.length
  | tm, pre, [], s, Γ, h, hh, hs, ho => ⟨Γ, by rw [show I.wipe [] pre.length tm = tm by unfold I.wipe; rfl, ← hs]; exact h, by unfold I.wipe; rfl⟩
  | [], pre, k :: ks, s, Γ, h, hh, hs, ho => ⟨Γ, by
      rw [show I.wipe (k :: ks) pre.length ([] : List (WT B)) = [] from rfl, ← hs]; exact h, rfl⟩
  | x :: tm, pre, k :: ks, s, Γ, h, hh, hs, ho => by
    simp only [ownIn] at ho
    simp only [I.wipe]
    by_cases hk : k = pre.length
    · rw [if_pos hk] at ho ⊢
      simp only [Bool.or_eq_false_iff] at ho
      obtain ⟨Γ1, k1, k2, k3⟩ := dead_rel H h hh pre.length
      have hx : s.tm.getD pre.length (.one .dead) = x := by rw [hs]; simp
      have he : s.def_ (some pre.length) (.one .dead) = { s with tm := (pre ++ [.one .dead]) ++ tm } := by
        unfold S.def_
        simp only [hx, ho.1, Bool.false_eq_true, if_false]
        rw [setAt_eq, hs]
        simp
      rw [he] at k1 k2
      obtain ⟨Γ2, m1, m2⟩ := wipe_rel H tm (pre ++ [.one .dead]) ks k1 k2 rfl (by simpa using ho.2)
      refine ⟨Γ2, ?_, by simpa using m2⟩
      simpa using m1
    · rw [if_neg hk] at ho ⊢
      obtain ⟨Γ2, m1, m2⟩ := wipe_rel H tm (pre ++ [x]) (k :: ks) h hh (by rw [hs]; simp) (by simpa using ho)
      refine ⟨Γ2, ?_, by simpa using m2⟩
      simpa using m1
theorem drops_rel (H : TabE B) : ∀ (ks : List Nat) {s : S B} {Γ : Gh B}, Rel X s a w Γ β → s.hd = [] → ∃ Γ', Rel X (ks.foldl (fun s t => if t < 1000000 then s else s.dropB (t - 1000000)) s) a w Γ' β ∧ (ks.foldl (fun s t => if t < 1000000 then s else s.dropB (t - 1000000)) s).hd = [] ∧ (ks.foldl (fun s t => if t < 1000000 then s else s.dropB (t - 1000000)) s).tm.length = s.tm.length
  | [], s, Γ, h, hh => ⟨Γ, h, hh, rfl⟩
  | t :: ks, s, Γ, h, hh => by
    rw [List.foldl_cons]
    by_cases ht : t < 1000000
    · rw [if_pos ht]; exact drops_rel H ks h hh
    · rw [if_neg ht]
      obtain ⟨Γ', k1, k2, k3⟩ := h.dropB H (t - 1000000)
      obtain ⟨Γ2, m1, m2, m3⟩ := drops_rel H ks k1 (k2 hh)
      exact ⟨Γ2, m1, m2, m3.trans k3⟩
theorem forget_rel (H : TabE B) (ks : List Nat) {s : S B} {Γ : Gh B} (h : Rel X s a w Γ β) (hh : s.hd = []) : ∃ Γ', Rel X (s.forget ks) a w Γ' β ∧ (s.forget ks).hd = [] ∧ (s.forget ks).tm.length = s.tm.length := by
  have h1 : ∃ Γ', Rel X (s.wipe ks) a w Γ' β ∧ (s.wipe ks).hd = [] ∧ (s.wipe ks).tm.length = s.tm.length := by
    unfold S.wipe
    split
    · exact deads_rel H ks h hh
    · rename_i ho
      obtain ⟨Γ', k1, k2⟩ := wipe_rel H s.tm [] ks h hh rfl ho
      exact ⟨Γ', by simpa using k1, hh, by simpa using k2⟩
  obtain ⟨Γ', k1, k2, k3⟩ := h1
  obtain ⟨Γ2, m1, m2, m3⟩ := drops_rel H ks k1 k2
  exact ⟨Γ2, m1, m2, m3.trans k3⟩
def firsts : PT → List Nat
  | .op c _ => [c / 2]
  | .alt a b => firsts a ++ firsts b
  | _ => []
/-- May the operations come up in these orders, as told: those that may come up at another time, too, and those that come alone, or each in its turn. -/
def dchk (ops : Array Oper) (n : Nat) : PT → Nat → Bool → Array Bool → Bool
  | .no, _, _, _ => false
  | .nil, f, top, listed => top && f == 0 && Region.seqB .any ops (ops.size - n) n listed
  | .alt a b, f, top, listed => (!top || decide (firsts (.alt a b) = Region.ready .any ops listed)) && dchk ops n a f false listed && dchk ops n b f false listed
  | .op c t, f, top, listed => match f with
    | 0 => false
    | f + 1 => decide (c / 2 < n) && (Region.ready .any ops listed).contains (c / 2) && (match ops[c / 2]? with
      | none => false
      | some oi => if c % 2 == 1 then top && stillK oi && (List.range ops.size).all fun j => j == c / 2 || listed.getD j true || Region.waitsFor .any ops j (c / 2) || (match ops[j]? with
          | some oj => oi.apart ops oj
          | none => true)
        else (!top || decide (Region.ready .any ops listed = [c / 2])) && !isStore oi) && dchk ops n t f true (listed.setIfInBounds (c / 2) true)
def PT.isNo : PT → Bool
  | .no => true
  | _ => false
/-- The drawn regions of a body that are told of. -/
def drOK (kl : KL) : Code → Bool
  | .region id ops true => (kl.d id).isNo || (Region.noSelect ops && decide ((kl.d id).len < ops.size) && Region.sinkB .any ops (kl.d id).len && Region.chainB .any ops (kl.d id).len && dchk ops (kl.d id).len (kl.d id) (kl.d id).len true (Array.replicate ops.size false))
  | .seq a b => drOK kl a && drOK kl b
  | .cond _ x y => drOK kl x && drOK kl y
  | .block _ c => drOK kl c
  | .loop c => drOK kl c
  | _ => true
/-! ### regions that draw their order -/
def Q0 : Exit → Act → World → Prop := fun _ _ _ => False
theorem wp_Q0 {o : Oper} {a : Act} {w : World} {K : Act → World → Prop} {Q : Exit → Act → World → Prop} (h : o.wp P a w K Q0) : o.wp P a w K Q := by
  unfold Oper.wp at *
  generalize (execOp a.eval o).run P w = r at *
  cases r with
  | ok n w' =>
    cases n <;> simp only [Oper.upon] at h ⊢ <;>
      first
        | exact h
        | exact Calls.mono h (fun e w'' he => by cases e <;> first | exact he | exact he.elim | (obtain ⟨_, _, he⟩ := he; exact he.elim))
  | halt x w' => cases x <;> simp only [Oper.upon] at h ⊢ <;> first | exact h | exact h.elim
theorem act_defer (a : Act) (x : Deferred) (d : Option Tmp) (v : Value) (e : Option Tmp) (u : Value) (h2 : ∀ x, d = some x → e ≠ some x) : (({ a with defers := x :: a.defers } : Act).put e u).put d v = ({ a.put d v with defers := x :: (a.put d v).defers } : Act).put e u := by
  rw [← Act.put_comm _ v u h2]
  cases d <;> rfl
theorem wp_put {ops : Array Oper} {o : Oper} {a : Act} {w : World} {K : Act → World → Prop} {d : Option Tmp} {v : Value} (hs : ∀ cs b, o.op ≠ .select cs b) (h1 : ∀ x, d = some x → x ∉ o.looksAt ops) (h2 : ∀ x, d = some x → o.dst ≠ some x)
    (h : o.wp P (a.put d v) w K Q0) : o.wp P a w (fun a' w' => K (a'.put d v) w') Q0 := by
  unfold Oper.wp at *
  rw [execOp_put o hs a d v h1] at h
  generalize (execOp a.eval o).run P w = r at *
  cases r with
  | ok n w' =>
    cases n <;> simp only [Oper.upon] at h ⊢ <;>
      first
        | (rw [← Act.put_comm a v _ h2]; exact h)
        | exact Calls.mono h (fun e w'' he => by cases e <;> first | (show K _ _; rw [← Act.put_comm a v _ h2]; exact he) | exact he)
        | exact Rows.mono h (fun _ _ he => by rw [← Act.put_comm a v _ h2]; exact he)
        | exact h
        | (rw [act_defer a _ d v o.dst undef h2]; exact h)
  | halt x w' => cases x <;> simp only [Oper.upon] at h ⊢ <;> exact h
section
variable {ops : Array Oper}
def stepA (P : Program) (ops : Array Oper) (i : Nat) (K : Act → World → Prop) (a : Act) (w : World) : Prop :=
  match ops[i]? with
  | none => K a w
  | some o => if Region.wanted o (yielded ops a.tmps) then o.wp P a w K Q0 else K (a.put o.dst undef) w
theorem stepA_mono {i : Nat} {K K' : Act → World → Prop} {a : Act} {w : World} (hK : ∀ a w, K a w → K' a w) (h : stepA P ops i K a w) : stepA P ops i K' a w := by
  unfold stepA at *
  split
  · exact hK _ _ (by simpa [*] using h)
  · rename_i o ho
    simp only [ho] at h
    split
    · rename_i hw; simp only [hw, if_true] at h; exact Oper.wp_mono hK h
    · rename_i hw; simp only [hw] at h; exact hK _ _ h
theorem wpOp_of_stepA {i : Nat} {K : Act → World → Prop} {Q : Exit → Act → World → Prop} {a : Act} {w : World} (h : stepA P ops i K a w) : wpOp P ops Q i K a w := by
  unfold stepA at h
  unfold wpOp
  cases hi : ops[i]? with
  | none => simp only [hi] at h ⊢; exact h
  | some o =>
    simp only [hi] at h ⊢
    split
    · rename_i hw; rw [if_pos hw] at h; exact .inl (wp_Q0 h)
    · rename_i hw; rw [if_neg hw] at h; exact h
theorem stepA_put {j : Nat} {oi oj : Oper} {v : Value} (hj : ops[j]? = some oj) (hap : oi.apart ops oj = true) (hsj : ∀ cs b, oj.op ≠ .select cs b) {K : Act → World → Prop} {a : Act} {w : World}
    (h : stepA P ops j K (a.put oi.dst v) w) : stepA P ops j (fun a' w' => K (a'.put oi.dst v) w') a w := by
  obtain ⟨h1, h2, h3⟩ := Oper.apart_spec hap
  unfold stepA at *
  simp only [hj] at *
  rw [wanted_put oj a oi.dst v h1] at h
  split
  · rename_i hw
    simp only [hw, if_true] at h
    exact wp_put hsj h1 h2 h
  · rename_i hw
    simp only [hw] at h
    rw [← Act.put_comm a v undef h2]
    exact h
/-- The first n operations in any order, worlds of a class all the way; then L. -/
def wpH (P : Program) (ops : Array Oper) (n : Nat) (C : World → Prop) (L : Array Bool → Act → World → Prop) : Nat → Array Bool → Act → World → Prop
  | 0, listed, a, w => L listed a w
  | f + 1, listed, a, w => Region.ready .any ops listed ≠ [] ∧ ∀ i ∈ Region.ready .any ops listed, i < n ∧ stepA P ops i (fun a' w' => C w' ∧ wpH P ops n C L f (listed.setIfInBounds i true) a' w') a w
theorem wpH_mono {n : Nat} {C C' : World → Prop} {L : Array Bool → Act → World → Prop} (hC : ∀ w, C w → C' w) : ∀ (f : Nat) {listed : Array Bool} {a : Act} {w : World}, wpH P ops n C L f listed a w → wpH P ops n C' L f listed a w
  | 0, _, _, _, h => h
  | f + 1, _, _, _, h => ⟨h.1, fun i hi => ⟨(h.2 i hi).1, stepA_mono (fun _ w h => ⟨hC w h.1, wpH_mono hC f h.2⟩) (h.2 i hi).2⟩⟩
theorem wpAny_of_wpH {n g : Nat} {C : World → Prop} {L : Array Bool → Act → World → Prop} {Q : Exit → Act → World → Prop} (hL : ∀ listed a w, L listed a w → wpAny P .any ops Q g listed a w) :
    ∀ (f : Nat) {listed : Array Bool} {a : Act} {w : World}, wpH P ops n C L f listed a w → wpAny P .any ops Q (f + g) listed a w
  | 0, _, _, _, h => by rw [Nat.zero_add]; exact hL _ _ _ h
  | f + 1, listed, a, w, h => by
    rw [show f + 1 + g = (f + g) + 1 by omega]
    exact ⟨fun h0 => absurd h0 h.1, fun i hi => wpOp_of_stepA (stepA_mono (fun _ _ h' => wpAny_of_wpH hL f h'.2) (h.2 i hi).2)⟩
/-- What an operation yields, in every world of a class. -/
def Yld (P : Program) (ops : Array Oper) (C : World → Prop) (oi : Oper) (v : Value) (a : Act) : Prop :=
  (Region.wanted oi (yielded ops a.tmps) = true ∧ ∀ w, C w → (execOp a.eval oi).run P w = .ok (.value v) w) ∨ (Region.wanted oi (yielded ops a.tmps) = false ∧ v = undef)
theorem Yld.step {C : World → Prop} {i : Nat} {oi : Oper} {v : Value} {a : Act} {w : World} {K : Act → World → Prop} (hy : Yld P ops C oi v a) (hi : ops[i]? = some oi) (hw : C w) (h : K (a.put oi.dst v) w) : stepA P ops i K a w := by
  unfold stepA
  simp only [hi]
  rcases hy with ⟨h1, h2⟩ | ⟨h1, rfl⟩
  · rw [if_pos h1]
    exact wp_value (h2 w hw) h
  · rw [if_neg (by simp [h1])]
    exact h
theorem Yld.put {C : World → Prop} {oi oj : Oper} {v : Value} {a : Act} (hsi : ∀ cs b, oi.op ≠ .select cs b) (h3 : ∀ d, oj.dst = some d → d ∉ oi.looksAt ops) (hy : Yld P ops C oi v a) (u : Value) : Yld P ops C oi v (a.put oj.dst u) := by
  unfold Yld at *
  rw [wanted_put oi a oj.dst u h3, execOp_put oi hsi a oj.dst u h3]
  exact hy
theorem wpH_first {n i : Nat} {C : World → Prop} {L : Array Bool → Act → World → Prop} {oi : Oper} {v : Value} (hi : ops[i]? = some oi) (hsel : ∀ (j : Nat) (o : Oper) cs b, ops[j]? = some o → o.op ≠ .select cs b)
    (hs : Region.sinkB .any ops n = true) (hc : Region.chainB .any ops n = true) (hn : n < ops.size) (hin : i < n)
    (hdone : ∀ listed a w, L listed a w → ∀ j ∈ Region.ready .any ops listed, n ≤ j) :
    ∀ (f : Nat) (listed : Array Bool) (a : Act) (w : World), HeadInv .any ops n listed →
      (∀ j oj, ops[j]? = some oj → j ≠ i → listed.getD j true = false → (∀ e ∈ oj.after, Region.binds .any e = true → e.on ≠ i) → oi.apart ops oj = true) →
      i ∈ Region.ready .any ops listed → Yld P ops C oi v a → C w →
      wpH P ops n C L f (listed.setIfInBounds i true) (a.put oi.dst v) w → wpH P ops n C L (f + 1) listed a w := by
  intro f
  induction f with
  | zero =>
    intro listed a w inv _ hr hy hw H
    have hun := (mem_ready.1 hr).1
    refine ⟨fun h => (by rw [h] at hr; cases hr), fun j hj => ?_⟩
    have hjn : j < n := by
      rcases Nat.lt_or_ge j n with h | h
      · exact h
      · exact absurd hj (tail_waits hs hc hn inv _ i rfl hin hun j h)
    refine ⟨hjn, ?_⟩
    by_cases hji : j = i
    · subst hji; exact hy.step hi hw ⟨hw, H⟩
    · have := hdone _ _ _ H j (ready_mono hj hji)
      omega
  | succ f ih =>
    intro listed a w inv hfree hr hy hw H
    have hun := (mem_ready.1 hr).1
    refine ⟨fun h => (by rw [h] at hr; cases hr), fun j hj => ?_⟩
    have hjn : j < n := by
      rcases Nat.lt_or_ge j n with h | h
      · exact h
      · exact absurd hj (tail_waits hs hc hn inv _ i rfl hin hun j h)
    refine ⟨hjn, ?_⟩
    by_cases hji : j = i
    · subst hji; exact hy.step hi hw ⟨hw, H⟩
    · have h1 := (H.2 j (ready_mono hj hji)).2
      obtain ⟨hjun, oj, hoj, hall⟩ := mem_ready.1 hj
      have hnot : ∀ e ∈ oj.after, Region.binds .any e = true → e.on ≠ i := fun e he hb heq => by
        have h1 := hall e he hb
        rw [heq, getD_both hun] at h1
        cases h1
      have hap := hfree j oj hoj hji hjun hnot
      have h2 := stepA_put hoj hap (fun cs b => hsel j oj cs b hoj) h1
      obtain ⟨p1, p2, p3⟩ := Oper.apart_spec hap
      have hfree' : ∀ k ok, ops[k]? = some ok → k ≠ i → (listed.setIfInBounds j true).getD k true = false →
          (∀ e ∈ ok.after, Region.binds .any e = true → e.on ≠ i) → oi.apart ops ok = true := fun k ok hk hki hun hno => by
        refine hfree k ok hk hki ?_ hno
        by_cases hjk : j = k
        · subst hjk; exact hjun
        · rw [getD_set_ne true hjk] at hun; exact hun
      -- where j's own step leads
      have h4 : ∀ (K : Act → World → Prop), stepA P ops j K a w → stepA P ops j (fun a' w' => Yld P ops C oi v a' ∧ K a' w') a w := by
        intro K hK
        unfold stepA at hK ⊢
        simp only [hoj] at hK ⊢
        split
        · rename_i hw'
          rw [if_pos hw'] at hK
          unfold Oper.wp at *
          generalize (execOp a.eval oj).run P w = r at *
          cases r with
          | ok n w' =>
            cases n <;> simp only [Oper.upon] at hK ⊢ <;>
              first
                | exact ⟨hy.put (fun cs b => hsel i oi cs b hi) p3 _, hK⟩
                | exact Calls.mono hK (fun e w'' he => by cases e <;> first | exact ⟨hy.put (fun cs b => hsel i oi cs b hi) p3 _, he⟩ | exact he)
                | exact Rows.mono hK (fun _ _ he => ⟨hy.put (fun cs b => hsel i oi cs b hi) p3 _, he⟩)
                | exact hK
                | exact ⟨Yld.put (fun cs b => hsel i oi cs b hi) p3 (by exact hy) _, hK⟩
          | halt x w' => cases x <;> simp only [Oper.upon] at hK ⊢ <;> exact hK
        · rename_i hw'
          rw [if_neg hw'] at hK
          exact ⟨hy.put (fun cs b => hsel i oi cs b hi) p3 _, hK⟩
      refine stepA_mono (fun a' w' h3 => ⟨h3.2.1, ih (listed.setIfInBounds j true) a' w' (inv.set hj hjn) hfree' (ready_mono hr (Ne.symm hji)) h3.1 h3.2.1 ?_⟩) (h4 _ h2)
      rw [Array.setIfInBounds_comm _ _ hji]
      exact h3.2.2
end
/-- The relation, seen from the world that stands now: what is owned, and the boxes that are written, may change. -/
def rb (U : Nat → Prop) (X : Base B) (Γ : Gh B) (β : Nat → Nat) (w : World) : Base B :=
  ⟨w, fun b => (∃ r x, x ∈ Γ r ∧ x.D b) ∨ ∃ t, Γ (2 * t + 3) ≠ [] ∧ ¬ U t ∧ β t = b, fun b => b < w.heap.size ∧ (X.ok0 b ∨ X.A0 b ∨ X.w0.heap.size ≤ b), X.pin, fun t b => U t ∧ Γ (2 * t + 3) ≠ [] ∧ b = β t, X.gh⟩
theorem LeafR.base {X X' : Base B} {ok ok' : Nat → Prop} {Γ : Gh B} {β : Nat → Nat} {w : World} {v : VT B} {c : Value} {D : Nat → Prop} (hok : ∀ b, ok b → ok' b) (h : LeafR X ok Γ β w v c D) : LeafR X' ok' Γ β w v c D := by
  cases v with
  | lit v => exact h
  | imm e l => obtain ⟨n, h⟩ := h; exact ⟨n, Imm.mono hok h⟩
  | own e l => exact h
  | bld s => exact h
  | pb i e x => exact PbX.ok h hok
  | «at» p => exact h
  | ptr p => exact h
  | iptr e x off =>
    obtain ⟨ad, cs, n, h1, h2, h3, h4⟩ := h
    exact ⟨ad, cs, n, h1, hok _ h2, h3.imp (fun _ _ h => Imm.mono hok h), h4⟩
  | dead => trivial
/-- A block that stays as it is while the written boxes are written. -/
def Unw (U : Nat → Prop) (Γ : Gh B) (β : Nat → Nat) (w : World) (b : Nat) : Prop := b < w.heap.size ∧ (∀ r x, x ∈ Γ r → ¬ x.D b) ∧ ∀ t, Γ (2 * t + 3) ≠ [] → ¬ U t → β t ≠ b
theorem Rel.rebase {U : Nat → Prop} (h : Rel X s a w Γ β) : Rel (rb U X Γ β w) s a w Γ β where
  dfr := h.dfr
  size := h.size
  bsize := h.bsize
  root := h.root
  tm := h.tm
  bx := h.bx
  leaf := fun r x hx => (h.leaf r x hx).base fun b hb => ⟨hb.1, .inl ⟨hb.1, hb.2.1⟩, hb.2.2⟩
  disj := h.disj
  bdisj := h.bdisj
  binj := h.binj
  dlt := fun r x b hx hb => ⟨(h.dlt r x b hx hb).1, .inl (.inl ⟨r, x, hx, hb⟩)⟩
  bnd := fun t ht => by
    by_cases hU : U t
    · exact .inl ⟨hU, ht, rfl⟩
    · exact .inr (.inl (.inr ⟨t, ht, hU, rfl⟩))
  grow := Nat.le_refl _
  keep := fun _ _ _ => rfl
  os := rfl
  tape := rfl
  output := rfl
  gh := h.gh
  gl := ⟨fun b hb => ⟨(h.gl.1 b hb).1, .inl ⟨(h.gl.1 b hb).1, (h.gl.1 b hb).2.1⟩, (h.gl.1 b hb).2.2⟩, h.gl.2⟩
theorem Rel.unbase {U : Nat → Prop} (hXro : ∀ t b, ¬ X.ro t b) (h : Rel X s a w Γ β) {s' : S B} {a' : Act} {w' : World} {Γ' : Gh B} {β' : Nat → Nat} (h' : Rel (rb U X Γ β w) s' a' w' Γ' β') :
    Rel X s' a' w' Γ' β' where
  dfr := h'.dfr
  size := h'.size
  bsize := h'.bsize
  root := h'.root
  tm := h'.tm
  bx := h'.bx
  leaf := fun r x hx => (h'.leaf r x hx).base fun b hb => ⟨hb.1, (by
    rcases hb.2.1 with h1 | h1 | h1
    · exact h1.2
    · rcases h1 with ⟨r, x, hx, hb⟩ | ⟨t, ht, hut, rfl⟩
      · exact .inr ((h.dlt r x b hx hb).2)
      · exact .inr ((h.bnd t ht).resolve_left (hXro t _))
    · have := h.grow
      exact .inr (.inr (Nat.le_trans this h1))), hb.2.2⟩
  disj := h'.disj
  bdisj := h'.bdisj
  binj := h'.binj
  dlt := fun r x b hx hb => ⟨(h'.dlt r x b hx hb).1, (by
    rcases (h'.dlt r x b hx hb).2 with h1 | h1
    · rcases h1 with ⟨r, x, hx, hb⟩ | ⟨t, ht, hut, rfl⟩
      · exact (h.dlt r x b hx hb).2
      · exact (h.bnd t ht).resolve_left (hXro t _)
    · have := h.grow
      exact .inr (Nat.le_trans this h1))⟩
  bnd := fun t ht => by
    rcases h'.bnd t ht with h1 | h1 | h1
    · obtain ⟨_, h2, h3⟩ := h1
      rw [h3]; exact .inr ((h.bnd t h2).resolve_left (hXro t _))
    · rcases h1 with ⟨r, x, hx, hb⟩ | ⟨t', ht', hut, e⟩
      · exact .inr (h.dlt r x _ hx hb).2
      · rw [← e]; exact .inr ((h.bnd t' ht').resolve_left (hXro t' _))
    · have := h.grow
      exact .inr (.inr (Nat.le_trans this h1))
  grow := Nat.le_trans h.grow h'.grow
  keep := fun b hb hA => (h'.keep b (Nat.lt_of_lt_of_le hb h.grow) (by
    rintro (⟨r, x, hx, hD⟩ | ⟨t, ht, hut, rfl⟩)
    · rcases (h.dlt r x b hx hD).2 with h1 | h1
      · exact hA h1
      · omega
    · rcases (h.bnd t ht).resolve_left (hXro t _) with h1 | h1
      · exact hA h1
      · omega)).trans (h.keep b hb hA)
  os := h'.os.trans h.os
  tape := h'.tape.trans h.tape
  output := h'.output.trans h.output
  gh := h'.gh
  gl := ⟨fun b hb => ⟨(h'.gl.1 b hb).1, (by
    rcases (h'.gl.1 b hb).2.1 with h1 | h1 | h1
    · exact h1.2
    · rcases h1 with ⟨r, x, hx, hb⟩ | ⟨t, ht, hut, rfl⟩
      · exact .inr ((h.dlt r x b hx hb).2)
      · exact .inr ((h.bnd t ht).resolve_left (hXro t _))
    · have := h.grow
      exact .inr (.inr (Nat.le_trans this h1))), (h'.gl.1 b hb).2.2⟩, h'.gl.2⟩
theorem Unw.next {U : Nat → Prop} {Γ' : Gh B} {β' : Nat → Nat} {s' : S B} {a' : Act} {w' : World} (h' : Rel (rb U X Γ β w) s' a' w' Γ' β') {b : Nat} (hb : Unw U Γ β w b) : Unw U Γ' β' w' b ∧ w'.heap[b]? = w.heap[b]? := by
  obtain ⟨h1, h2, h3⟩ := hb
  have hA : ¬ (rb U X Γ β w).A0 b := by
    rintro (⟨r, x, hx, hD⟩ | ⟨t, ht, hut, e⟩)
    · exact h2 r x hx hD
    · exact h3 t ht hut e
  refine ⟨⟨Nat.lt_of_lt_of_le h1 h'.grow, fun r x hx hD => ?_, fun t ht hut e => ?_⟩, h'.keep b h1 hA⟩
  · rcases (h'.dlt r x b hx hD).2 with h4 | h4
    · exact hA h4
    · exact Nat.lt_irrefl _ (Nat.lt_of_lt_of_le h1 h4)
  · subst e
    rcases h'.bnd t ht with h4 | h4 | h4
    · exact hut h4.1
    · exact hA h4
    · exact Nat.lt_irrefl _ (Nat.lt_of_lt_of_le h1 h4)
/-- What is shown: of all orders, or of the orders that begin as told. -/
def Concl (P : Program) (ops : Array Oper) (m : Nat) (C : World → Prop) (LL : Array Bool → Act → World → Prop) (f : Nat) (listed : Array Bool) (a : Act) (w : World) (t : PT) : Bool → Prop
  | true => wpH P ops m C LL f listed a w
  | false => ∀ i ∈ firsts t, ∃ f', f = f' + 1 ∧ i < m ∧ stepA P ops i (fun a' w' => C w' ∧ wpH P ops m C LL f' (listed.setIfInBounds i true) a' w') a w
/-- The first operations, in the orders that are told: in every order. -/
theorem head_sound (H : TabP P B) {ops : Array Oper} {N : Nat} (HO : OpsOK P B M F N) (hro : ∀ t b, ¬ X.ro t b) {L m : Nat} {T : List Nat} (hsel : ∀ (j : Nat) (o : Oper) cs b, ops[j]? = some o → o.op ≠ .select cs b)
    (hs : Region.sinkB .any ops m = true) (hc : Region.chainB .any ops m = true) (hm : m < ops.size) {LL : Array Bool → Act → World → Prop} (hdone : ∀ listed a w, LL listed a w → ∀ j ∈ Region.ready .any ops listed, m ≤ j) :
    ∀ (cs : PT) {f : Nat} {top : Bool} {listed : Array Bool} {s : S B} {a : Act} {w : World} {Γ : Gh B} {β : Nat → Nat} {n : Nat} {k : S B → Tr B} {r : Res B} (K : Nat → Prop), n ≤ N → dchk ops m cs f top listed = true → HeadInv .any ops m listed →
      (∀ b, K b → Unw (fun t => 2 * t + 3 ∉ T) Γ β w b) → Rel X s a w Γ β → s.hd = [] → s.tm.length = L → G std M F n kl (stepOpsD std M T ops.toList cs s k) r →
      (∀ listed a' w', Region.seqB .any ops (ops.size - m) m listed = true → Done X M F kl L n k r a' w' → LL listed a' w') →
      Concl P ops m (fun w' => ∀ b, K b → w'.heap[b]? = w.heap[b]?) LL f listed a w cs top
  | .no, f, top, listed, s, a, w, Γ, β, n, k, r, K, hn, hd, inv, hK, h, hh, hL, hg, hLL => by simp [dchk] at hd
  | .nil, f, top, listed, s, a, w, Γ, β, n, k, r, K, hn, hd, inv, hK, h, hh, hL, hg, hLL => by
    simp only [dchk, Bool.and_eq_true, beq_iff_eq] at hd
    obtain ⟨⟨rfl, rfl⟩, hd⟩ := hd
    exact hLL listed a w hd ⟨s, Γ, β, n, Nat.le_refl _, h, hh, hL, hg⟩
  | .alt x y, f, top, listed, s, a, w, Γ, β, n, k, r, K, hn, hd, inv, hK, h, hh, hL, hg, hLL => by
    simp only [dchk, Bool.and_eq_true] at hd
    obtain ⟨⟨hd0, hd1⟩, hd2⟩ := hd
    rw [stepOpsD] at hg
    cases hg with
    | both hg1 hg2 =>
    have c1 := head_sound H HO hro hsel hs hc hm hdone x (top := false) K hn hd1 inv hK h hh hL hg1 hLL
    have c2 := head_sound H HO hro hsel hs hc hm hdone y (top := false) K hn hd2 inv hK h hh hL hg2 hLL
    have c12 : ∀ i ∈ firsts (.alt x y), ∃ f', f = f' + 1 ∧ i < m ∧ stepA P ops i (fun a' w' => (∀ b, K b → w'.heap[b]? = w.heap[b]?) ∧ wpH P ops m (fun w' => ∀ b, K b → w'.heap[b]? = w.heap[b]?) LL f' (listed.setIfInBounds i true) a' w') a w := by
      intro i hi
      rcases List.mem_append.1 hi with hi | hi
      · exact c1 i hi
      · exact c2 i hi
    cases top with
    | false => exact c12
    | true =>
      have hrd : firsts (.alt x y) = Region.ready .any ops listed := by simpa using hd0
      have hne : firsts (.alt x y) ≠ [] := by
        have key : ∀ (z : PT) {f : Nat}, dchk ops m z f false listed = true → firsts z ≠ [] := by
          intro z
          induction z with
          | nil => intro f hz; simp [dchk] at hz
          | no => intro f hz; simp [dchk] at hz
          | op c t _ => intro f _; simp [firsts]
          | alt a b iha _ => intro f hz; simp only [dchk, Bool.and_eq_true] at hz; simp only [firsts]; exact fun e => iha hz.1.2 (List.append_eq_nil_iff.1 e).1
        simp only [firsts]
        exact fun e => key x hd1 (List.append_eq_nil_iff.1 e).1
      obtain ⟨i0, l0, e0⟩ := List.exists_cons_of_ne_nil hne
      obtain ⟨f', rfl, _⟩ := c12 i0 (by rw [e0]; simp)
      refine ⟨by rw [← hrd]; exact hne, fun i hi => ?_⟩
      obtain ⟨f2, e, hi1, hi2⟩ := c12 i (by rw [hrd]; exact hi)
      have : f' = f2 := by omega
      subst this
      exact ⟨hi1, hi2⟩
  | .op c cs, 0, top, listed, s, a, w, Γ, β, n, k, r, K, hn, hd, inv, hK, h, hh, hL, hg, hLL => by simp [dchk] at hd
  | .op c cs, f + 1, top, listed, s, a, w, Γ, β, n, k, r, K, hn, hd, inv, hK, h, hh, hL, hg, hLL => by
    simp only [dchk, Bool.and_eq_true, decide_eq_true_eq] at hd
    obtain ⟨⟨⟨hcm, hrd⟩, hop⟩, hd⟩ := hd
    have hrd : c / 2 ∈ Region.ready .any ops listed := by simpa using hrd
    have inv' := inv.set hrd hcm
    cases hi : ops[c / 2]? with
    | none => rw [hi] at hop; cases hop
    | some o =>
    rw [hi] at hop
    simp only at hop
    have hat : ops.toList[c / 2]? = some o := by rw [Array.getElem?_toList]; exact hi
    have alone : c % 2 ≠ 1 → top = true → Region.ready .any ops listed = [c / 2] := by
      intro e ht
      have : (c % 2 == 1) = false := by simpa using e
      rw [this, ht] at hop
      simp only [Bool.false_eq_true, if_false, Bool.and_eq_true, Bool.not_true, Bool.false_or, decide_eq_true_eq] at hop
      exact hop.1
    have free : c % 2 = 1 → top = true ∧ stillK o = true ∧ ∀ j oj, ops[j]? = some oj → j ≠ c / 2 → listed.getD j true = false → (∀ e ∈ oj.after, Region.binds .any e = true → e.on ≠ c / 2) → o.apart ops oj = true := by
      intro e
      have : (c % 2 == 1) = true := by simpa using e
      rw [this] at hop
      simp only [if_true, Bool.and_eq_true] at hop
      refine ⟨hop.1.1, hop.1.2, fun j oj hj hji hl hno => ?_⟩
      have := List.all_eq_true.1 hop.2 j (List.mem_range.2 (Array.getElem?_eq_some_iff.1 hj).1)
      simp only [Bool.or_eq_true, beq_iff_eq, hl, Bool.false_eq_true, or_false] at this
      rcases this with (h1 | h1) | h1
      · exact absurd h1 hji
      · obtain ⟨oj', hoj', e', he', hb', hon'⟩ := Region.waitsFor_spec h1
        rw [hj] at hoj'
        injection hoj' with hoj'
        subst hoj'
        exact absurd hon' (hno e' he' hb')
      · rw [hj] at h1; exact h1
    -- an operation that comes up first
    have first : ∀ (v : Value) (K' : Nat → Prop), c % 2 = 1 → (∀ b, K b → K' b) → Yld P ops (fun w' => ∀ b, K' b → w'.heap[b]? = w.heap[b]?) o v a →
        wpH P ops m (fun w' => ∀ b, K' b → w'.heap[b]? = w.heap[b]?) LL f (listed.setIfInBounds (c / 2) true) (a.put o.dst v) w → Concl P ops m (fun w' => ∀ b, K b → w'.heap[b]? = w.heap[b]?) LL (f + 1) listed a w (.op c cs) top := by
      intro v K' hfl hKK hy hw
      obtain ⟨rfl, _, hfr⟩ := free hfl
      exact wpH_mono (fun w' hw' b hb => hw' b (hKK b hb)) _ (wpH_first hi hsel hs hc hm hcm hdone f listed a w inv hfr hrd hy (fun _ _ => rfl) hw)
    have one : ∀ {K1 : Act → World → Prop}, c % 2 ≠ 1 → stepA P ops (c / 2) K1 a w → (∀ a' w', K1 a' w' → (∀ b, K b → w'.heap[b]? = w.heap[b]?) ∧ wpH P ops m (fun w' => ∀ b, K b → w'.heap[b]? = w.heap[b]?) LL f (listed.setIfInBounds (c / 2) true) a' w') →
        Concl P ops m (fun w' => ∀ b, K b → w'.heap[b]? = w.heap[b]?) LL (f + 1) listed a w (.op c cs) top := by
      intro K1 hfl hst hK1
      cases top with
      | true =>
        have e := alone hfl rfl
        refine ⟨by rw [e]; exact List.cons_ne_nil _ _, fun i hi' => ?_⟩
        rw [e] at hi'
        have : i = c / 2 := by simpa using hi'
        subst this
        exact ⟨hcm, stepA_mono hK1 hst⟩
      | false =>
        intro i hi'
        have : i = c / 2 := by simpa [firsts] using hi'
        subst this
        exact ⟨f, rfl, hcm, stepA_mono hK1 hst⟩
    -- an operation that is done
    have go : ∀ {s : S B} {Γ : Gh B}, (∀ b, K b → Unw (fun t => 2 * t + 3 ∉ T) Γ β w b) → Rel X s a w Γ β → s.hd = [] → s.tm.length = L → G std M F n kl (stepOpD std M T (c % 2 == 1) o s fun s' => stepOpsD std M T ops.toList cs s' k) r → Region.wanted o (yielded ops a.tmps) = true →
        Concl P ops m (fun w' => ∀ b, K b → w'.heap[b]? = w.heap[b]?) LL (f + 1) listed a w (.op c cs) top := by
      intro s Γ hK h hh hL hg hwt
      unfold stepOpD at hg
      split at hg
      case h_2 => exact (G.no_inv hg).elim
      rename_i hck
      have h0 := h.rebase (U := fun t => 2 * t + 3 ∉ T)
      by_cases hfl : c % 2 = 1
      · -- it floats
        have hfl' : (c % 2 == 1) = true := by simpa using hfl
        rw [hfl'] at hck
        have hst := op_still (P := P) H h0 hh (free hfl).2.1 (fun t u x ho => by simpa [hchk, ho] using hck) hg
        obtain ⟨v, hrun, _, s', Γ', β', n', hn', k1, k2, k3, k4⟩ := hst
        -- what it reads
        have hrd2 : ∀ b, Rd o a b → Unw (fun t => 2 * t + 3 ∉ T) Γ β w b := by
          rintro b (⟨t, x, ad, ho, he, rfl⟩ | ⟨t, u, x, ad, n, m, ho, he, hn0, rfl⟩)
          rotate_left
          · have hcv : cvOK (s.peek 0 x) = true := by simpa [hchk, ho] using hck
            obtain ⟨E, hE⟩ := h.peek 0 x
            unfold cvOK at hcv
            split at hcv
            · rename_i ki m' hp
              have := h.litPeek hp
              rw [this] at he; cases he
            · rename_i e l hp
              rw [hp] at hE
              obtain ⟨D, hl, hD, rfl⟩ := hE.one
              rw [he] at hl
              obtain ⟨n', hl⟩ := hl
              cases n' with
              | zero => exact hl.elim
              | succ n' =>
                obtain ⟨A, cap, e1, e2, e3, e4⟩ := hl
                injection e1 with e1 e5 e6
                obtain ⟨ad', f1, f2, _⟩ := e4 (by omega)
                rw [f1] at e1
                injection e1 with e1
                subst e1
                exact ⟨f2.1, f2.2.2.1, fun t' ht' _ e => f2.2.2.2 t' ht' e.symm⟩
            · cases hcv
          simp only [hchk, ho] at hck
          simp only [if_true] at hck
          split at hck
          · rename_i p hp
            simp only [Bool.and_eq_true, Bool.not_eq_true'] at hck
            obtain ⟨E, hE⟩ := h.peek 0 x
            rw [hp] at hE
            obtain ⟨D, hl, hD, rfl⟩ := hE.one
            rw [he] at hl
            have hst : p.st = [] := by simpa using hck.1
            simp only [LeafR, hst] at hl
            obtain ⟨u, e1, e2, e3⟩ := hl
            injection e3 with e3
            injection e3 with e3
            rw [e1] at e2
            have hnT : 2 * u + 3 ∉ T := by
              have := hck.2
              rw [e1] at this
              intro hm'
              rw [List.contains_iff_mem.2 hm'] at this
              cases this
            rw [e3]
            obtain ⟨ty, hb⟩ := h.bx u e2
            refine ⟨(Array.getElem?_eq_some_iff.1 hb).1, fun q z hz => h.bdisj q z u hz e2, fun t' ht' hT' e => ?_⟩
            have := h.binj t' u ht' e2 e
            subst this
            exact hT' hnT
          · rename_i e y off hp
            obtain ⟨E, hE⟩ := h.peek 0 x
            rw [hp] at hE
            obtain ⟨D, hl, hD, rfl⟩ := hE.one
            rw [he] at hl
            obtain ⟨ad', cs', n', e1, hokb, _⟩ := hl
            injection e1 with e1
            injection e1 with e1
            subst e1
            exact ⟨hokb.1, hokb.2.2.1, fun t' ht' _ e => hokb.2.2.2 t' ht' e.symm⟩
          · cases hck
        let K' : Nat → Prop := fun b => K b ∨ Rd o a b
        have hK' : ∀ b, K' b → Unw (fun t => 2 * t + 3 ∉ T) Γ β w b := by
          rintro b (hb | hb)
          · exact hK b hb
          · exact hrd2 b hb
        have hx := Rel.unbase hro h k1
        refine first v K' hfl (fun b hb => .inl hb) (.inl ⟨hwt, fun w' hw' => hrun w' fun b hb => hw' b (.inr hb)⟩) ?_
        exact head_sound (top := true) H HO hro hsel hs hc hm hdone cs K' (Nat.le_trans hn' hn) hd inv' (fun b hb => (Unw.next k1 (hK' b hb)).1) hx k2 (k3.trans hL) k4 fun l a' w' q1 q2 => hLL l a' w' q1 (q2.le hn')
      · -- it comes alone
        have hns : isStore o = false := by
          have : (c % 2 == 1) = false := by simpa using hfl
          rw [this] at hop
          simp only [Bool.false_eq_true, if_false, Bool.and_eq_true] at hop
          simpa using hop.2
        have htc : ∀ t b, (rb (fun t => 2 * t + 3 ∉ T) X Γ β w).ro t b → 2 * t + 3 ∉ touchOf M o s := by
          rintro t b ⟨hU, _⟩ hm'
          apply hU
          have hall : (touchOf M o s).all (fun r => T.contains r) = true ∨ touchOf M o s = [] := by
            unfold hchk at hck
            split at hck
            · rename_i ho; right; simp [touchOf, ho]
            · rename_i ho; right; simp [touchOf, ho]
            · cases hck
            · exact .inl hck
          rcases hall with hall | hall
          · have := List.all_eq_true.1 hall _ hm'
            simpa using this
          · rw [hall] at hm'; cases hm'
        have hw := HO kl _ s a w Γ β o _ r Q0 n hn (.inr ⟨hns, htc⟩) h0 hh hg
        refine one (K1 := Done (rb (fun t => 2 * t + 3 ∉ T) X Γ β w) M F kl s.tm.length n (fun s' => stepOpsD std M T ops.toList cs s' k) r) hfl ?_ ?_
        · unfold stepA
          simp only [hi]
          rw [if_pos hwt]
          exact hw
        · rintro a' w' ⟨s', Γ', β', n', hn', k1, k2, k3, k4⟩
          have hx := Rel.unbase hro h k1
          have hsame : ∀ b, K b → w'.heap[b]? = w.heap[b]? := fun b hb => (Unw.next k1 (hK b hb)).2
          refine ⟨hsame, ?_⟩
          have := head_sound (top := true) H HO hro hsel hs hc hm hdone cs K (Nat.le_trans hn' hn) hd inv' (fun b hb => (Unw.next k1 (hK b hb)).1) hx k2 (k3.trans hL) k4 fun l a' w' q1 q2 => hLL l a' w' q1 (q2.le hn')
          exact wpH_mono (fun w2 hw2 b hb => (hw2 b hb).trans (hsame b hb)) _ this
    -- an operation that is passed over
    have skip : ∀ {s : S B} {Γ : Gh B}, (∀ b, K b → Unw (fun t => 2 * t + 3 ∉ T) Γ β w b) → Rel X s a w Γ β → s.hd = [] → s.tm.length = L → G std M F n kl (stepOpsD std M T ops.toList cs (s.def_ o.dst (.tup [])) k) r → ¬ Region.wanted o (yielded ops a.tmps) = true →
        Concl P ops m (fun w' => ∀ b, K b → w'.heap[b]? = w.heap[b]?) LL (f + 1) listed a w (.op c cs) top := by
      intro s Γ hK h hh hL hg hwt
      have h0 := h.rebase (U := fun t => 2 * t + 3 ∉ T)
      obtain ⟨Γ', h1, h2, h3⟩ := h0.defS H.toTabE hh (peek_undef _ Γ β w) o.dst
      have hx := Rel.unbase hro h h1
      have hr := head_sound (top := true) H HO hro hsel hs hc hm hdone cs K hn hd inv' (fun b hb => (Unw.next h1 (hK b hb)).1) hx h2 (h3.trans hL) hg hLL
      by_cases hfl : c % 2 = 1
      · exact first undef K hfl (fun b hb => hb) (.inr ⟨by simpa using hwt, rfl⟩) hr
      · refine one (K1 := fun a' w' => a' = a.put o.dst undef ∧ w' = w) hfl ?_ ?_
        · unfold stepA
          simp only [hi]
          rw [if_neg hwt]
          simp
        · rintro a' w' ⟨rfl, rfl⟩
          exact ⟨fun _ _ => rfl, hr⟩
    rw [stepOpsD, hat] at hg
    simp only at hg
    split at hg
    · rename_i hgd
      exact go hK h hh hL hg (by simp [Region.wanted, hgd])
    · rename_i j want hgd
      split at hg
      · rename_i d hd
        have hbd := dstOf_bind hd
        split at hg
        · rename_i b hb
          obtain ⟨e1, e2⟩ := tm_lit h hb
          have hy : yielded ops a.tmps j = some b := by simp only [yielded, hbd, Option.bind_some, e1]
          have hst : ∀ b', b = b' → s.setTm d (.one (.lit (.bool b'))) = s := by
            rintro b' rfl
            rcases setTm_same hb with e | e
            · exact e
            · exact absurd e2 e
          rcases G.cond_inv hg with ⟨hbt, hg2⟩ | ⟨hbt, hg2⟩
          · rw [hst true hbt] at hg2
            cases want with
            | true => exact go hK h hh hL hg2 (by simp [Region.wanted, hgd, hy, hbt])
            | false => exact skip hK h hh hL hg2 (by simp [Region.wanted, hgd, hy, hbt])
          · rw [hst false hbt] at hg2
            cases want with
            | true => exact skip hK h hh hL hg2 (by simp [Region.wanted, hgd, hy, hbt])
            | false => exact go hK h hh hL hg2 (by simp [Region.wanted, hgd, hy, hbt])
        · rename_i hb
          have e1 := tm_undef h hb
          have hy : yielded ops a.tmps j = none := by simp only [yielded, hbd, Option.bind_some, e1]; rfl
          exact skip hK h hh hL hg (by simp [Region.wanted, hgd, hy])
        · exact (G.no_inv hg).elim
      · exact (G.no_inv hg).elim
theorem drawn_sound (H : TabP P B) {id : Nat} {ops : Array Oper} {N L n : Nat} {T : List Nat} {cs : PT} (HO : OpsOK P B M F N) (hro : ∀ t b, ¬ X.ro t b) (hn : n ≤ N) (hsel : Region.noSelect ops = true) (hm : cs.len < ops.size)
    (hs : Region.sinkB .any ops cs.len = true) (hc : Region.chainB .any ops cs.len = true) (hd : dchk ops cs.len cs cs.len true (Array.replicate ops.size false) = true)
    (h : Rel X s a w Γ β) (hh : s.hd = []) (hL : s.tm.length = L) (hg : G std M F n kl (stepOpsD std M T ops.toList cs s fun s' => stepOps std M ops.toList (ops.toList.drop cs.len) s' k) r)
    (hQ : ∀ a' w', Done X M F kl L n k r a' w' → Q .normal a' w') : (Code.region id ops true).wp P Q a w := by
  refine wp_region_any H.mixed ?_
  have h1 := h.redraw H.toTabE hh (w.drawn + 1)
  have := head_sound H HO hro (Region.noSelect_spec hsel) hs hc hm (LL := fun listed a' w' => Region.seqB .any ops (ops.size - cs.len) cs.len listed = true ∧ wpList P ops Q (ops.toList.drop cs.len) a' w') (fun listed a w hl j hj => seqB_ready hl.1 j hj)
    cs (top := true) (listed := Array.replicate ops.size false) (fun _ => False) hn hd ⟨by simp, fun j oj _ hl => (by rw [getD_replicate_false] at hl; cases hl), fun t _ ht => getD_in (by simpa using ht) (getD_replicate_false _ _)⟩ (fun b hb => hb.elim) h1 hh hL hg
    (fun listed a' w' q1 q2 => ⟨q1, by
      obtain ⟨s', Γ', β', m, hm', k1, k2, k3, k4⟩ := q2
      have h2 := ops_sound H (ops := ops) (Q := Q) HO hro (ops.toList.drop cs.len) cs.len (Nat.le_trans hm' hn) rfl k1 k2 k3 k4 fun a' w' hd => hQ a' w' (hd.le hm')
      rw [wpOps_eq_wpList _ cs.len (fun j => by rw [List.getElem?_drop, Array.getElem?_toList])] at h2
      exact h2⟩)
  have h3 := wpAny_of_wpH (Q := Q) (g := ops.size - cs.len) (fun listed a' w' hl => by
    have := wpAny_of_seq (md := .any) (Q' := Q) (ops.toList.drop cs.len) cs.len listed a' w' (fun j => by rw [List.getElem?_drop, Array.getElem?_toList]) (by rw [List.length_drop, Array.length_toList]; exact hl.1) hl.2
    rwa [List.length_drop, Array.length_toList] at this) _ this
  rw [show cs.len + (ops.size - cs.len) = ops.size by omega] at h3
  exact h3
theorem Rel.frzs (H : TabE B) {X : Base B} {a : Act} {w : World} {β : Nat → Nat} : ∀ (rs : List ResultVar) {s : S B} {Γ : Gh B}, Rel X s a w Γ β → s.hd = [] → ∃ Γ', Rel X (s.frzs rs) a w Γ' β ∧ (s.frzs rs).hd = [] ∧ (s.frzs rs).tm.length = s.tm.length
  | [], s, Γ, h, hh => ⟨Γ, h, hh, rfl⟩
  | rv :: rs, s, Γ, h, hh => by
    have h1 : ∃ Γ', Rel X (s.frz1 rv) a w Γ' β ∧ (s.frz1 rv).hd = [] ∧ (s.frz1 rv).tm.length = s.tm.length := by
      unfold S.frz1
      split
      · rename_i t
        split
        · cases hf : s.freeze1 (.at ⟨2 * t + 2, 0, []⟩) with
          | none => exact ⟨Γ, h, hh, rfl⟩
          | some s' =>
            obtain ⟨Γ', k, _, kl, _⟩ := h.freeze1 H hf
            exact ⟨Γ', k, by show s'.hd = []; rw [freeze1_hd hf, hh]; rfl, kl.1⟩
        · exact ⟨Γ, h, hh, rfl⟩
      · exact ⟨Γ, h, hh, rfl⟩
    obtain ⟨Γ1, k1, k2, k3⟩ := h1
    obtain ⟨Γ2, m1, m2, m3⟩ := Rel.frzs H rs k1 k2
    exact ⟨Γ2, m1, m2, m3.trans k3⟩
theorem Rel.frzT (H : TabE B) {X : Base B} {a : Act} {w : World} {β : Nat → Nat} (ts : List Nat) {s : S B} {Γ : Gh B} (h : Rel X s a w Γ β) (hh : s.hd = []) : ∃ Γ', Rel X (s.frzT ts) a w Γ' β ∧ (s.frzT ts).hd = [] ∧ (s.frzT ts).tm.length = s.tm.length := by
  cases ts with
  | nil => exact ⟨Γ, h, hh, rfl⟩
  | cons t ts => exact Rel.frzs H _ h hh
/-- The body, in at most n calls and rounds. -/
def ExecOK (P : Program) (B : Tab) (M : FuncId → List Md) (F : FuncId → Option (Fi B)) (kl : KL) (L n : Nat) : Prop :=
  ∀ (c : Code) (i : Nat) (X : Base B) (s : S B) (k : Ex → S B → Tr B) (r : Res B) (a : Act) (w : World) (Γ : Gh B) (β : Nat → Nat) (Q : Exit → Act → World → Prop),
    drOK kl c = true → (∀ t b, ¬ X.ro t b) → Rel X s a w Γ β → s.hd = [] → s.tm.length = L → G std M F n kl (exec std M kl c i s k) r →
    (∀ e a' w', Done X M F kl L n (k e) r a' w' → Q (exOf e) a' w') → c.wp P Q a w
theorem exec_step (H : TabP P B) {N L : Nat} (HO : OpsOK P B M F N) {n : Nat} (hn : n ≤ N) (ih : ∀ n', n' < n → ExecOK P B M F kl L n') : ExecOK P B M F kl L n := by
  intro c
  induction c with
  | skip =>
    intro i X s k r a w Γ β Q hd0 hro h hh hL hg hQ
    exact wp_skip (hQ .normal a w ⟨s, Γ, β, n, Nat.le_refl _, h, hh, hL, hg⟩)
  | exit id =>
    intro i X s k r a w Γ β Q hd0 hro h hh hL hg hQ
    exact wp_exit (hQ (.exit id) a w ⟨s, Γ, β, n, Nat.le_refl _, h, hh, hL, hg⟩)
  | ret =>
    intro i X s k r a w Γ β Q hd0 hro h hh hL hg hQ
    exact wp_ret (hQ .ret a w ⟨s, Γ, β, n, Nat.le_refl _, h, hh, hL, hg⟩)
  | region id ops dr =>
    intro i X s k r a w Γ β Q hd0 hro h hh hL hg hQ
    have reg : ∀ {s : S B} {Γ : Gh B} {n : Nat}, n ≤ N → Rel X s a w Γ β → s.hd = [] → s.tm.length = L → G std M F n kl (regionT std M kl id ops dr s (k .normal)) r →
        (∀ a' w', Done X M F kl L n (k .normal) r a' w' → Q .normal a' w') → (Code.region id ops dr).wp P Q a w := by
      intro s0 Γ n hn h hh hL hg hQ
      obtain ⟨Γ, h, hh, hL'⟩ := h.frzT H.toTabE (kl.q id) hh
      replace hL := hL'.trans hL
      unfold regionT at hg
      generalize s0.frzT (kl.q id) = s at h hh hL hg
      cases dr with
      | false =>
        simp only at hg
        refine wp_region ?_
        have := ops_sound H (Q := Q) HO hro ops.toList 0 hn rfl h hh hL hg hQ
        rw [Array.length_toList] at this
        rw [List.range_eq_range']
        exact this
      | true =>
        simp only at hg
        simp only [drOK, Bool.or_eq_true, Bool.and_eq_true, decide_eq_true_eq] at hd0
        rcases hd0 with hd0 | hd0
        · have : kl.d id = .no := by
            cases hk : kl.d id <;> simp [PT.isNo, hk] at hd0
            rfl
          rw [this] at hg
          exact (G.no_inv hg).elim
        · exact drawn_sound H HO hro hn hd0.1.1.1.1 hd0.1.1.1.2 hd0.1.1.2 hd0.1.2 hd0.2 h hh hL hg hQ
    simp only [exec] at hg
    split at hg
    · exact reg hn h hh hL hg fun a' w' hd => hQ .normal a' w' hd
    · rename_i m2 ks hk
      cases hg with
      | mark hg =>
      obtain ⟨Γ1, k1, k2, k3⟩ := forget_rel H.toTabE ks h hh
      exact reg (by omega) k1 k2 (k3.trans hL) hg fun a' w' hd => hQ .normal a' w' (hd.le (by omega))
  | seq x y ihx ihy =>
    intro i X s k r a w Γ β Q hd0 hro h hh hL hg hQ
    simp only [drOK, Bool.and_eq_true] at hd0
    refine wp_seq (ihx i X s _ r a w Γ β _ hd0.1 hro h hh hL hg fun e a' w' hd => ?_)
    cases e with
    | normal =>
      obtain ⟨s', Γ', β', m, hm, k1, k2, k3, k4⟩ := hd
      rcases Nat.lt_or_ge m n with hlt | hge
      · exact ih m hlt y i X s' k r a' w' Γ' β' Q hd0.2 hro k1 k2 k3 k4 fun e a' w' hd => hQ e a' w' (hd.le hm)
      · have : m = n := by omega
        subst this
        exact ihy i X s' k r a' w' Γ' β' Q hd0.2 hro k1 k2 k3 k4 hQ
    | exit id => exact hQ (.exit id) a' w' hd
    | ret => exact hQ .ret a' w' hd
  | cond c x y ihx ihy =>
    intro i X s k r a w Γ β Q hd0 hro h hh hL hg hQ
    simp only [drOK, Bool.and_eq_true] at hd0
    simp only [exec] at hg
    split at hg
    · rename_i b hb
      have e := h.litPeek hb
      rcases G.cond_inv hg with ⟨hbt, hg2⟩ | ⟨hbt, hg2⟩
      · subst hbt
        exact wp_cond_true e (ihx i X s k r a w Γ β Q hd0.1 hro h hh hL hg2 hQ)
      · subst hbt
        exact wp_cond_false e (ihy i X s k r a w Γ β Q hd0.2 hro h hh hL hg2 hQ)
    · exact (G.no_inv hg).elim
  | block id c ihc =>
    intro i X s k r a w Γ β Q hd0 hro h hh hL hg hQ
    refine wp_block (ihc id X s _ r a w Γ β _ (by simpa only [drOK] using hd0) hro h hh hL hg fun e a' w' hd => ?_)
    cases e with
    | normal => exact hQ .normal a' w' hd
    | ret => exact hQ .ret a' w' hd
    | exit j =>
      show if j = id then Q .normal a' w' else Q (.exit j) a' w'
      by_cases hj : j = id
      · subst hj
        rw [if_pos rfl]
        simp only [if_true] at hd
        exact hQ .normal a' w' hd
      · rw [if_neg hj]
        simp only [if_neg hj] at hd
        exact hQ (.exit j) a' w' hd
  | loop c ihc =>
    intro i X s k r a w Γ β Q hd0 hro h hh hL hg hQ
    simp only [exec] at hg
    obtain ⟨Γ1, k1, k2, k3⟩ := forget_rel H.toTabE (kl.f (2 * i)) h hh
    have key : ∀ m, m ≤ n → ∀ (s : S B) (a : Act) (w : World) (Γ : Gh B) (β : Nat → Nat), Rel X s a w Γ β → s.hd = [] → s.tm.length = L → G std M F m kl (.loop c i s k) r → Code.rounds P c Q m a w := by
      intro m
      induction m with
      | zero => intro _ s a w Γ β h hh hL hg; cases hg
      | succ m ihm =>
        intro hm s a w Γ β h hh hL hg
        cases hg with
        | loop hg =>
        rw [rounds_succ]
        refine ih m (by omega) c i X s _ r a w Γ β _ (by simpa only [drOK] using hd0) hro h hh hL hg fun e a' w' hd => ?_
        cases e with
        | normal =>
          obtain ⟨s', Γ', β', m', hm', k1, k2, k3, k4⟩ := hd
          obtain ⟨Γ2, p1, p2, p3⟩ := forget_rel H.toTabE (kl.f (2 * i)) k1 k2
          exact ihm (by omega) _ a' w' Γ2 β' p1 p2 (p3.trans k3) (k4.le hm')
        | exit id => exact hQ (.exit id) a' w' (hd.le (by omega))
        | ret => exact hQ .ret a' w' (hd.le (by omega))
    exact wp_loop_rounds n (key n (Nat.le_refl _) _ a w Γ1 β k1 k2 (k3.trans hL) hg)
  | _ => intro i X s k r a w Γ β Q hd0 hro h hh hL hg hQ; exact (G.no_inv hg).elim
theorem exec_sound (H : TabP P B) {N L : Nat} (HO : OpsOK P B M F N) : ∀ (n : Nat), n ≤ N → ExecOK P B M F kl L n := by
  intro n
  induction n using Nat.strongRecOn with
  | _ n ih => exact fun hn => exec_step H HO hn fun n' hlt => ih n' hlt (by omega)
end
end Go.I

/-! ISem24 -/
set_option linter.unusedVariables false
set_option linter.unusedSimpArgs false
namespace Go.I
open Go.RowKit Go.Proofs.YtogfddilolannaaDoorW.PrintWords
section
variable {P : Program} {B : Tab} {M : FuncId → List Md} {F : FuncId → Option (Fi B)} {kl : KL}
variable {X : Base B} {a : Act} {β : Nat → Nat} {o : Oper} {n : Nat} {k : S B → Tr B} {r : Res B} {Q : Exit → Act → World → Prop}
variable {s : S B} {w : World} {Γ : Gh B}
def resVar (a : Act) : ResultVar → Sem Value
  | .tmp t => pure (a.tmps.getD t undef)
  | .cell b t => do loadVar t (← asAddr (a.tmps.getD b undef))
def comp (x : (Bool × Nat) × List Value) : Value := if x.1.1 then .agg x.2.toArray else x.2.headD undef
theorem peek_form {x : WT B} {c : Value} {cs : List Value} (hw : WR x c cs) (ht : x.isTup = false) : c = if x.isAgg then .agg cs.toArray else cs.headD undef := by
  cases x with
  | one v =>
    have : cs = [c] := hw
    subst this
    rfl
  | agg l => exact hw
  | tup l => cases ht
theorem resL_sound (H : TabP P B) : ∀ (rs : List ResultVar) {s s' : S B} {fs : List (Bool × Nat)} {Γ : Gh B}, Rel X s a w Γ β → resL std s rs = some (fs, s') →
    ∃ (Γ' : Gh B) (css : List (List Value)), Rel X s' a w Γ' β ∧ s'.tm.length = s.tm.length ∧ csOf (Γ' 0) = csOf (Γ 0) ++ css.flatten ∧ css.map List.length = fs.map (·.2) ∧ (rs.mapM (resVar a)).run P w = .ok ((fs.zip css).map comp) w
  | [], s, s', fs, Γ, h, hg => by
    simp only [resL, Option.some.injEq, Prod.mk.injEq] at hg
    obtain ⟨rfl, rfl⟩ := hg
    exact ⟨Γ, [], h, rfl, by simp, rfl, by simp⟩
  | .tmp t :: rs, s, s', fs, Γ, h, hg => by
    simp only [resL] at hg
    split at hg
    · cases hg
    rename_i hnt
    simp only [Option.bind_eq_some_iff, Option.map_eq_some_iff] at hg
    obtain ⟨s1, h1, ⟨fs1, s2⟩, h2, h3⟩ := hg
    injection h3 with h3 h4
    subst h3; subst h4
    obtain ⟨Γ1, E, k1, k2, k3, k4, k5, k6⟩ := h.take H.toTabE h1
    obtain ⟨Γ2, css, m1, m2, m3, m4, m5⟩ := resL_sound H rs k1 h2
    refine ⟨Γ2, csOf E :: css, m1, m2.trans k3, by rw [m3, k2, List.flatten_cons, List.append_assoc], by simp only [List.map_cons, m4, cs_length, ← k4], ?_⟩
    have e := peek_form k5 (by simpa using hnt)
    have e2 : a.tmps.getD t undef = a.eval (.tmp t) := rfl
    simp [List.mapM_cons, resVar, e2, e, m5, comp]
  | .cell b t :: rs, s, s', fs, Γ, h, hg => by
    simp only [resL] at hg
    split at hg
    · rename_i p g m hp hlay
      split at hg
      · cases hg
      rename_i hnd
      have hnd : (loadN std s p 0 m).any V.isDead = false := by simpa using hnd
      simp only [Option.bind_eq_some_iff, Option.map_eq_some_iff] at hg
      obtain ⟨s1, h1, ⟨fs1, s2⟩, h2, h3⟩ := hg
      injection h3 with h3 h4
      subst h3; subst h4
      obtain ⟨Ep, hEp⟩ := h.peek 0 (.tmp b)
      rw [hp] at hEp
      obtain ⟨D, hl, hD, rfl⟩ := hEp.one
      have e : ∃ ad, a.eval (.tmp b) = .pointer (some ad) := by
        simp only [LeafR] at hl
        cases hs : p.st with
        | nil => rw [hs] at hl; obtain ⟨t, _, _, h3⟩ := hl; exact ⟨_, h3⟩
        | cons y st => rw [hs] at hl; obtain ⟨_, _, ad, _, _, h3⟩ := hl; exact ⟨ad, h3⟩
      obtain ⟨ad, e⟩ := e
      rw [e] at hl
      obtain ⟨E, l1, l2, l3, l4⟩ := h.loadN H.toTabE hl m 0 hnd
      have hcs : ∀ i v, (csOf E)[i]? = some v → w.cell? (ad.add i) = some v := fun i v hv => by have := l4 i v hv; rwa [Nat.zero_add] at this
      obtain ⟨d, i, q1, q2, q3, q4, q5, q6⟩ := H.lay_ok t g m hlay
      have hrun := run_loadAt (P := P) H hlay (ad := ad) (cs := csOf E) (by rw [cs_length, l2]; cases g with
        | true => rfl
        | false => simp [q5 rfl]) hcs
      have e0 : (Instr.sureAddr (.pointer (some ad))).run P w = .ok ad w := rfl
      have hrun' : (loadVar t ad).run P w = .ok (if g then .agg (csOf E).toArray else (csOf E).headD undef) w := by
        simpa only [Instr.loadAt, Sem.run_bind, e0, Result.andThen_ok] using hrun
      unfold S.grab at h1
      rw [l1] at h1
      obtain ⟨Γ1, k1, k2, k3, k4⟩ := h.grabF H.toTabE E (fun v => v) (fun y hy => (l3 y hy).1.none_of (l3 y hy).2) h1
      obtain ⟨Γ2, css, m1, m2, m3, m4, m5⟩ := resL_sound H rs k1 h2
      refine ⟨Γ2, csOf E :: css, m1, m2.trans k3, by rw [m3, k2, List.flatten_cons, List.append_assoc], by simp only [List.map_cons, m4, cs_length, l2], ?_⟩
      have e2 : a.tmps.getD b undef = a.eval (.tmp b) := rfl
      have e3 : (asAddr (.pointer (some ad))).run P w = .ok ad w := rfl
      simp only [List.mapM_cons, resVar, e2, e, Sem.run_bind, e3, Result.andThen_ok, hrun', m5]
      rfl
    · cases hg
def tupV : List Value → Value
  | [v] => v
  | vs => .tuple vs.toArray
theorem resL_one (H : TabP P B) : ∀ (rs : List ResultVar) {s s' : S B} {m : Nat}, Rel X s a w Γ β → resL std s rs = some ([(false, m)], s') → m = 1
  | [], s, s', m, h, hg => by simp [resL] at hg
  | .tmp t :: rs, s, s', m, h, hg => by
    simp only [resL] at hg
    split at hg
    · cases hg
    rename_i hnt
    simp only [Option.bind_eq_some_iff, Option.map_eq_some_iff] at hg
    obtain ⟨s1, h1, ⟨fs1, s2⟩, h2, h3⟩ := hg
    injection h3 with h3 h4
    injection h3 with h3 h5
    injection h3 with h6 h7
    rw [← h7]
    cases hx : s.peek 0 (.tmp t) with
    | one v => rfl
    | agg l => rw [hx] at h6; cases h6
    | tup l => rw [hx] at hnt; exact absurd rfl hnt
  | .cell b t :: rs, s, s', m, h, hg => by
    simp only [resL] at hg
    split at hg
    · rename_i p g m' hp hlay
      split at hg
      · cases hg
      simp only [Option.bind_eq_some_iff, Option.map_eq_some_iff] at hg
      obtain ⟨s1, h1, ⟨fs1, s2⟩, h2, h3⟩ := hg
      injection h3 with h3 h4
      injection h3 with h3 h5
      injection h3 with h6 h7
      obtain ⟨d, i, q1, q2, q3, q4, q5, q6⟩ := H.lay_ok t g m' hlay
      rw [← h7]
      exact q5 h6
    · cases hg
theorem run_results {fn : Func} {tmps : Array Value} {vs : List Value} (h : (fn.results.toList.mapM (resVar ⟨tmps, []⟩)).run P w = .ok vs w) : (results fn tmps).run P w = .ok (tupV vs) w := by
  have e : results fn tmps = (do let vs ← fn.results.mapM (resVar ⟨tmps, []⟩); pure (if h : vs.size = 1 then vs[0] else .tuple vs)) := by
    unfold results
    congr 1
  rw [e, Array.mapM_eq_mapM_toList]
  simp only [map_eq_pure_bind, bind_assoc, pure_bind, Sem.run_bind, h, Result.andThen_ok]
  match vs with
  | [] => simp [tupV]
  | [v] => simp [tupV]
  | v1 :: v2 :: vs => simp [tupV]
theorem cutL_spec : ∀ (fs : List (Bool × Nat)) (css : List (List Value)) (E : List (Ent B)), css.map List.length = fs.map (·.2) → css.flatten = csOf E →
    ((cutL fs (vs E)).map (·.2)).flatten = vs E ∧ css.map List.length = (cutL fs (vs E)).map (fun x => x.2.length) ∧ (fs.zip css).map comp = ((cutL fs (vs E)).zip css).map fun x => if x.1.1 then .agg x.2.toArray else x.2.headD undef
  | [], css, E, h1, h2 => by
    have : css = [] := by simpa using h1
    subst this
    have : E = [] := by
      have : (csOf E).length = 0 := by rw [← h2]; rfl
      exact List.eq_nil_of_length_eq_zero (by rw [← cs_length]; exact this)
    subst this
    exact ⟨rfl, rfl, rfl⟩
  | (b, m) :: fs, css, E, h1, h2 => by
    cases css with
    | nil => simp at h1
    | cons c css =>
      simp only [List.map_cons, List.cons.injEq, List.flatten_cons] at h1 h2
      have e1 : (vs E).drop m = vs (E.drop m) := by simp [vs, List.map_drop]
      have e2 : (vs E).take m = vs (E.take m) := by simp [vs, List.map_take]
      have hlen : m ≤ E.length := by rw [← cs_length, ← h2, List.length_append]; omega
      obtain ⟨k1, k2, k3⟩ := cutL_spec fs css (E.drop m) h1.2 (by rw [csOf_drop, ← h2, ← h1.1, List.drop_left' rfl])
      simp only [cutL, List.map_cons, List.flatten_cons, e1, k1, k2, List.zip_cons_cons, k3]
      refine ⟨by rw [← e1]; exact List.take_append_drop _ _, ?_, rfl⟩
      congr 1
      rw [h1.1, List.length_take, vs_length]
      omega
/-- The results, as a call's value. -/
theorem resW_spec {fs : List (Bool × Nat)} {css : List (List Value)} {E : List (Ent B)} (h1 : css.map List.length = fs.map (·.2)) (h2 : css.flatten = csOf E) (hone : ∀ m, fs = [(false, m)] → m = 1) :
    (resW fs (vs E)).leaves = vs E ∧ WR (resW fs (vs E)) (tupV ((fs.zip css).map comp)) (csOf E) := by
  match fs, css, h1, h2, hone with
  | [(b, m)], [c], h1, h2, hone =>
    have hc : c = csOf E := by simpa using h2
    subst hc
    cases b with
    | true => exact ⟨rfl, rfl⟩
    | false =>
      have hm := hone m rfl
      have hE : E.length = 1 := by simpa [cs_length, hm] using h1
      match E, hE with
      | [y], _ => exact ⟨rfl, rfl⟩
  | [], css, h1, h2, _ =>
    obtain ⟨k1, k2, k3⟩ := cutL_spec ([] : List (Bool × Nat)) css E h1 h2
    exact ⟨k1, ⟨css, h2.symm, k2, rfl⟩⟩
  | x :: y :: fs, c1 :: c2 :: css, h1, h2, _ =>
    obtain ⟨k1, k2, k3⟩ := cutL_spec (x :: y :: fs) (c1 :: c2 :: css) E h1 h2
    have e : resW (x :: y :: fs) (vs E) = .tup (cutL (x :: y :: fs) (vs E)) := by obtain ⟨b, m⟩ := x; rfl
    rw [e]
    refine ⟨k1, ⟨c1 :: c2 :: css, h2.symm, k2, ?_⟩⟩
    rw [← k3]
    rfl
  | [x], [], h1, _, _ => simp at h1
  | [x], _ :: _ :: _, h1, _, _ => simp at h1
  | x :: y :: fs, [], h1, _, _ => simp at h1
  | x :: y :: fs, [_], h1, _, _ => simp at h1
end
end Go.I

/-! ISemP -/
set_option linter.unusedVariables false
set_option linter.unusedSimpArgs false
namespace Go.I
open Go.RowKit Go.Proofs.YtogfddilolannaaDoorW.PrintWords
section
variable {B : Tab}
theorem own_all {w : World} : ∀ (l : List (Ent B)), (∀ y ∈ l, ∃ n, Own w n y.v y.c y.D) → ∃ n, ∀ y ∈ l, Own w n y.v y.c y.D
  | [], _ => ⟨0, fun y hy => by cases hy⟩
  | y :: l, h => by
    obtain ⟨n, hn⟩ := h y (by simp)
    obtain ⟨m, hm⟩ := own_all l fun z hz => h z (by simp [hz])
    refine ⟨n + m, fun z hz => ?_⟩
    rcases List.mem_cons.1 hz with rfl | hz
    · exact hn.le (by omega)
    · exact (hm z hz).le (by omega)
/-- A variable of one's own, pointed to by a tmp, becomes a pointer of one's own. -/
theorem Rel.pack (H : TabE B) {X : Base B} {s : S B} {a : Act} {w : World} {Γ : Gh B} {β : Nat → Nat} (h : Rel X s a w Γ β) (hro : ∀ t b, ¬ X.ro t b) {t d : Nat} {i : Bool} {e : TypeId} {x : B.T e} (ht : t < s.tm.length) (hd : d < s.tm.length)
    (htm : s.tm.getD t (.one .dead) = .one (.ptr ⟨2 * d + 3, 0, []⟩)) (hdat : (if i then (s.root (2 * d + 3)).all V.still else (s.root (2 * d + 3)).all V.data) = true) (hi : i = false → (s.root (2 * d + 3)).any V.isImm = false) (hdec : B.dec e ((s.root (2 * d + 3)).map V.toOwn) = some x) :
    ∃ Γ', Rel X { s.killR (2 * d + 3) with tm := setAt (s.killR (2 * d + 3)).tm t (.one (.pb i e x)), bx := setAt (s.killR (2 * d + 3)).bx d [] } a w Γ' β := by
  have hta : t < a.tmps.size := by rw [← h.size]; exact ht
  have htm' : s.tm[t]? = some (.one (.ptr ⟨2 * d + 3, 0, []⟩)) := by
    rw [List.getD_eq_getElem?_getD, List.getElem?_eq_getElem ht, Option.getD_some] at htm
    rw [List.getElem?_eq_getElem ht, htm]
  obtain ⟨y, hy⟩ : ∃ y, Γ (2 * t + 2) = [y] := by
    have h1 : (W.one (.ptr ⟨2 * d + 3, 0, []⟩) : WT B).leaves = vs (Γ (2 * t + 2)) := h.tmLeaves htm'
    have h2 : (Γ (2 * t + 2)).length = 1 := by have := congrArg List.length h1; simpa [vs, W.leaves] using this.symm
    exact List.length_eq_one_iff.1 h2
  have hyv : y.v = .ptr ⟨2 * d + 3, 0, []⟩ := by
    have h1 : (W.one (.ptr ⟨2 * d + 3, 0, []⟩) : WT B).leaves = vs (Γ (2 * t + 2)) := h.tmLeaves htm'
    rw [hy] at h1
    simp [vs, W.leaves] at h1
    exact h1.symm
  have hyc : a.tmps[t]? = some y.c := by
    have h1 := h.tm t _ _ htm' (Array.getElem?_eq_getElem hta)
    rw [hy] at h1
    have h1 : [y.c] = [a.tmps[t]] := h1
    injection h1 with h1
    rw [Array.getElem?_eq_getElem hta, h1]
  have hly := h.leaf (2 * t + 2) y (by rw [hy]; simp)
  rw [hyv] at hly
  obtain ⟨d', hd', hne, hc⟩ := hly
  have hdd : d' = d := by simp only at hd'; omega
  subst hdd
  simp only at hne hc
  obtain ⟨ty, hbx⟩ := h.bx d' hne
  have h1 := h.map H (V.killR (2 * d' + 3)) (killR_same _) (killR_own _)
  generalize hG1 : (fun r => (Γ r).map fun z : Ent B => { z with v := V.killR (2 * d' + 3) z.v }) = G1 at h1
  have hG1q : ∀ q, G1 q = (Γ q).map fun z : Ent B => { z with v := V.killR (2 * d' + 3) z.v } := fun q => by rw [← hG1]
  -- the new entry
  generalize hY : (⟨.pb i e x, y.c, fun b => b = β d' ∨ ∃ z ∈ Γ (2 * d' + 3), z.D b⟩ : Ent B) = Y
  have hYv : Y.v = .pb i e x := by rw [← hY]
  have hYc : Y.c = y.c := by rw [← hY]
  have hYD : ∀ b, Y.D b ↔ (b = β d' ∨ ∃ z ∈ Γ (2 * d' + 3), z.D b) := fun b => by rw [← hY]
  have hcsne : csOf (Γ (2 * d' + 3)) ≠ [] := by
    intro e0
    apply hne
    have := congrArg List.length e0
    rw [cs_length] at this
    exact List.eq_nil_of_length_eq_zero this
  have henc0 : B.enc e x = (vs (Γ (2 * d' + 3))).map V.toOwn := by rw [H.dec_enc e _ x hdec, h.root]
  have hpb : PbX B w (okB X Γ β w) i e x Y.c Y.D := by
    cases i with
    | true =>
      rw [if_pos rfl, h.root] at hdat
      have hst : ∀ z ∈ Γ (2 * d' + 3), ∃ n, Imm w (okB X Γ β w) n z.v.toOwn z.c := by
        intro z hz
        have h2 := List.all_eq_true.1 hdat z.v (List.mem_map.2 ⟨z, hz, rfl⟩)
        have h3 := h.leaf _ z hz
        cases hv : z.v with
        | lit u => rw [hv] at h3; exact ⟨0, h3⟩
        | imm e l =>
          rw [hv] at h3
          obtain ⟨n, h3⟩ := h3
          cases n with
          | zero => exact h3.elim
          | succ n => exact ⟨n + 1, h3⟩
        | _ => rw [hv] at h2; cases h2
      have hall : ∀ l : List (Ent B), (∀ z ∈ l, ∃ n, Imm w (okB X Γ β w) n z.v.toOwn z.c) → ∃ n, ∀ z ∈ l, Imm w (okB X Γ β w) n z.v.toOwn z.c := by
        intro l
        induction l with
        | nil => intro _; exact ⟨0, fun z hz => by cases hz⟩
        | cons z l ih =>
          intro hl
          obtain ⟨n, hn⟩ := hl z (by simp)
          obtain ⟨m, hm⟩ := ih fun u hu => hl u (by simp [hu])
          refine ⟨n + m, fun u hu => ?_⟩
          rcases List.mem_cons.1 hu with rfl | hu
          · exact hn.le (by omega)
          · exact (hm u hu).le (by omega)
      obtain ⟨n, hn⟩ := hall _ hst
      refine ⟨β d', ty, csOf (Γ (2 * d' + 3)), n, by rw [hYc, hc], (hYD _).2 (.inl rfl), hbx, hcsne, by rw [henc0, List.length_map, vs_length, cs_length], ?_⟩
      intro k v c hv hcc
      rw [henc0] at hv
      simp only [vs, csOf, List.getElem?_map, Option.map_eq_some_iff] at hv hcc
      obtain ⟨v', ⟨z, hz, rfl⟩, rfl⟩ := hv
      obtain ⟨z', hz', rfl⟩ := hcc
      rw [hz] at hz'
      injection hz' with hz'
      subst hz'
      exact hn z (List.mem_of_getElem? hz)
    | false =>
      rw [if_neg (by decide), h.root] at hdat
      obtain ⟨n, hn⟩ := own_all (w := w) (Γ (2 * d' + 3)) fun z hz => own_of_leaf (h.leaf _ z hz) (List.all_eq_true.1 hdat z.v (List.mem_map.2 ⟨z, hz, rfl⟩))
      have henc : B.enc e x = vs (Γ (2 * d' + 3)) := by
        rw [henc0]
        refine (List.map_congr_left fun v hv => ?_).trans (List.map_id _)
        have h2 := List.all_eq_true.1 hdat v hv
        cases v <;> first | rfl | cases h2
      refine ⟨β d', ty, csOf (Γ (2 * d' + 3)), n, fun b => ∃ z ∈ Γ (2 * d' + 3), z.D b, by rw [hYc, hc], (hYD _).2 (.inl rfl), hbx, hcsne, ?_, ?_⟩
      · refine ⟨by rw [henc, vs_length, cs_length], fun k b => ∃ z, (Γ (2 * d' + 3))[k]? = some z ∧ z.D b, ?_, ?_, ?_⟩
        · intro k v c hv hcc
          rw [henc] at hv
          simp only [vs, csOf, List.getElem?_map, Option.map_eq_some_iff] at hv hcc
          obtain ⟨z, hz, rfl⟩ := hv
          obtain ⟨z', hz', rfl⟩ := hcc
          rw [hz] at hz'
          injection hz' with hz'
          subst hz'
          exact (hn z (List.mem_of_getElem? hz)).mono fun b hb => ⟨z, hz, hb⟩
        · rintro j k b ⟨z, hz, hb⟩ ⟨z', hz', hb'⟩
          exact (h.disj _ _ _ _ z z' hz hz' b hb hb').2
        · rintro k b ⟨z, hz, hb⟩
          exact ⟨z, List.mem_of_getElem? hz, hb⟩
      · rintro k ⟨z, hz, hb⟩
        exact ⟨(hYD _).2 (.inr ⟨z, hz, hb⟩), fun e0 => h.bdisj _ z d' hz hne (e0 ▸ hb)⟩
  generalize hG : setG (setG G1 (2 * d' + 3) []) (2 * t + 2) [Y] = G
  have gd : G (2 * d' + 3) = [] := by rw [← hG, setG_ne _ _ (by omega), setG_same]
  have gt : G (2 * t + 2) = [Y] := by rw [← hG, setG_same]
  have gq : ∀ q, q ≠ 2 * d' + 3 → q ≠ 2 * t + 2 → G q = G1 q := fun q e1 e2 => by rw [← hG, setG_ne _ _ e2, setG_ne _ _ e1]
  have hal : ∀ q z p, z ∈ G1 q → (Alias z.v p ∨ z.v = .ptr p) → p.r ≠ 2 * d' + 3 := by
    intro q z p hz hp
    rw [hG1q] at hz
    obtain ⟨z', _, rfl⟩ := List.mem_map.1 hz
    exact killR_alias hp
  have hget : ∀ (q j : Nat) (z : Ent B), (G q)[j]? = some z → (q ≠ 2 * d' + 3 ∧ q ≠ 2 * t + 2 ∧ (G1 q)[j]? = some z) ∨ (q = 2 * t + 2 ∧ j = 0 ∧ z = Y) := by
    intro q j z hz
    by_cases e1 : q = 2 * d' + 3
    · subst e1; rw [gd] at hz; simp at hz
    · by_cases e2 : q = 2 * t + 2
      · subst e2
        rw [gt] at hz
        have hj := (List.getElem?_eq_some_iff.1 hz).1
        simp at hj
        subst hj
        simp at hz
        exact .inr ⟨rfl, rfl, hz.symm⟩
      · rw [gq q e1 e2] at hz; exact .inl ⟨e1, e2, hz⟩
  have hmem : ∀ q z, z ∈ G q → (q ≠ 2 * d' + 3 ∧ q ≠ 2 * t + 2 ∧ z ∈ G1 q) ∨ (q = 2 * t + 2 ∧ z = Y) := by
    intro q z hz
    obtain ⟨j, hj⟩ := List.getElem?_of_mem hz
    rcases hget q j z hj with ⟨e1, e2, e3⟩ | ⟨e1, _, e3⟩
    · exact .inl ⟨e1, e2, List.mem_of_getElem? e3⟩
    · exact .inr ⟨e1, e3⟩
  have hlive : ∀ u, G (2 * u + 3) ≠ [] → u ≠ d' ∧ G1 (2 * u + 3) ≠ [] := by
    intro u hu
    by_cases e1 : u = d'
    · subst e1; exact absurd gd hu
    · rw [gq _ (by omega) (by omega)] at hu; exact ⟨e1, hu⟩
  have hne1 : G1 (2 * d' + 3) ≠ [] := by rw [hG1q]; simpa using hne
  -- what the new entry owns, the box owned
  have hYold : ∀ b, Y.D b → b = β d' ∨ ∃ z ∈ G1 (2 * d' + 3), z.D b := by
    intro b hb
    rcases (hYD b).1 hb with e1 | ⟨z, hz, hzb⟩
    · exact .inl e1
    · refine .inr ⟨{ z with v := V.killR (2 * d' + 3) z.v }, ?_, hzb⟩
      rw [hG1q]
      exact List.mem_map.2 ⟨z, hz, rfl⟩
  have hYno : ∀ (q j : Nat) (z : Ent B) (b : Nat), (G1 q)[j]? = some z → q ≠ 2 * d' + 3 → z.D b → ¬ Y.D b := by
    intro q j z b hz hq hb hYb
    rcases hYold b hYb with e1 | ⟨z', hz', hzb⟩
    · subst e1; exact h1.bdisj q z d' (List.mem_of_getElem? hz) hne1 hb
    · obtain ⟨i, hi⟩ := List.getElem?_of_mem hz'
      exact hq (h1.disj _ _ _ _ z z' hz hi b hb hzb).1
  have hok : ∀ b, okB X G1 β w b → okB X G β w b := by
    intro b hb
    refine ⟨hb.1, hb.2.1, fun q z hz hzb => ?_, fun u hu => hb.2.2.2 u (hlive u hu).2⟩
    rcases hmem q z hz with ⟨_, _, hz⟩ | ⟨_, rfl⟩
    · exact hb.2.2.1 q z hz hzb
    · rcases hYold b hzb with e1 | ⟨z', hz', hzb⟩
      · exact hb.2.2.2 d' hne1 e1
      · exact hb.2.2.1 _ z' hz' hzb
  have hok0 : ∀ b, okB X Γ β w b → okB X G1 β w b := by
    rintro b ⟨a1, a2, a3, a4⟩
    refine ⟨a1, a2, fun q z hz => ?_, fun u hu => a4 u ?_⟩
    · rw [hG1q] at hz
      obtain ⟨z', hz', rfl⟩ := List.mem_map.1 hz
      exact a3 q z' hz'
    · rw [hG1q] at hu
      simpa using hu
  have htl : (s.killR (2 * d' + 3)).tm.length = s.tm.length := by simp [S.killR, S.map]
  have hbl : (s.killR (2 * d' + 3)).bx.length = s.bx.length := by simp [S.killR, S.map]
  refine ⟨G, h1.next (s' := { s.killR (2 * d' + 3) with tm := setAt (s.killR (2 * d' + 3)).tm t (.one (.pb i e x)), bx := setAt (s.killR (2 * d' + 3)).bx d' [] }) (a' := a) (w' := w) (β' := β) H h1.dfr ?_ ?_ ?_ ?_ ?_ ?_ (fun b hb => ⟨hok b hb, rfl⟩) (fun _ _ _ _ _ _ _ => rfl) ?_ ?_ ?_ ?_ ?_ ?_ ?_ h1.grow h1.keep h1.os h1.tape h1.output (by rw [gq 1 (by omega) (by omega)])⟩
  · show (setAt (s.killR (2 * d' + 3)).tm t (.one (.pb i e x))).length = _
    rw [setAt_eq, List.length_set, htl]; exact h.size
  · refine h1.pins (Γ' := G) (s' := { s.killR (2 * d' + 3) with tm := setAt (s.killR (2 * d' + 3)).tm t (.one (.pb i e x)), bx := setAt (s.killR (2 * d' + 3)).bx d' [] }) (by simp [setAt_eq, S.killR]) (by simp [setAt_eq, S.killR]) fun u hu hne' => ⟨?_, rfl⟩
    have hu : s.tm.length ≤ u := by rw [← htl]; exact hu
    rw [gq _ (by omega) (by omega)]
    exact hne'
  · intro q
    have e1 : ({ s.killR (2 * d' + 3) with tm := setAt (s.killR (2 * d' + 3)).tm t (.one (.pb i e x)), bx := setAt (s.killR (2 * d' + 3)).bx d' [] } : S B).root q =
        if q = 2 * t + 2 ∧ t < s.tm.length then [.pb i e x] else if q = 2 * d' + 3 ∧ d' < s.bx.length then [] else (s.killR (2 * d' + 3)).root q := by
      have a2 := root_setTm ({ s.killR (2 * d' + 3) with bx := setAt (s.killR (2 * d' + 3)).bx d' [] } : S B) t (.one (.pb i e x)) q
      have a3 := root_setBx (s.killR (2 * d' + 3)) d' [] q
      rw [hbl] at a3
      refine a2.trans ?_
      rw [a3]
      show (if q = 2 * t + 2 ∧ t < (s.killR (2 * d' + 3)).tm.length then _ else _) = _
      rw [htl]
      rfl
    rw [e1]
    by_cases e2 : q = 2 * t + 2
    · subst e2; rw [if_pos ⟨rfl, ht⟩, gt]; simp [vs, hYv]
    · rw [if_neg (fun e => e2 e.1)]
      by_cases e3 : q = 2 * d' + 3
      · subst e3; rw [if_pos ⟨rfl, Nat.lt_of_lt_of_le hd h.bsize.1⟩, gd]; rfl
      · rw [if_neg (fun e => e3 e.1), gq q e3 e2]; exact h1.root q
  · intro u z c hz hcu
    by_cases e2 : u = t
    · subst e2
      have hz : (setAt (s.killR (2 * d' + 3)).tm u (.one (.pb i e x)))[u]? = some z := hz
      rw [setAt_eq, List.getElem?_set, if_pos rfl, if_pos (by rw [htl]; exact ht)] at hz
      injection hz with hz
      subst hz
      rw [hyc] at hcu
      injection hcu with hcu
      rw [gt]
      show [Y.c] = [c]
      rw [hYc, hcu]
    · have hz : (setAt (s.killR (2 * d' + 3)).tm t (.one (.pb i e x)))[u]? = some z := hz
      rw [setAt_eq, List.getElem?_set, if_neg (fun e => e2 e.symm)] at hz
      rw [gq _ (by omega) (by omega)]
      exact h1.tm u z c hz hcu
  · intro u hu
    obtain ⟨e1, e2⟩ := hlive u hu
    rw [gq _ (by omega) (by omega)]
    exact h1.bx u e2
  · intro q z hz
    rcases hmem q z hz with ⟨_, _, hz⟩ | ⟨_, rfl⟩
    · exact .inl ⟨q, hz⟩
    · refine .inr ?_
      rw [hYv]
      exact hpb.ok fun b hb => hok b (hok0 b hb)
  · intro q z p hz ho hp z' hz' hzo
    obtain ⟨q0, ho⟩ := ho
    have hpr := hal q0 z p ho (.inl hp)
    by_cases e2 : p.r = 2 * t + 2
    · exfalso
      rw [e2, hG1q, hy] at hz'
      have hj := (List.getElem?_eq_some_iff.1 hz').1
      have hj0 : p.k = 0 := by simp at hj; exact hj
      rw [hj0] at hz'
      simp at hz'
      subst hz'
      simp only [hyv] at hzo
      have : V.isOwn (V.killR (2 * d' + 3) (.ptr ⟨2 * d' + 3, 0, []⟩) : VT B) = false := by simp [V.killR, V.isOwn]
      rw [this] at hzo; cases hzo
    · rw [gq _ hpr e2]; exact hz'
  · intro q z p u hz ho hp hst hr hg
    obtain ⟨q0, ho⟩ := ho
    have hpr := hal q0 z p ho (.inr hp)
    rw [hr] at hg hpr ⊢
    rw [gq _ hpr (by omega)]
    exact ⟨hg, rfl⟩
  · intro q k q' k' z z' hz hz' b hb hb'
    rcases hget q k z hz with ⟨n1, n2, e1⟩ | ⟨e1, e2, rfl⟩ <;> rcases hget q' k' z' hz' with ⟨n3, n4, e3⟩ | ⟨e3, e4, rfl⟩
    · exact h1.disj _ _ _ _ z z' e1 e3 b hb hb'
    · exact (hYno q k z b e1 n1 hb hb').elim
    · exact (hYno q' k' z' b e3 n3 hb' hb).elim
    · exact ⟨e1.trans e3.symm, e2.trans e4.symm⟩
  · intro q z u hz hu hb
    obtain ⟨e1, e2⟩ := hlive u hu
    rcases hmem q z hz with ⟨_, _, hz⟩ | ⟨_, rfl⟩
    · exact h1.bdisj q z u hz e2 hb
    · rcases hYold _ hb with e3 | ⟨z', hz', hzb⟩
      · exact e1 (h1.binj u d' e2 hne1 e3)
      · exact h1.bdisj _ z' u hz' e2 hzb
  · intro u v hu hv e1
    exact h1.binj u v (hlive u hu).2 (hlive v hv).2 e1
  · intro q z b hz hb
    rcases hmem q z hz with ⟨_, _, hz⟩ | ⟨_, rfl⟩
    · exact h1.dlt q z b hz hb
    · rcases hYold b hb with e3 | ⟨z', hz', hzb⟩
      · subst e3
        exact ⟨(Array.getElem?_eq_some_iff.1 hbx).1, (h1.bnd d' hne1).resolve_left (hro d' _)⟩
      · exact h1.dlt _ z' b hz' hzb
  · intro u hu
    exact h1.bnd u (hlive u hu).2
theorem Rel.packs (H : TabE B) {X : Base B} {a : Act} {w : World} {β : Nat → Nat} (hro : ∀ t b, ¬ X.ro t b) : ∀ (rs : List ResultVar) (ts : List TypeId) {s : S B} {Γ : Gh B}, Rel X s a w Γ β → s.hd = [] → ∃ Γ', Rel X (s.packs rs ts) a w Γ' β ∧ (s.packs rs ts).hd = []
  | [], ts, s, Γ, h, hh => ⟨Γ, h, hh⟩
  | _ :: _, [], s, Γ, h, hh => ⟨Γ, h, hh⟩
  | rv :: rs, ty :: ts, s, Γ, h, hh => by
    have h1 : ∃ Γ', Rel X (s.pack1 rv ty) a w Γ' β ∧ (s.pack1 rv ty).hd = [] := by
      unfold S.pack1
      split
      · rename_i t
        split
        · rename_i e r _ htm
          by_cases hcond : 3 ≤ r ∧ r % 2 = 1 ∧ (r - 3) / 2 < s.tm.length ∧ t < s.tm.length ∧ (if (s.root r).any V.isImm = true then (s.root r).all V.still else (s.root r).all V.data) = true
          · rw [if_pos hcond]
            obtain ⟨c1, c2, c3, c4, c5⟩ := hcond
            obtain ⟨d, rfl⟩ : ∃ d, r = 2 * d + 3 := ⟨(r - 3) / 2, by omega⟩
            cases hdec : B.dec e ((s.root (2 * d + 3)).map V.toOwn) with
            | none => exact ⟨Γ, h, hh⟩
            | some x =>
              simp only
              rw [show (2 * d + 3 - 3) / 2 = d by omega] at c3 ⊢
              obtain ⟨Γ', k⟩ := h.pack H hro (i := (s.root (2 * d + 3)).any V.isImm) c4 c3 htm c5 (fun e => e) hdec
              exact ⟨Γ', k, by show (s.killR (2 * d + 3)).hd = []; simp [S.killR, S.map, hh]⟩
          · rw [if_neg hcond]
            exact ⟨Γ, h, hh⟩
        · exact ⟨Γ, h, hh⟩
      · exact ⟨Γ, h, hh⟩
    obtain ⟨Γ1, k1, k2⟩ := h1
    exact Rel.packs H hro rs ts k1 k2
/-- Entries for the leaves of what a pointer points to. -/
def entL : Nat → List (VT B) → List Value → (Nat → Nat → Prop) → List (Ent B)
  | k, v :: vs, c :: cs, Dk => ⟨v, c, Dk k⟩ :: entL (k + 1) vs cs Dk
  | _, _, _, _ => []
theorem entL_get : ∀ (vs' : List (VT B)) (cs : List Value) (k : Nat) (Dk : Nat → Nat → Prop) (j : Nat) (y : Ent B), (entL k vs' cs Dk)[j]? = some y → vs'[j]? = some y.v ∧ cs[j]? = some y.c ∧ y.D = Dk (k + j)
  | [], _, _, _, j, y, h => by simp [entL] at h
  | _ :: _, [], _, _, j, y, h => by simp [entL] at h
  | v :: vs', c :: cs, k, Dk, 0, y, h => by
    simp only [entL, List.getElem?_cons_zero, Option.some.injEq] at h
    subst h
    exact ⟨rfl, rfl, rfl⟩
  | v :: vs', c :: cs, k, Dk, j + 1, y, h => by
    simp only [entL, List.getElem?_cons_succ] at h
    obtain ⟨h1, h2, h3⟩ := entL_get vs' cs (k + 1) Dk j y h
    exact ⟨h1, h2, by rw [h3, show k + 1 + j = k + (j + 1) by omega]⟩
theorem entL_vs : ∀ (vs' : List (VT B)) (cs : List Value) (k : Nat) (Dk : Nat → Nat → Prop), vs'.length = cs.length → vs (entL k vs' cs Dk) = vs' ∧ csOf (entL k vs' cs Dk) = cs
  | [], [], _, _, _ => ⟨rfl, rfl⟩
  | [], _ :: _, _, _, h => by simp at h
  | _ :: _, [], _, _, h => by simp at h
  | v :: vs', c :: cs, k, Dk, h => by
    obtain ⟨h1, h2⟩ := entL_vs vs' cs (k + 1) Dk (by simpa using h)
    exact ⟨by show v :: vs (entL (k + 1) vs' cs Dk) = _; rw [h1], by show c :: csOf (entL (k + 1) vs' cs Dk) = _; rw [h2]⟩
/-- A pointer of one's own in a tmp becomes a variable, and a pointer to it. -/
theorem Rel.unpack (H : TabE B) {X : Base B} {s : S B} {a : Act} {w : World} {Γ : Gh B} {β : Nat → Nat} (h : Rel X s a w Γ β) (dst : Option Nat) :
    ∃ Γ' β', Rel X (s.unpack dst) a w Γ' β' ∧ (s.hd = [] → (s.unpack dst).hd = []) ∧ (s.unpack dst).tm.length = s.tm.length := by
  unfold S.unpack
  split
  rotate_left
  · exact ⟨Γ, β, h, id, rfl⟩
  rename_i d
  split
  rotate_left
  · exact ⟨Γ, β, h, id, rfl⟩
  rename_i i e x htm
  have hd : d < s.tm.length := by
    rcases Nat.lt_or_ge d s.tm.length with h1 | h1
    · exact h1
    · rw [List.getD_eq_getElem?_getD, List.getElem?_eq_none h1] at htm; cases htm
  have hda : d < a.tmps.size := by rw [← h.size]; exact hd
  have htm' : s.tm[d]? = some (.one (.pb i e x)) := by
    rw [List.getD_eq_getElem?_getD, List.getElem?_eq_getElem hd, Option.getD_some] at htm
    rw [List.getElem?_eq_getElem hd, htm]
  -- who tells of the tmp, or of the box, tells of nothing more
  have h1 := (h.map H (V.killR (2 * d + 3)) (killR_same _) (killR_own _)).map H (V.killR (2 * d + 2)) (killR_same _) (killR_own _)
  generalize hG1 : (fun r => ((fun r => (Γ r).map fun z : Ent B => { z with v := V.killR (2 * d + 3) z.v }) r).map fun z : Ent B => { z with v := V.killR (2 * d + 2) z.v }) = G1 at h1
  generalize hs1 : (s.map (V.killR (2 * d + 3))).map (V.killR (2 * d + 2)) = s1 at h1
  have hs1' : (s.killR (2 * d + 3)).killR (2 * d + 2) = s1 := hs1
  rw [hs1']
  have htl : s1.tm.length = s.tm.length := by rw [← hs1]; simp [S.map]
  have hbl : s1.bx.length = s.bx.length := by rw [← hs1]; simp [S.map]
  have hG1q : ∀ q, G1 q = ((Γ q).map fun z : Ent B => { z with v := V.killR (2 * d + 3) z.v }).map fun z : Ent B => { z with v := V.killR (2 * d + 2) z.v } := fun q => by rw [← hG1]
  have hal : ∀ q z p, z ∈ G1 q → (Alias z.v p ∨ z.v = .ptr p) → p.r ≠ 2 * d + 3 ∧ p.r ≠ 2 * d + 2 := by
    intro q z p hz hp
    rw [hG1q] at hz
    obtain ⟨z1, hz1, rfl⟩ := List.mem_map.1 hz
    obtain ⟨z2, _, rfl⟩ := List.mem_map.1 hz1
    refine ⟨?_, killR_alias hp⟩
    rcases killR_same (2 * d + 2) (V.killR (2 * d + 3) z2.v) with e1 | e1
    · simp only at hp; rw [e1] at hp; exact killR_alias hp
    · simp only at hp; rw [e1] at hp
      rcases hp with (hp | ⟨hp, _⟩) | hp <;> cases hp
  obtain ⟨y0, hy0⟩ : ∃ y, Γ (2 * d + 2) = [y] := by
    have h2 : (W.one (.pb i e x) : WT B).leaves = vs (Γ (2 * d + 2)) := h.tmLeaves htm'
    have h3 : (Γ (2 * d + 2)).length = 1 := by have := congrArg List.length h2; simpa [vs, W.leaves] using this.symm
    exact List.length_eq_one_iff.1 h3
  have hyv0 : y0.v = .pb i e x := by
    have h2 : (W.one (.pb i e x) : WT B).leaves = vs (Γ (2 * d + 2)) := h.tmLeaves htm'
    rw [hy0] at h2
    simp [vs, W.leaves] at h2
    exact h2.symm
  obtain ⟨y, hy, hyv, hyc0, hyD0⟩ : ∃ y, G1 (2 * d + 2) = [y] ∧ y.v = .pb i e x ∧ y.c = y0.c ∧ y.D = y0.D := by
    refine ⟨⟨.pb i e x, y0.c, y0.D⟩, ?_, rfl, rfl, rfl⟩
    rw [hG1q, hy0]
    simp [hyv0, V.killR]
  have hyc : a.tmps[d]? = some y.c := by
    have h2 := h.tm d _ _ htm' (Array.getElem?_eq_getElem hda)
    rw [hy0] at h2
    have h2 : [y0.c] = [a.tmps[d]] := h2
    injection h2 with h2
    rw [Array.getElem?_eq_getElem hda, hyc0, h2]
  have hly := h1.leaf (2 * d + 2) y (by rw [hy]; simp)
  rw [hyv] at hly
  have hyi : (G1 (2 * d + 2))[0]? = some y := by rw [hy]; rfl
  obtain ⟨b, ty, cs, EE, hc, hDb, hbl2, hcs, ev, ec, hED, hEdis, hEl⟩ : ∃ (b : Nat) (ty : TypeId) (cs : List Value) (EE : List (Ent B)), y.c = .pointer (some ⟨b, 0, none⟩) ∧ y.D b ∧ w.heap[b]? = some (.cells cs.toArray ty (0, 0)) ∧ cs ≠ [] ∧ vs EE = unl i e x ∧ csOf EE = cs ∧
      (∀ z ∈ EE, ∀ k, z.D k → y.D k ∧ k ≠ b) ∧ (∀ (j k : Nat) (z z' : Ent B), EE[j]? = some z → EE[k]? = some z' → ∀ m, z.D m → z'.D m → j = k) ∧
      ∀ z ∈ EE, (∃ n, Own w n z.v z.c z.D) ∨ ∃ e l n, z.v = .imm e l ∧ Imm w (okB X G1 β w) n (.imm e l : VT B) z.c := by
    cases i with
    | false =>
      obtain ⟨b, ty, cs, n, D', hc, hDb, hbl2, hcs, ⟨hlen, Dk, hk1, hk2, hk3⟩, hD'⟩ := hly
      obtain ⟨ev, ec⟩ := entL_vs (B.enc e x) cs 0 Dk hlen
      have hEg : ∀ (j : Nat) z, (entL 0 (B.enc e x) cs Dk)[j]? = some z → (B.enc e x)[j]? = some z.v ∧ cs[j]? = some z.c ∧ z.D = Dk j := by
        intro j z hz
        have := entL_get _ _ _ _ j z hz
        rwa [Nat.zero_add] at this
      refine ⟨b, ty, cs, entL 0 (B.enc e x) cs Dk, hc, hDb, hbl2, hcs, ev, ec, ?_, ?_, ?_⟩
      · intro z hz k hk
        obtain ⟨j, hj⟩ := List.getElem?_of_mem hz
        rw [(hEg j z hj).2.2] at hk
        exact hD' k (hk3 j k hk)
      · intro j k z z' hz hz' m hm hm'
        rw [(hEg j z hz).2.2] at hm
        rw [(hEg k z' hz').2.2] at hm'
        exact hk2 j k m hm hm'
      · intro z hz
        obtain ⟨j, hj⟩ := List.getElem?_of_mem hz
        obtain ⟨a1, a2, a3⟩ := hEg j z hj
        rw [a3]
        exact .inl ⟨n, hk1 j z.v z.c a1 a2⟩
    | true =>
      obtain ⟨b, ty, cs, n, hc, hDb, hbl2, hcs, hlen, hk1⟩ := hly
      have hlen' : ((B.enc e x).map V.toImm).length = cs.length := by rw [List.length_map]; exact hlen
      obtain ⟨ev, ec⟩ := entL_vs ((B.enc e x).map V.toImm) cs 0 (fun _ _ => False) hlen'
      have hEg : ∀ (j : Nat) z, (entL 0 ((B.enc e x).map V.toImm) cs (fun _ _ => False))[j]? = some z → ((B.enc e x).map V.toImm)[j]? = some z.v ∧ cs[j]? = some z.c ∧ z.D = fun _ => False := by
        intro j z hz
        exact entL_get _ _ _ _ j z hz
      refine ⟨b, ty, cs, entL 0 ((B.enc e x).map V.toImm) cs (fun _ _ => False), hc, hDb, hbl2, hcs, ev, ec, ?_, ?_, ?_⟩
      · intro z hz k hk
        obtain ⟨j, hj⟩ := List.getElem?_of_mem hz
        rw [(hEg j z hj).2.2] at hk
        exact hk.elim
      · intro j k z z' hz hz' m hm
        rw [(hEg j z hz).2.2] at hm
        exact hm.elim
      · intro z hz
        obtain ⟨j, hj⟩ := List.getElem?_of_mem hz
        obtain ⟨a1, a2, a3⟩ := hEg j z hj
        rw [List.getElem?_map, Option.map_eq_some_iff] at a1
        obtain ⟨v, a1, a4⟩ := a1
        have hi := hk1 j v z.c a1 a2
        cases v with
        | lit u => exact .inl ⟨0, by rw [← a4]; cases n <;> exact hi⟩
        | own e l =>
          cases n with
          | zero => exact hi.elim
          | succ n => exact .inr ⟨e, l, n + 1, a4.symm, hi⟩
        | imm e l => exact .inr ⟨e, l, n, a4.symm, hi⟩
        | _ => cases n <;> exact hi.elim
  have hEne : EE ≠ [] := by
    intro e0
    rw [e0] at ec
    exact hcs ec.symm
  generalize hP : (⟨.ptr ⟨2 * d + 3, 0, []⟩, y.c, none_⟩ : Ent B) = P
  have hPv : P.v = .ptr ⟨2 * d + 3, 0, []⟩ := by rw [← hP]
  have hPc : P.c = y.c := by rw [← hP]
  have hPD : ∀ k, ¬ P.D k := fun k hk => by rw [← hP] at hk; exact hk
  generalize hG : setG (setG G1 (2 * d + 3) EE) (2 * d + 2) [P] = G
  have gd : G (2 * d + 3) = EE := by rw [← hG, setG_ne _ _ (by omega), setG_same]
  have gt : G (2 * d + 2) = [P] := by rw [← hG, setG_same]
  have gq : ∀ q, q ≠ 2 * d + 3 → q ≠ 2 * d + 2 → G q = G1 q := fun q e1 e2 => by rw [← hG, setG_ne _ _ e2, setG_ne _ _ e1]
  have hβd : updF β d b d = b := by simp [updF]
  have hβ : ∀ t, t ≠ d → updF β d b t = β t := fun t ht => by simp [updF, ht]
  have hget : ∀ (q j : Nat) (z : Ent B), (G q)[j]? = some z → (q ≠ 2 * d + 3 ∧ q ≠ 2 * d + 2 ∧ (G1 q)[j]? = some z) ∨ (q = 2 * d + 3 ∧ EE[j]? = some z) ∨ (q = 2 * d + 2 ∧ z = P) := by
    intro q j z hz
    by_cases e1 : q = 2 * d + 3
    · subst e1; rw [gd] at hz; exact .inr (.inl ⟨rfl, hz⟩)
    · by_cases e2 : q = 2 * d + 2
      · subst e2
        rw [gt] at hz
        have := List.mem_of_getElem? hz
        simp at this
        exact .inr (.inr ⟨rfl, this⟩)
      · rw [gq q e1 e2] at hz; exact .inl ⟨e1, e2, hz⟩
  have hmem : ∀ q z, z ∈ G q → (q ≠ 2 * d + 3 ∧ q ≠ 2 * d + 2 ∧ z ∈ G1 q) ∨ (q = 2 * d + 3 ∧ z ∈ EE) ∨ (q = 2 * d + 2 ∧ z = P) := by
    intro q z hz
    obtain ⟨j, hj⟩ := List.getElem?_of_mem hz
    rcases hget q j z hj with ⟨e1, e2, e3⟩ | ⟨e1, e3⟩ | ⟨e1, e3⟩
    · exact .inl ⟨e1, e2, List.mem_of_getElem? e3⟩
    · exact .inr (.inl ⟨e1, List.mem_of_getElem? e3⟩)
    · exact .inr (.inr ⟨e1, e3⟩)
  have hlive : ∀ u, u ≠ d → G (2 * u + 3) = G1 (2 * u + 3) := fun u hu => gq _ (by omega) (by omega)
  -- another entry owns nothing of it
  have hoth : ∀ (q j : Nat) (z : Ent B) (k : Nat), (G1 q)[j]? = some z → q ≠ 2 * d + 2 → z.D k → ¬ y.D k := by
    intro q j z k hz hq hk hyk
    exact hq (h1.disj _ _ _ _ z y hz hyi k hk hyk).1
  have hok : ∀ k, okB X G1 β w k → okB X G (updF β d b) w k := by
    intro k hk
    have hky : ¬ y.D k := hk.2.2.1 _ y (by rw [hy]; simp)
    refine ⟨hk.1, hk.2.1, fun q z hz hzk => ?_, fun u hu e1 => ?_⟩
    · rcases hmem q z hz with ⟨_, _, hz⟩ | ⟨_, hz⟩ | ⟨_, rfl⟩
      · exact hk.2.2.1 q z hz hzk
      · exact hky (hED z hz k hzk).1
      · exact hPD k hzk
    · by_cases hud : u = d
      · subst hud; rw [hβd] at e1; exact hky (e1 ▸ hDb)
      · rw [hlive u hud] at hu
        rw [hβ u hud] at e1
        exact hk.2.2.2 u hu e1
  refine ⟨G, updF β d b, h1.next (s' := { s1 with tm := setAt s1.tm d (.one (.ptr ⟨2 * d + 3, 0, []⟩)), bx := setAt s1.bx d (unl i e x) }) (a' := a) (w' := w) (β' := updF β d b) H h1.dfr ?_ ?_ ?_ ?_ ?_ ?_ (fun k hk => ⟨hok k hk, rfl⟩) (fun _ _ _ _ _ _ _ => rfl) ?_ ?_ ?_ ?_ ?_ ?_ ?_ h1.grow h1.keep h1.os h1.tape h1.output (by rw [gq 1 (by omega) (by omega)]), fun e0 => by rw [← hs1]; simp [S.map, e0], by show (setAt s1.tm d _).length = _; rw [setAt_eq, List.length_set, htl]⟩
  · show (setAt s1.tm d _).length = _
    rw [setAt_eq, List.length_set, htl]; exact h.size
  · refine h1.pins (Γ' := G) (s' := { s1 with tm := setAt s1.tm d (.one (.ptr ⟨2 * d + 3, 0, []⟩)), bx := setAt s1.bx d (unl i e x) }) (by simp [setAt_eq]) (by simp [setAt_eq]) fun u hu hne' => ⟨?_, hβ u (by omega)⟩
    rw [hlive u (by omega)]
    exact hne'
  · intro q
    have e1 : ({ s1 with tm := setAt s1.tm d (.one (.ptr ⟨2 * d + 3, 0, []⟩)), bx := setAt s1.bx d (unl i e x) } : S B).root q =
        if q = 2 * d + 2 ∧ d < s.tm.length then [.ptr ⟨2 * d + 3, 0, []⟩] else if q = 2 * d + 3 ∧ d < s.bx.length then unl i e x else s1.root q := by
      have a2 := root_setTm ({ s1 with bx := setAt s1.bx d (unl i e x) } : S B) d (.one (.ptr ⟨2 * d + 3, 0, []⟩)) q
      have a3 := root_setBx s1 d (unl i e x) q
      rw [hbl] at a3
      refine a2.trans ?_
      rw [a3]
      show (if q = 2 * d + 2 ∧ d < s1.tm.length then _ else _) = _
      rw [htl]
      rfl
    rw [e1]
    by_cases e2 : q = 2 * d + 2
    · subst e2; rw [if_pos ⟨rfl, hd⟩, gt]; simp [vs, hPv]
    · rw [if_neg (fun e => e2 e.1)]
      by_cases e3 : q = 2 * d + 3
      · subst e3; rw [if_pos ⟨rfl, Nat.lt_of_lt_of_le hd h.bsize.1⟩, gd, ev]
      · rw [if_neg (fun e => e3 e.1), gq q e3 e2]; exact h1.root q
  · intro u z c hz hcu
    by_cases e2 : u = d
    · subst e2
      have hz : (setAt s1.tm u (.one (.ptr ⟨2 * u + 3, 0, []⟩)))[u]? = some z := hz
      rw [setAt_eq, List.getElem?_set, if_pos rfl, if_pos (by rw [htl]; exact hd)] at hz
      injection hz with hz
      subst hz
      rw [hyc] at hcu
      injection hcu with hcu
      rw [gt]
      show [P.c] = [c]
      rw [hPc, hcu]
    · have hz : (setAt s1.tm d (.one (.ptr ⟨2 * d + 3, 0, []⟩)))[u]? = some z := hz
      rw [setAt_eq, List.getElem?_set, if_neg (fun e => e2 e.symm)] at hz
      rw [gq _ (by omega) (by omega)]
      exact h1.tm u z c hz hcu
  · intro u hu
    by_cases hud : u = d
    · subst hud
      exact ⟨ty, by rw [hβd, gd, ec]; exact hbl2⟩
    · rw [hlive u hud] at hu ⊢
      rw [hβ u hud]
      exact h1.bx u hu
  · intro q z hz
    rcases hmem q z hz with ⟨_, _, hz⟩ | ⟨_, hz⟩ | ⟨_, rfl⟩
    · exact .inl ⟨q, hz⟩
    · refine .inr ?_
      rcases hEl z hz with ⟨n, ho⟩ | ⟨e', l, n, e1, e2⟩
      · exact Own.leaf ho
      · rw [e1]
        exact ⟨n, Imm.mono hok e2⟩
    · refine .inr ?_
      rw [hPv, hPc]
      exact ⟨d, rfl, by show G (2 * d + 3) ≠ []; rw [gd]; exact hEne, by rw [hβd]; exact hc⟩
  · intro q z p hz ho hp z' hz' hzo
    obtain ⟨q0, ho⟩ := ho
    obtain ⟨p1, p2⟩ := hal q0 z p ho (.inl hp)
    rw [gq _ p1 p2]; exact hz'
  · intro q z p u hz ho hp hst hr hg
    obtain ⟨q0, ho⟩ := ho
    obtain ⟨p1, p2⟩ := hal q0 z p ho (.inr hp)
    rw [hr] at hg p1 p2 ⊢
    rw [gq _ p1 p2]
    exact ⟨hg, hβ u (by omega)⟩
  · intro q k q' k' z z' hz hz' m hi hi'
    rcases hget q k z hz with ⟨n1, n2, e1⟩ | ⟨e1, e2⟩ | ⟨_, rfl⟩ <;> rcases hget q' k' z' hz' with ⟨n3, n4, e3⟩ | ⟨e3, e4⟩ | ⟨_, rfl⟩
    · exact h1.disj _ _ _ _ z z' e1 e3 m hi hi'
    · exact (hoth q k z m e1 n2 hi (hED z' (List.mem_of_getElem? e4) m hi').1).elim
    · exact (hPD _ hi').elim
    · exact (hoth q' k' z' m e3 n4 hi' (hED z (List.mem_of_getElem? e2) m hi).1).elim
    · exact ⟨e1.trans e3.symm, hEdis k k' z z' e2 e4 _ hi hi'⟩
    · exact (hPD _ hi').elim
    · exact (hPD _ hi).elim
    · exact (hPD _ hi).elim
    · exact (hPD _ hi).elim
  · intro q z u hz hu hi
    rcases hmem q z hz with ⟨n1, n2, hz⟩ | ⟨_, hz⟩ | ⟨_, rfl⟩
    · by_cases hud : u = d
      · subst hud
        rw [hβd] at hi
        obtain ⟨j, hj⟩ := List.getElem?_of_mem hz
        exact hoth q j z b hj n2 hi hDb
      · rw [hlive u hud] at hu
        rw [hβ u hud] at hi
        exact h1.bdisj q z u hz hu hi
    · by_cases hud : u = d
      · subst hud; rw [hβd] at hi; exact (hED z hz b hi).2 rfl
      · rw [hlive u hud] at hu
        rw [hβ u hud] at hi
        exact h1.bdisj _ y u (by rw [hy]; simp) hu (hED z hz _ hi).1
    · exact hPD _ hi
  · intro u v hu hv e1
    by_cases hud : u = d <;> by_cases hvd : v = d
    · exact hud.trans hvd.symm
    · subst hud
      rw [hlive v hvd] at hv
      rw [hβd, hβ v hvd] at e1
      exact (h1.bdisj _ y v (by rw [hy]; simp) hv (e1 ▸ hDb)).elim
    · subst hvd
      rw [hlive u hud] at hu
      rw [hβd, hβ u hud] at e1
      exact (h1.bdisj _ y u (by rw [hy]; simp) hu (e1 ▸ hDb)).elim
    · rw [hlive u hud] at hu
      rw [hlive v hvd] at hv
      rw [hβ u hud, hβ v hvd] at e1
      exact h1.binj u v hu hv e1
  · intro q z k hz hk
    rcases hmem q z hz with ⟨_, _, hz⟩ | ⟨_, hz⟩ | ⟨_, rfl⟩
    · exact h1.dlt q z k hz hk
    · exact h1.dlt _ y k (by rw [hy]; simp) (hED z hz k hk).1
    · exact (hPD _ hk).elim
  · intro u hu
    by_cases hud : u = d
    · subst hud
      rw [hβd]
      exact .inr (h1.dlt _ y b (by rw [hy]; simp) hDb).2
    · rw [hlive u hud] at hu
      rw [hβ u hud]
      exact h1.bnd u hu
end
end Go.I
