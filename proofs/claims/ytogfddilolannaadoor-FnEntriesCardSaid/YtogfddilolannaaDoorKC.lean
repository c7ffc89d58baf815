/- Calls, and the word: what the interpreter answers is what a call of the function returns (calls_ok). No condition. -/
import Derived.Test.YtogfddilolannaaDoorKB
import Derived.Test.YtogfddilolannaaDoorKA
import Derived.Laws.Strings
import Derived.Below
import Derived.Deep.Slices
import Derived.SizedLaws
import Derived.Lib.Split
import Derived.Lib.Join
import Derived.Lib.ItoaNum
import Derived.Sort.Grow
/-! ISem25 -/
set_option linter.unusedVariables false
set_option linter.unusedSimpArgs false
namespace Go.I
open Go.RowKit Go.Proofs.YtogfddilolannaaDoorW.PrintWords
section
variable {P : Program} {B : Tab} {M : FuncId → List Md} {F : FuncId → Option (Fi B)} {kl : KL}
/-- A leaf that tells of nothing but itself. -/
def FinR (w : World) (ok : Nat → Prop) (y : Ent B) : Prop := (∃ n, Own w n y.v y.c y.D) ∨ (∃ e l n, y.v = .imm e l ∧ Imm w ok n (.imm e l : VT B) y.c) ∨ ∃ i e x, y.v = .pb i e x ∧ PbX B w ok i e x y.c y.D
/-- An argument: how it is handed on, as the callee holds it, its value, its leaves, its box. -/
structure Arg (B : Tab) where
  m : Md
  x : WT B
  c : Value
  E : List (Ent B)
  b : Option Nat
def Arg.OK (w : World) (ok : Nat → Prop) (A : Arg B) : Prop :=
  (∀ y ∈ A.E, FinR w ok y) ∧ match A.m with
  | .ptr _ => ∃ b ty, A.b = some b ∧ A.x = .agg (vs A.E) ∧ A.E ≠ [] ∧ A.c = .pointer (some ⟨b, 0, none⟩) ∧ w.heap[b]? = some (.cells (csOf A.E).toArray ty (0, 0))
  | _ => A.b = none ∧ A.x.leaves = vs A.E ∧ WR A.x A.c (csOf A.E)
/-- What the arguments own. -/
def Dst (As : List (Arg B)) (b : Nat) : Prop := ∃ A ∈ As, (∃ y ∈ A.E, y.D b) ∨ A.b = some b
structure Pre (w : World) (ok0 : Nat → Prop) (As : List (Arg B)) : Prop where
  gl : (∀ b, B.gb b → ok0 b) ∧ B.glob w
  ok : ∀ A ∈ As, A.OK w ok0
  okl : ∀ b, ok0 b → b < w.heap.size ∧ ¬ Dst As b
  dlt : ∀ b, Dst As b → b < w.heap.size
  dis : ∀ (i j k l : Nat) (A A' : Arg B) (x y : Ent B), As[i]? = some A → As[j]? = some A' → A.E[k]? = some x → A'.E[l]? = some y → ∀ b, x.D b → y.D b → i = j ∧ k = l
  bdis : ∀ A A' b, A ∈ As → A' ∈ As → A.b = some b → ∀ y ∈ A'.E, ¬ y.D b
  binj : ∀ (i j : Nat) (A A' : Arg B) b, As[i]? = some A → As[j]? = some A' → A.b = some b → A'.b = some b → i = j
structure Post (mu : Bool) (w : World) (ok0 : Nat → Prop) (As : List (Arg B)) (r : Res B) (v : Value) (w1 : World) (E : List (Ent B)) (Os : List (List (Ent B))) : Prop where
  lv : r.1.1 ++ r.2.leaves = vs E
  wr : WR r.2 v (csOf (E.drop r.1.1.length))
  mz : mu = false → r.1.1 = []
  mcs : mu = true → ∃ A As', As = A :: As' ∧ csOf (E.take r.1.1.length) = csOf A.E
  out : r.1.2 = Os.map vs
  blk : ∀ (i b : Nat) (O : List (Ent B)), (As.filterMap (·.b))[i]? = some b → Os[i]? = some O → O ≠ [] ∧ ∃ ty, w1.heap[b]? = some (.cells (csOf O).toArray ty (0, 0))
  len : Os.length = (As.filterMap (·.b)).length
  fin : ∀ y, y ∈ E ∨ (∃ O ∈ Os, y ∈ O) → FinR w1 (fun b => b < w1.heap.size ∧ (ok0 b ∨ Dst As b ∨ w.heap.size ≤ b) ∧ (∀ y, y ∈ E ∨ (∃ O ∈ Os, y ∈ O) → ¬ y.D b) ∧ b ∉ As.filterMap (·.b)) y
  disE : Dis E
  disO : ∀ (i j k l : Nat) (O O' : List (Ent B)) (x y : Ent B), Os[i]? = some O → Os[j]? = some O' → O[k]? = some x → O'[l]? = some y → ∀ b, x.D b → y.D b → i = j ∧ k = l
  disEO : ∀ x ∈ E, ∀ O ∈ Os, ∀ y ∈ O, ∀ b, x.D b → ¬ y.D b
  dlt : ∀ y, y ∈ E ∨ (∃ O ∈ Os, y ∈ O) → ∀ b, y.D b → b < w1.heap.size ∧ (Dst As b ∨ w.heap.size ≤ b) ∧ b ∉ As.filterMap (·.b)
  os : w1.os = w.os
  tape : w1.tape = w.tape
  output : w1.output = w.output
  size : w.heap.size ≤ w1.heap.size
  keep : ∀ b, b < w.heap.size → ¬ Dst As b → w1.heap[b]? = w.heap[b]?
def Modes (ms : List Md) (As : List (Arg B)) : Prop := ms.length ≤ As.length ∧ ∀ i A, As[i]? = some A → A.m = ms.getD i .val
/-- Every function, in so many calls and rounds. -/
def CallOK (P : Program) (B : Tab) (M : FuncId → List Md) (F : FuncId → Option (Fi B)) (n : Nat) : Prop :=
  ∀ f fi, F f = some fi → ∀ (As : List (Arg B)) (w : World) (ok0 : Nat → Prop) (r : Res B), Modes (M f) As → Pre w ok0 As → G std M F n fi.kills (den std M fi.kills fi.fn fi.body (B.gives f) (M f) (As.map (·.x))) r →
    Calls P f (As.map (·.c)).toArray w fun
      | .returned v, w1 => ∃ E Os, Post (B.gives f) w ok0 As r v w1 E Os
      | _, _ => False
/-! ### the begin of a call -/
def gT (L : Nat) (As : List (Arg B)) (t : Nat) : List (Ent B) :=
  match As[t]? with
  | some A => if A.b.isSome then [⟨.ptr ⟨2 * (L + t) + 3, 0, []⟩, A.c, none_⟩] else A.E
  | none => if t < L then [⟨.dead, undef, none_⟩] else []
def gB (L : Nat) (As : List (Arg B)) (t : Nat) : List (Ent B) :=
  if L ≤ t then match As[t - L]? with
    | some A => if A.b.isSome then A.E else []
    | none => []
  else []
def gE (L : Nat) (As : List (Arg B)) (r : Nat) : List (Ent B) :=
  match r with
  | 0 => []
  | 1 => []
  | r + 2 => if r % 2 = 0 then gT L As (r / 2) else gB L As (r / 2)
theorem gE_tm (L : Nat) (As : List (Arg B)) (t : Nat) : gE L As (2 * t + 2) = gT L As t := by
  show (if 2 * t % 2 = 0 then _ else _) = _
  rw [if_pos (by omega), show 2 * t / 2 = t by omega]
theorem gE_bx (L : Nat) (As : List (Arg B)) (t : Nat) : gE L As (2 * t + 3) = gB L As t := by
  show (if (2 * t + 1) % 2 = 0 then _ else _) = _
  rw [if_neg (by omega), show (2 * t + 1) / 2 = t by omega]
theorem enterT_len (L : Nat) : ∀ (i : Nat) (ms : List Md) (ws : List (WT B)), (enterT L i ms ws).length = ws.length
  | _, _, [] => rfl
  | i, ms, w :: ws => by simp [enterT, enterT_len L (i + 1)]
theorem enterB_len : ∀ (ms : List Md) (ws : List (WT B)), (enterB ms ws).length = ws.length
  | _, [] => rfl
  | ms, w :: ws => by simp [enterB, enterB_len]
theorem head_getD (ms : List Md) : ms.headD .val = ms.getD 0 .val := by cases ms <;> rfl
theorem drop_getD (ms : List Md) (t : Nat) : (ms.drop 1).getD t .val = ms.getD (t + 1) .val := by
  simp [List.getD_eq_getElem?_getD, List.getElem?_drop, Nat.add_comm]
theorem enterT_get (L : Nat) : ∀ (i : Nat) (ms : List Md) (ws : List (WT B)) (t : Nat), (enterT L i ms ws)[t]? = ws[t]?.map fun w => match ms.getD t .val with
    | .ptr _ => .one (.ptr ⟨2 * (L + (i + t)) + 3, 0, []⟩)
    | _ => w
  | _, _, [], t => by simp [enterT]
  | i, ms, w :: ws, 0 => by
    simp only [enterT, List.getElem?_cons_zero, Option.map_some, head_getD, Nat.add_zero]
    cases ms.getD 0 Md.val <;> rfl
  | i, ms, w :: ws, t + 1 => by
    simp only [enterT, List.getElem?_cons_succ, enterT_get L (i + 1) (ms.drop 1) ws t, drop_getD]
    rw [show i + 1 + t = i + (t + 1) by omega]
theorem enterB_get : ∀ (ms : List Md) (ws : List (WT B)) (t : Nat), (enterB ms ws)[t]? = ws[t]?.map fun w => match ms.getD t .val with
    | .ptr _ => w.leaves
    | _ => []
  | _, [], t => by simp [enterB]
  | ms, w :: ws, 0 => by
    simp only [enterB, List.getElem?_cons_zero, Option.map_some, head_getD]
    cases ms.getD 0 Md.val <;> rfl
  | ms, w :: ws, t + 1 => by
    simp only [enterB, List.getElem?_cons_succ, enterB_get (ms.drop 1) ws t, drop_getD]
theorem deads_len {α : Type} (x : α) : ∀ n, (deads x n).length = n
  | 0 => rfl
  | n + 1 => by simp [deads, deads_len x n]
theorem deads_get {α : Type} (x : α) : ∀ n t, t < n → (deads x n)[t]? = some x
  | 0, t, h => by omega
  | n + 1, 0, h => rfl
  | n + 1, t + 1, h => by simpa [deads] using deads_get x n t (by omega)
theorem Arg.OK.box {w : World} {ok : Nat → Prop} {A : Arg B} (h : A.OK w ok) : (∃ n, A.m = .ptr n) ↔ A.b.isSome = true := by
  obtain ⟨_, h⟩ := h
  cases hm : A.m with
  | ptr n =>
    rw [hm] at h
    obtain ⟨b, ty, h1, _⟩ := h
    simp [h1]
  | val => rw [hm] at h; simp [h.1]
  | own => rw [hm] at h; simp [h.1]
theorem FinR.leaf {X : Base B} {ok Γ β w} {y : Ent B} (h : FinR w ok y) : LeafR X ok Γ β w y.v y.c y.D := by
  rcases h with ⟨n, h⟩ | ⟨e, l, n, h1, h2⟩ | ⟨i, e, x, h1, h2⟩
  · exact Own.leaf h
  · rw [h1]; exact ⟨n, h2⟩
  · rw [h1]; exact h2
theorem FinR.mono {w : World} {ok ok' : Nat → Prop} {y : Ent B} (h : FinR w ok y) (hok : ∀ b, ok b → ok' b) : FinR w ok' y := by
  rcases h with h | ⟨e, l, n, h1, h2⟩ | ⟨i, e, x, h1, h2⟩
  · exact .inl h
  · exact .inr (.inl ⟨e, l, n, h1, Imm.mono hok h2⟩)
  · exact .inr (.inr ⟨i, e, x, h1, h2.ok hok⟩)
def enterS (L : Nat) (ms : List Md) (ws : List (WT B)) : S B := ⟨[], enterT L 0 ms ws ++ deads (.one .dead) (L - ws.length), deads [] L ++ enterB ms ws, []⟩
def enterX (L : Nat) (w : World) (ok0 : Nat → Prop) (As : List (Arg B)) : Base B := ⟨w, Dst As, ok0, fun t => if L ≤ t then As[t - L]?.bind (·.b) else none, fun _ _ => False, []⟩
def enterβ (L : Nat) (As : List (Arg B)) (t : Nat) : Nat := ((As[t - L]?.bind (·.b)).getD 0)
theorem gB_ne {L : Nat} {As : List (Arg B)} {t : Nat} (h : gB L As t ≠ []) : L ≤ t ∧ ∃ A, As[t - L]? = some A ∧ A.b.isSome = true ∧ gB L As t = A.E := by
  unfold gB at h ⊢
  split at h
  · rename_i hL
    cases hA : As[t - L]? with
    | none => rw [hA] at h; exact absurd rfl h
    | some A =>
      rw [hA] at h
      simp only at h
      split at h
      · rename_i hb
        rw [if_pos hL]
        exact ⟨hL, A, rfl, hb, by simp only [hb, if_true]⟩
      · exact absurd rfl h
  · exact absurd rfl h
/-- An entry at the begin: an argument's, or one that owns nothing. -/
theorem gE_mem {L : Nat} {As : List (Arg B)} {r k : Nat} {x : Ent B} (h : (gE L As r)[k]? = some x) : (∃ i A, As[i]? = some A ∧ A.E[k]? = some x ∧ (r = 2 * i + 2 ∨ r = 2 * (L + i) + 3) ∧ (r = 2 * i + 2 ↔ A.b = none)) ∨
    (∃ i A, As[i]? = some A ∧ A.b.isSome = true ∧ r = 2 * i + 2 ∧ x = ⟨.ptr ⟨2 * (L + i) + 3, 0, []⟩, A.c, none_⟩) ∨ x = ⟨.dead, undef, none_⟩ := by
  rcases root_cases r with rfl | rfl | ⟨t, rfl⟩ | ⟨t, rfl⟩
  · simp [gE] at h
  · simp [gE] at h
  · rw [gE_tm] at h
    unfold gT at h
    split at h
    · rename_i A hA
      split at h
      · rename_i hb
        refine .inr (.inl ⟨t, A, hA, hb, rfl, ?_⟩)
        have := List.mem_of_getElem? h
        simpa using this
      · rename_i hb
        exact .inl ⟨t, A, hA, h, .inl rfl, by simp at hb; simp [hb]⟩
    · split at h
      · have := List.mem_of_getElem? h
        exact .inr (.inr (by simpa using this))
      · simp at h
  · rw [gE_bx] at h
    have hne : gB L As t ≠ [] := fun e => by rw [e] at h; simp at h
    obtain ⟨hL, A, hA, hb, e⟩ := gB_ne hne
    rw [e] at h
    refine .inl ⟨t - L, A, hA, h, .inr (by omega), ?_⟩
    constructor
    · intro e; omega
    · intro e; rw [e] at hb; cases hb
end
end Go.I

/-! ISem26 -/
set_option linter.unusedVariables false
set_option linter.unusedSimpArgs false
namespace Go.I
open Go.RowKit Go.Proofs.YtogfddilolannaaDoorW.PrintWords
section
variable {P : Program} {B : Tab} {M : FuncId → List Md} {F : FuncId → Option (Fi B)} {kl : KL}
theorem enter_root {L : Nat} {ms : List Md} {As : List (Arg B)} {w : World} {ok0 : Nat → Prop} (hm : Modes ms As) (hp : Pre w ok0 As) (hL : As.length ≤ L) (r : Nat) : (enterS L ms (As.map Arg.x)).root r = vs (gE L As r) := by
  have hlT : (enterT L 0 ms (As.map Arg.x)).length = As.length := by rw [enterT_len, List.length_map]
  have hlB : (enterB ms (As.map Arg.x)).length = As.length := by rw [enterB_len, List.length_map]
  rcases root_cases r with rfl | rfl | ⟨t, rfl⟩ | ⟨t, rfl⟩
  · rfl
  · rfl
  · rw [root_tm, gE_tm]
    unfold gT
    show ((enterT L 0 ms (As.map Arg.x) ++ deads (W.one V.dead : WT B) (L - (As.map Arg.x).length)).getD t (W.agg [])).leaves = _
    rw [List.getD_eq_getElem?_getD]
    cases hA : As[t]? with
    | some A =>
      have ht : t < As.length := (List.getElem?_eq_some_iff.1 hA).1
      rw [List.getElem?_append_left (by rw [hlT]; exact ht), enterT_get, List.getElem?_map, hA]
      simp only [Option.map_some, Option.getD_some]
      have hok := hp.ok A (List.mem_of_getElem? hA)
      have hmm := hm.2 t A hA
      have hbx := hok.box
      rw [← hmm]
      obtain ⟨_, h2⟩ := hok
      cases hmA : A.m with
      | ptr n =>
        rw [hmA] at h2
        obtain ⟨b, ty, h3, _⟩ := h2
        simp [h3, W.leaves, vs]
      | val => rw [hmA] at h2; simp [h2.1, h2.2.1]
      | own => rw [hmA] at h2; simp [h2.1, h2.2.1]
    | none =>
      have ht : As.length ≤ t := by simpa using hA
      rw [List.getElem?_append_right (by rw [hlT]; exact ht), hlT, List.length_map]
      by_cases htL : t < L
      · rw [deads_get _ _ _ (by omega)]
        simp [htL, W.leaves, vs]
      · rw [List.getElem?_eq_none (by rw [deads_len]; omega)]
        simp [htL, W.leaves, vs]
  · rw [root_bx, gE_bx]
    unfold gB
    show (deads ([] : List (VT B)) L ++ enterB ms (As.map Arg.x)).getD t [] = _
    rw [List.getD_eq_getElem?_getD]
    by_cases hLt : L ≤ t
    · rw [if_pos hLt, List.getElem?_append_right (by rw [deads_len]; exact hLt), deads_len, enterB_get, List.getElem?_map]
      cases hA : As[t - L]? with
      | none => rfl
      | some A =>
        simp only [Option.map_some, Option.getD_some]
        have hok := hp.ok A (List.mem_of_getElem? hA)
        have hmm := hm.2 _ A hA
        rw [← hmm]
        obtain ⟨_, h2⟩ := hok
        cases hmA : A.m with
        | ptr n =>
          rw [hmA] at h2
          obtain ⟨b, ty, h3, h4, _⟩ := h2
          simp [h3, h4, W.leaves]
        | val => rw [hmA] at h2; simp [h2.1, vs]
        | own => rw [hmA] at h2; simp [h2.1, vs]
    · rw [if_neg hLt, List.getElem?_append_left (by rw [deads_len]; omega), deads_get _ _ _ (by omega)]
      rfl
theorem enter_rel {L : Nat} {ms : List Md} {As : List (Arg B)} {w : World} {ok0 : Nat → Prop} (hm : Modes ms As) (hp : Pre w ok0 As) (hL : As.length ≤ L) :
    Rel (enterX L w ok0 As) (enterS L ms (As.map Arg.x)) { tmps := (As.map Arg.c).toArray ++ Array.replicate (L - As.length) undef, defers := [] } w (gE L As) (enterβ L As) := by
  have hlT : (enterT L 0 ms (As.map Arg.x)).length = As.length := by rw [enterT_len, List.length_map]
  have hlB : (enterB ms (As.map Arg.x)).length = As.length := by rw [enterB_len, List.length_map]
  have htm : (enterS L ms (As.map Arg.x)).tm.length = L := by
    show (enterT L 0 ms (As.map Arg.x) ++ deads (W.one V.dead : WT B) (L - (As.map Arg.x).length)).length = L
    rw [List.length_append, hlT, deads_len, List.length_map]; omega
  have hbx : ∀ t, gE L As (2 * t + 3) ≠ [] → L ≤ t ∧ ∃ A b, As[t - L]? = some A ∧ A ∈ As ∧ A.b = some b ∧ enterβ L As t = b ∧ gE L As (2 * t + 3) = A.E := by
    intro t ht
    rw [gE_bx] at ht ⊢
    obtain ⟨h1, A, h2, h3, h4⟩ := gB_ne ht
    obtain ⟨b, hb⟩ := Option.isSome_iff_exists.1 h3
    exact ⟨h1, A, b, h2, List.mem_of_getElem? h2, hb, by simp [enterβ, h2, hb], h4⟩
  have hD : ∀ r x, x ∈ gE L As r → ∀ b, x.D b → ∃ A ∈ As, x ∈ A.E := by
    intro r x hx b hb
    obtain ⟨k, hk⟩ := List.getElem?_of_mem hx
    rcases gE_mem hk with ⟨i, A, h1, h2, _⟩ | ⟨i, A, _, _, _, rfl⟩ | rfl
    · exact ⟨A, List.mem_of_getElem? h1, List.mem_of_getElem? h2⟩
    · exact hb.elim
    · exact hb.elim
  have hDst : ∀ r x, x ∈ gE L As r → ∀ b, x.D b → Dst As b := fun r x hx b hb => by
    obtain ⟨A, h1, h2⟩ := hD r x hx b hb
    exact ⟨A, h1, .inl ⟨x, h2, hb⟩⟩
  have hβ : ∀ t, gE L As (2 * t + 3) ≠ [] → Dst As (enterβ L As t) := fun t ht => by
    obtain ⟨_, A, b, _, h1, h2, h3, _⟩ := hbx t ht
    exact ⟨A, h1, .inr (by rw [h3]; exact h2)⟩
  have hok : ∀ b, ok0 b → okB (enterX L w ok0 As) (gE L As) (enterβ L As) w b := fun b hb =>
    ⟨(hp.okl b hb).1, .inl hb, fun r x hx hd => (hp.okl b hb).2 (hDst r x hx b hd), fun t ht e => (hp.okl b hb).2 (e ▸ hβ t ht)⟩
  have hcond : ∀ {r r' i : Nat} {A : Arg B}, (r = 2 * i + 2 ∨ r = 2 * (L + i) + 3) → (r = 2 * i + 2 ↔ A.b = none) → (r' = 2 * i + 2 ∨ r' = 2 * (L + i) + 3) → (r' = 2 * i + 2 ↔ A.b = none) → r = r' := by
    intro r r' i A h1 h2 h3 h4
    by_cases hb : A.b = none
    · rw [h2.2 hb, h4.2 hb]
    · have : ¬ r = 2 * i + 2 := fun e => hb (h2.1 e)
      have : ¬ r' = 2 * i + 2 := fun e => hb (h4.1 e)
      omega
  exact {
    dfr := rfl
    size := by rw [htm]; simp; omega
    bsize := by
      rw [htm]
      refine ⟨?_, fun t b hb => ?_⟩
      · show L ≤ (deads ([] : List (VT B)) L ++ enterB ms (As.map Arg.x)).length
        rw [List.length_append, deads_len]; omega
      · simp only [enterX] at hb
        split at hb
        · rename_i hLt
          obtain ⟨A, hA, hAb⟩ := Option.bind_eq_some_iff.1 hb
          refine ⟨hLt, by simp [enterβ, hA, hAb], ?_⟩
          rw [gE_bx]
          unfold gB
          rw [if_pos hLt, hA]
          simp only [hAb, Option.isSome_some, if_true]
          have hok := hp.ok A (List.mem_of_getElem? hA)
          obtain ⟨n, hn⟩ := hok.box.2 (by rw [hAb]; rfl)
          obtain ⟨_, h2⟩ := hok
          rw [hn] at h2
          obtain ⟨_, _, _, _, h3, _⟩ := h2
          exact h3
        · cases hb
    root := enter_root hm hp hL
    tm := by
      intro t x c hx hc
      rw [gE_tm]
      unfold gT
      have hx : (enterT L 0 ms (As.map Arg.x) ++ deads (W.one V.dead : WT B) (L - (As.map Arg.x).length))[t]? = some x := hx
      cases hA : As[t]? with
      | some A =>
        have ht : t < As.length := (List.getElem?_eq_some_iff.1 hA).1
        rw [List.getElem?_append_left (by rw [hlT]; exact ht), enterT_get, List.getElem?_map, hA] at hx
        have hc' : c = A.c := by
          rw [Array.getElem?_append_left (by simpa using ht)] at hc
          simp [hA] at hc
          exact hc.symm
        subst hc'
        simp only [Option.map_some, Option.some.injEq] at hx
        have hok := hp.ok A (List.mem_of_getElem? hA)
        rw [← hm.2 t A hA] at hx
        obtain ⟨_, h2⟩ := hok
        cases hmA : A.m with
        | ptr n =>
          rw [hmA] at h2 hx
          obtain ⟨b, ty, h3, _⟩ := h2
          subst hx
          simp only [h3, Option.isSome_some, if_true]
          rfl
        | val => rw [hmA] at h2 hx; subst hx; simp only [h2.1, Option.isSome_none, Bool.false_eq_true, if_false]; exact h2.2.2
        | own => rw [hmA] at h2 hx; subst hx; simp only [h2.1, Option.isSome_none, Bool.false_eq_true, if_false]; exact h2.2.2
      | none =>
        have ht : As.length ≤ t := by simpa using hA
        have htL : t < L := by
          have := (List.getElem?_eq_some_iff.1 hx).1
          have h2 : (enterT L 0 ms (As.map Arg.x) ++ deads (W.one V.dead : WT B) (L - (As.map Arg.x).length)).length = L := htm
          omega
        rw [List.getElem?_append_right (by rw [hlT]; exact ht), hlT, List.length_map, deads_get _ _ _ (by omega)] at hx
        injection hx with hx
        subst hx
        have hc' : c = undef := by
          rw [Array.getElem?_append_right (by simpa using ht)] at hc
          simp only [List.size_toArray, List.length_map] at hc
          obtain ⟨hlt, hc⟩ := Array.getElem?_eq_some_iff.1 hc
          rw [← hc, Array.getElem_replicate]
        subst hc'
        simp only [htL, if_true]
        rfl
    bx := by
      intro t ht
      obtain ⟨h1, A, b, h2, h3, h4, h5, h6⟩ := hbx t ht
      have hok := hp.ok A h3
      obtain ⟨n, hn⟩ := hok.box.2 (by rw [h4]; rfl)
      obtain ⟨_, h7⟩ := hok
      rw [hn] at h7
      obtain ⟨b', ty, e1, _, _, _, e2⟩ := h7
      rw [h4] at e1
      injection e1 with e1
      subst e1
      exact ⟨ty, by rw [h5, h6]; exact e2⟩
    leaf := by
      intro r x hx
      obtain ⟨k, hk⟩ := List.getElem?_of_mem hx
      rcases gE_mem hk with ⟨i, A, h1, h2, _⟩ | ⟨i, A, h1, h2, _, rfl⟩ | rfl
      · exact (((hp.ok A (List.mem_of_getElem? h1)).1 x (List.mem_of_getElem? h2)).mono hok).leaf
      · obtain ⟨b, hb⟩ := Option.isSome_iff_exists.1 h2
        have hokA := hp.ok A (List.mem_of_getElem? h1)
        obtain ⟨n, hn⟩ := hokA.box.2 h2
        obtain ⟨_, h7⟩ := hokA
        rw [hn] at h7
        obtain ⟨b', ty, e1, _, e3, e2, _⟩ := h7
        refine ⟨L + i, rfl, ?_, ?_⟩
        · show gE L As (2 * (L + i) + 3) ≠ []
          rw [gE_bx]
          unfold gB
          rw [if_pos (by omega), show L + i - L = i by omega, h1]
          simp only [h2, if_true]
          exact e3
        · show A.c = _
          rw [e2]
          simp [enterβ, h1, e1]
      · trivial
    disj := by
      intro r k r' k' x y hx hy b hb hb'
      rcases gE_mem hx with ⟨i, A, h1, h2, h3, h4⟩ | ⟨i, A, _, _, _, rfl⟩ | rfl
      · rcases gE_mem hy with ⟨i', A', h1', h2', h3', h4'⟩ | ⟨i', A', _, _, _, rfl⟩ | rfl
        · obtain ⟨e1, e2⟩ := hp.dis i i' k k' A A' x y h1 h1' h2 h2' b hb hb'
          subst e1
          rw [h1] at h1'
          injection h1' with h1'
          subst h1'
          exact ⟨hcond h3 h4 h3' h4', e2⟩
        · exact hb'.elim
        · exact hb'.elim
      · exact hb.elim
      · exact hb.elim
    bdisj := by
      intro r x t hx ht hb
      obtain ⟨A', h1', h2'⟩ := hD r x hx _ hb
      obtain ⟨_, A, b, _, h3, h4, h5, _⟩ := hbx t ht
      rw [h5] at hb
      exact hp.bdis A A' b h3 h1' h4 x h2' hb
    binj := by
      intro t u ht hu e
      obtain ⟨h1, A, b, h2, _, h3, h4, _⟩ := hbx t ht
      obtain ⟨h1', A', b', h2', _, h3', h4', _⟩ := hbx u hu
      rw [h4, h4'] at e
      subst e
      have := hp.binj _ _ A A' b h2 h2' h3 h3'
      omega
    dlt := fun r x b hx hb => ⟨hp.dlt b (hDst r x hx b hb), .inl (hDst r x hx b hb)⟩
    bnd := fun t ht => .inr (.inl (hβ t ht))
    grow := Nat.le_refl _
    keep := fun _ _ _ => rfl
    os := rfl
    tape := rfl
    output := rfl
    gh := rfl
    gl := ⟨fun b hb => hok b (hp.gl.1 b hb), hp.gl.2⟩ }
/-- The first parameter's rows lie apart. -/
theorem Rel.ghost (H : TabE B) {X : Base B} {s : S B} {a : Act} {Γ : Gh B} {β : Nat → Nat} {w : World} (h : Rel X s a w Γ β) {x : WT B} {l : List (WT B)} (hs : s.tm = x :: l)
    (hna : ∀ r y p, y ∈ Γ r → ¬ Alias y.v p) (hfin : ∀ y ∈ Γ 2, y.v.final = true) :
    ∃ Γ', Rel { X with gh := csOf (Γ 2) } s.ghost a w Γ' β ∧ s.ghost.hd = s.hd ∧ s.ghost.tm.length = s.tm.length := by
  have hxl : x.leaves = vs (Γ 2) := h.tmLeaves (t := 0) (by rw [hs]; rfl)
  have hal : aliasL 1 0 x.leaves = vs (peekG 1 0 (Γ 2)) := by rw [peekG_vs, hxl]
  have hlen : (aliasL 1 0 x.leaves).length = x.leaves.length := by rw [hal, hxl, vs_length, vs_length, ← cs_length, peekG_cs, cs_length]
  generalize hG : setG (setG Γ 1 (Γ 2)) 2 (peekG 1 0 (Γ 2)) = G
  have g1 : G 1 = Γ 2 := by rw [← hG, setG_ne _ _ (by omega), setG_same]
  have g2 : G 2 = peekG 1 0 (Γ 2) := by rw [← hG, setG_same]
  have gq : ∀ q, q ≠ 1 → q ≠ 2 → G q = Γ q := fun q e1 e2 => by rw [← hG, setG_ne _ _ e2, setG_ne _ _ e1]
  have gb : ∀ t, G (2 * t + 3) = Γ (2 * t + 3) := fun t => gq _ (by omega) (by omega)
  have eg : s.ghost = { s with tm := x.remake (aliasL 1 0 x.leaves) :: l, gh := x.leaves } := by unfold S.ghost; rw [hs]
  -- where an entry that owns something stood
  have hget : ∀ (q j : Nat) (y : Ent B), (G q)[j]? = some y → (q = 2 ∧ y ∈ peekG 1 0 (Γ 2)) ∨ (q ≠ 2 ∧ (Γ (if q = 1 then 2 else q))[j]? = some y) := by
    intro q j y hy
    by_cases e2 : q = 2
    · subst e2; rw [g2] at hy; exact .inl ⟨rfl, List.mem_of_getElem? hy⟩
    · by_cases e1 : q = 1
      · subst e1; rw [g1] at hy; exact .inr ⟨e2, by rw [if_pos rfl]; exact hy⟩
      · rw [gq q e1 e2] at hy; exact .inr ⟨e2, by rw [if_neg e1]; exact hy⟩
  have hpk : ∀ y, y ∈ peekG 1 0 (Γ 2) → ∀ b, ¬ y.D b := by
    intro y hy b hb
    obtain ⟨j, z, _, rfl⟩ := peekG_mem _ _ _ _ hy
    exact hb
  have hown : ∀ q y b, y ∈ G q → y.D b → ∃ q', y ∈ Γ q' := by
    intro q y b hy hb
    obtain ⟨j, hj⟩ := List.getElem?_of_mem hy
    rcases hget q j y hj with ⟨_, e⟩ | ⟨_, e⟩
    · exact (hpk y e b hb).elim
    · exact ⟨_, List.mem_of_getElem? e⟩
  have hok : ∀ b, okB X Γ β w b → okB X G β w b := fun b hb =>
    hb.imp (Nat.le_refl _) (fun q y hy hD => by obtain ⟨q', hq'⟩ := hown q y b hy hD; exact .inl ⟨q', y, hq', hD⟩) (fun t ht he => .inl ⟨by rw [← gb]; exact ht, he⟩)
  have htl : s.ghost.tm.length = s.tm.length := by rw [eg, hs]; rfl
  have key : Rel { X with gh := csOf (Γ 2) } s.ghost a w G β := by
    refine h.next' H (csOf (Γ 2)) h.dfr (htl.trans h.size) ?_ ?_ ?_ ?_ ?_ (fun b hb => ⟨hok b hb, rfl⟩) (fun _ _ _ _ _ _ _ => rfl) ?_ ?_ ?_ ?_ ?_ ?_ ?_ h.grow h.keep h.os h.tape h.output (by rw [g1])
    · have hbl : s.ghost.bx.length = s.bx.length := by rw [eg]
      exact h.pins (Γ' := G) htl hbl fun t _ ht => ⟨by rw [gb]; exact ht, rfl⟩
    · intro q
      rcases root_cases q with rfl | rfl | ⟨t, rfl⟩ | ⟨t, rfl⟩
      · rw [gq 0 (by omega) (by omega), ← h.root 0, eg]; rfl
      · rw [g1, ← hxl, eg]; rfl
      · rw [root_tm, eg]
        cases t with
        | zero => show (W.remake x _).leaves = vs (G 2); rw [g2, remake_leaves _ _ hlen, hal]
        | succ t => rw [gq _ (by omega) (by omega), ← h.root, root_tm, hs]; rfl
      · rw [root_bx, gb, ← h.root, root_bx, eg]
    · intro t y c hy hc
      cases t with
      | zero =>
        rw [eg] at hy
        injection hy with hy
        subst hy
        show WR _ _ (csOf (G 2))
        rw [g2, peekG_cs]
        exact (h.tm 0 x c (by rw [hs]; rfl) hc).remake hlen
      | succ t =>
        rw [gq _ (by omega) (by omega)]
        refine h.tm (t + 1) y c ?_ hc
        rw [eg] at hy
        rw [hs]
        exact hy
    · intro t ht
      rw [gb] at ht ⊢
      exact h.bx t ht
    · intro q y hy
      obtain ⟨j, hj⟩ := List.getElem?_of_mem hy
      rcases hget q j y hj with ⟨_, e⟩ | ⟨_, e⟩
      · refine .inr ?_
        obtain ⟨j', z, hz, rfl⟩ := peekG_mem _ _ _ _ e
        have hl := h.leaf 2 z (List.mem_of_getElem? hz)
        have hf := hfin z (List.mem_of_getElem? hz)
        rw [Nat.zero_add]
        cases hv : z.v with
        | lit u => rw [hv] at hl; exact hl
        | imm e l => rw [hv] at hl; obtain ⟨n, hl⟩ := hl; exact ⟨n, Imm.mono hok hl⟩
        | own e l => rw [hv] at hl; obtain ⟨n, hl⟩ := hl; exact ⟨by simp, z, by show (G 1)[j']? = _; rw [g1]; exact hz, by rw [hv]; rfl, rfl, own_one hl⟩
        | pb i e x => rw [hv] at hl; exact ⟨by simp, z, by show (G 1)[j']? = _; rw [g1]; exact hz, by rw [hv]; rfl, rfl, PbX.one hl⟩
        | _ => rw [hv] at hf; cases hf
      · exact .inl ⟨_, List.mem_of_getElem? e⟩
    · intro r y p hy ho hp
      obtain ⟨r0, ho⟩ := ho
      exact (hna r0 y p ho hp).elim
    · intro r y p t hy ho hp hst hr hg
      rw [hr] at hg ⊢
      rw [gb]
      exact ⟨hg, rfl⟩
    · intro q k q' k' y z hy hz b hb hb'
      rcases hget q k y hy with ⟨_, e⟩ | ⟨n1, e⟩
      · exact (hpk y e b hb).elim
      · rcases hget q' k' z hz with ⟨_, e'⟩ | ⟨n2, e'⟩
        · exact (hpk z e' b hb').elim
        · obtain ⟨h3, h4⟩ := h.disj _ _ _ _ y z e e' b hb hb'
          refine ⟨?_, h4⟩
          split at h3 <;> split at h3 <;> omega
    · intro r y t hy ht hb
      obtain ⟨q', hq'⟩ := hown r y _ hy hb
      rw [gb] at ht
      exact h.bdisj q' y t hq' ht hb
    · intro t u ht hu e
      rw [gb] at ht hu
      exact h.binj t u ht hu e
    · intro r y b hy hb
      obtain ⟨q', hq'⟩ := hown r y b hy hb
      exact h.dlt q' y b hq' hb
    · intro t ht
      rw [gb] at ht
      exact h.bnd t ht
  exact ⟨G, key, by rw [eg], htl⟩
def enterG (mu : Bool) (L : Nat) (w : World) (ok0 : Nat → Prop) (As : List (Arg B)) : Base B := { enterX L w ok0 As with gh := if mu then ((As.head?.map fun A => csOf A.E).getD []) else [] }
theorem FinR.noAlias {w : World} {ok : Nat → Prop} {y : Ent B} (h : FinR w ok y) : y.v.final = true ∧ ∀ p, ¬ Alias y.v p := by
  rcases h with ⟨n, h⟩ | ⟨e, l, n, h1, h2⟩ | ⟨i, e, x, h1, h2⟩
  · cases hv : y.v with
    | lit u => exact ⟨rfl, fun p hp => by rcases hp with hp | ⟨hp, _⟩ <;> cases hp⟩
    | own e l => exact ⟨rfl, fun p hp => by rcases hp with hp | ⟨hp, _⟩ <;> cases hp⟩
    | _ => rw [hv] at h; cases n <;> exact h.elim
  · rw [h1]; exact ⟨rfl, fun p hp => by rcases hp with hp | ⟨hp, _⟩ <;> cases hp⟩
  · rw [h1]; exact ⟨rfl, fun p hp => by rcases hp with hp | ⟨hp, _⟩ <;> cases hp⟩
/-- A call's begin, where the first parameter may be written through. -/
theorem enter_all (H : TabE B) {mu : Bool} {L : Nat} {ms : List Md} {As : List (Arg B)} {w : World} {ok0 : Nat → Prop} (hm : Modes ms As) (hp : Pre w ok0 As) (hL : As.length ≤ L) (hmu : mu = true → ownFirst ms = true ∧ As ≠ []) :
    ∃ Γ, Rel (enterG mu L w ok0 As) (if mu then (enterS L ms (As.map Arg.x)).ghost else enterS L ms (As.map Arg.x)) { tmps := (As.map Arg.c).toArray ++ Array.replicate (L - As.length) undef, defers := [] } w Γ (enterβ L As) ∧
      (if mu then (enterS L ms (As.map Arg.x)).ghost else enterS L ms (As.map Arg.x)).hd = [] ∧ (if mu then (enterS L ms (As.map Arg.x)).ghost else enterS L ms (As.map Arg.x)).tm.length = L := by
  have h := enter_rel hm hp hL
  have htm : (enterS L ms (As.map Arg.x)).tm.length = L := by
    show (enterT L 0 ms (As.map Arg.x) ++ deads (W.one V.dead : WT B) (L - (As.map Arg.x).length)).length = L
    rw [List.length_append, enterT_len, deads_len, List.length_map]; omega
  cases mu with
  | false => exact ⟨_, h, rfl, htm⟩
  | true =>
    obtain ⟨hof, hne⟩ := hmu rfl
    cases As with
    | nil => exact absurd rfl hne
    | cons A As =>
    have hb : A.b = none := by
      have hA := hm.2 0 A rfl
      cases ms with
      | nil => cases hof
      | cons m ms =>
        cases m with
        | own => have := (hp.ok A (by simp)).2; rw [show A.m = .own from hA] at this; exact this.1
        | _ => cases hof
    have g2 : gE L (A :: As) 2 = A.E := by
      show gE L (A :: As) (2 * 0 + 2) = _
      rw [gE_tm]
      unfold gT
      simp [hb]
    have hx : ∃ x l, (enterS L ms ((A :: As).map Arg.x)).tm = x :: l := by
      show ∃ x l, enterT L 0 ms ((A :: As).map Arg.x) ++ deads (W.one V.dead : WT B) (L - ((A :: As).map Arg.x).length) = x :: l
      exact ⟨_, _, rfl⟩
    obtain ⟨x, l, hx⟩ := hx
    have hna : ∀ r y p, y ∈ gE L (A :: As) r → ¬ Alias y.v p := by
      intro r y p hy
      obtain ⟨k, hk⟩ := List.getElem?_of_mem hy
      rcases gE_mem hk with ⟨i, A', e1, e2, _⟩ | ⟨i, A', _, _, _, rfl⟩ | rfl
      · exact ((hp.ok A' (List.mem_of_getElem? e1)).1 y (List.mem_of_getElem? e2)).noAlias.2 p
      · rintro (e | ⟨e, e'⟩)
        · cases e
        · injection e with e; subst e; exact e' rfl
      · rintro (e | ⟨e, e'⟩) <;> cases e
    obtain ⟨G, k1, k2, k3⟩ := h.ghost H hx hna (fun y hy => by rw [g2] at hy; exact ((hp.ok A (by simp)).1 y hy).noAlias.1)
    refine ⟨G, ?_, k2, k3.trans htm⟩
    rw [g2] at k1
    exact k1
end
end Go.I

/-! ISem27 -/
set_option linter.unusedVariables false
set_option linter.unusedSimpArgs false
namespace Go.I
open Go.RowKit Go.Proofs.YtogfddilolannaaDoorW.PrintWords
section
variable {P : Program} {B : Tab} {M : FuncId → List Md} {F : FuncId → Option (Fi B)} {kl : KL}
def bidx : Nat → List (Arg B) → List Nat
  | _, [] => []
  | i, A :: As => if A.b.isSome then i :: bidx (i + 1) As else bidx (i + 1) As
theorem bidx_spec : ∀ (As : List (Arg B)) (i : Nat), (bidx i As).length = (As.filterMap (·.b)).length ∧ (∀ (j q : Nat), (bidx i As)[j]? = some q → i ≤ q ∧ ∃ A b, As[q - i]? = some A ∧ A.b = some b ∧ (As.filterMap (·.b))[j]? = some b) ∧
    (∀ (j j' q : Nat), (bidx i As)[j]? = some q → (bidx i As)[j']? = some q → j = j')
  | [], i => ⟨rfl, fun j q h => by simp [bidx] at h, fun j j' q h => by simp [bidx] at h⟩
  | A :: As, i => by
    obtain ⟨h1, h2, h3⟩ := bidx_spec As (i + 1)
    have up : ∀ q, i + 1 ≤ q → (A :: As)[q - i]? = As[q - (i + 1)]? := fun q hq => by
      rw [show q - i = (q - (i + 1)) + 1 by omega, List.getElem?_cons_succ]
    cases hb : A.b with
    | none =>
      have e1 : bidx i (A :: As) = bidx (i + 1) As := by simp [bidx, hb]
      have e2 : (A :: As).filterMap (·.b) = As.filterMap (·.b) := by simp [hb]
      rw [e1, e2]
      refine ⟨h1, fun j q hj => ?_, h3⟩
      obtain ⟨k1, A', b, k2, k3, k4⟩ := h2 j q hj
      exact ⟨by omega, A', b, by rw [up q k1]; exact k2, k3, k4⟩
    | some b =>
      have e1 : bidx i (A :: As) = i :: bidx (i + 1) As := by simp [bidx, hb]
      have e2 : (A :: As).filterMap (·.b) = b :: As.filterMap (·.b) := by simp [hb]
      rw [e1, e2]
      refine ⟨by simp [h1], fun j q hj => ?_, fun j j' q hj hj' => ?_⟩
      · cases j with
        | zero =>
          simp at hj
          subst hj
          exact ⟨Nat.le_refl _, A, b, by simp, hb, rfl⟩
        | succ j =>
          obtain ⟨k1, A', b', k2, k3, k4⟩ := h2 j q (by simpa using hj)
          exact ⟨by omega, A', b', by rw [up q k1]; exact k2, k3, by simpa using k4⟩
      · cases j with
        | zero =>
          cases j' with
          | zero => rfl
          | succ j' =>
            simp at hj hj'
            subst hj
            have := (h2 j' i hj').1
            omega
        | succ j =>
          cases j' with
          | zero =>
            simp at hj hj'
            subst hj'
            have := (h2 j i hj).1
            omega
          | succ j' => rw [h3 j j' q (by simpa using hj) (by simpa using hj')]
theorem outsL_spec {X : Base B} {s : S B} {a : Act} {w : World} {Γ : Gh B} {β : Nat → Nat} (h : Rel X s a w Γ β) {L : Nat} : ∀ (As : List (Arg B)) (i : Nat) (ms : List Md) (os : List (List (VT B))), ms.length ≤ As.length →
    (∀ (j : Nat) A, As[j]? = some A → ((∃ n, ms.getD j .val = .ptr n) ↔ A.b.isSome = true)) → outsL s L i ms = some os →
    os = (bidx i As).map (fun q => vs (Γ (2 * (L + q) + 3))) ∧ ∀ q ∈ bidx i As, ∀ y ∈ Γ (2 * (L + q) + 3), y.v.final = true
  | [], i, ms, os, hl, hb, hg => by
    have : ms = [] := List.eq_nil_of_length_eq_zero (by simpa using hl)
    subst this
    simp only [outsL, Option.some.injEq] at hg
    subst hg
    exact ⟨rfl, fun q hq => by cases hq⟩
  | A :: As, i, ms, os, hl, hb, hg => by
    have hb' : ∀ (j : Nat) A', As[j]? = some A' → ((∃ n, (ms.drop 1).getD j .val = .ptr n) ↔ A'.b.isSome = true) := fun j A' hA => by
      rw [drop_getD]; exact hb (j + 1) A' (by simpa using hA)
    have hl' : (ms.drop 1).length ≤ As.length := by rw [List.length_drop]; simp at hl; omega
    have h0 := hb 0 A rfl
    cases ms with
    | nil =>
      simp only [outsL, Option.some.injEq] at hg
      subst hg
      have hA : A.b.isSome = false := by
        cases hs : A.b.isSome with
        | false => rfl
        | true => obtain ⟨n, hn⟩ := h0.2 hs; cases hn
      obtain ⟨k1, k2⟩ := outsL_spec h As (i + 1) [] [] (by simp) (by simpa using hb') rfl
      have e1 : bidx i (A :: As) = bidx (i + 1) As := by simp [bidx, hA]
      rw [e1]
      exact ⟨k1, k2⟩
    | cons m ms =>
      have h0 : (∃ n, m = .ptr n) ↔ A.b.isSome = true := h0
      simp only [List.drop_succ_cons, List.drop_zero] at hb' hl'
      cases m with
      | ptr n =>
        have hA := h0.1 ⟨n, rfl⟩
        simp only [outsL] at hg
        split at hg
        · rename_i hf
          simp only [Option.map_eq_some_iff] at hg
          obtain ⟨os', h1, rfl⟩ := hg
          obtain ⟨k1, k2⟩ := outsL_spec h As (i + 1) ms os' hl' hb' h1
          have e1 : bidx i (A :: As) = i :: bidx (i + 1) As := by simp [bidx, hA]
          rw [e1, List.map_cons, ← k1, h.root]
          refine ⟨rfl, fun q hq y hy => ?_⟩
          rcases List.mem_cons.1 hq with rfl | hq
          · rw [h.root] at hf
            exact List.all_eq_true.1 hf y.v (List.mem_map.2 ⟨y, hy, rfl⟩)
          · exact k2 q hq y hy
        · cases hg
      | val =>
        have hA : A.b.isSome = false := by
          cases hs : A.b.isSome with
          | false => rfl
          | true => obtain ⟨n, hn⟩ := h0.2 hs; cases hn
        simp only [outsL] at hg
        have e1 : bidx i (A :: As) = bidx (i + 1) As := by simp [bidx, hA]
        rw [e1]
        exact outsL_spec h As (i + 1) ms os hl' hb' hg
      | own =>
        have hA : A.b.isSome = false := by
          cases hs : A.b.isSome with
          | false => rfl
          | true => obtain ⟨n, hn⟩ := h0.2 hs; cases hn
        simp only [outsL] at hg
        have e1 : bidx i (A :: As) = bidx (i + 1) As := by simp [bidx, hA]
        rw [e1]
        exact outsL_spec h As (i + 1) ms os hl' hb' hg
theorem LeafR.fin {X : Base B} {ok Γ β w} {y : Ent B} (h : LeafR X ok Γ β w y.v y.c y.D) (hf : y.v.final = true) : FinR w ok y := by
  unfold FinR
  cases hv : y.v with
  | lit u => rw [hv] at h; exact .inl ⟨0, h⟩
  | own e l => rw [hv] at h; exact .inl h
  | imm e l => rw [hv] at h; obtain ⟨n, h⟩ := h; exact .inr (.inl ⟨e, l, n, rfl, h⟩)
  | pb i e x => rw [hv] at h; exact .inr (.inr ⟨i, e, x, rfl, h⟩)
  | _ => rw [hv] at hf; cases hf
theorem leave_post (H : TabP P B) {ms : List Md} {As : List (Arg B)} {w : World} {ok0 : Nat → Prop} (hm : Modes ms As) (hp : Pre w ok0 As) {fn : Func} {s : S B} {a : Act} {w1 : World} {Γ : Gh B} {β : Nat → Nat} {n : Nat} {r : Res B}
    {mu : Bool} (hmu : mu = true → As ≠ []) (h : Rel (enterG mu fn.ntmps w ok0 As) s a w1 Γ β) (hh : s.hd = []) (hg : G std M F n kl (leave std fn mu ms s) r) :
    ∃ v, (results fn a.tmps).run P w1 = .ok v w1 ∧ ∃ E Os, Post mu w ok0 As r v w1 E Os := by
  unfold leave at hg
  obtain ⟨Γp, h, hh⟩ := Rel.packs H.toTabE (fun _ _ e => e) fn.results.toList fn.resultTypes.toList h hh
  generalize s.packs fn.results.toList fn.resultTypes.toList = s at h hh hg
  obtain ⟨⟨fs, s1⟩, h1, hg⟩ := G.ofOpt_inv hg
  obtain ⟨os, h2, hg⟩ := G.ofOpt_inv hg
  simp only at hg
  generalize hgg : (if mu = true then s1.gh else []) = gg at hg
  split at hg
  · rename_i hf
    obtain ⟨Γ1, css, k1, k2, k3, k4, k5⟩ := resL_sound H _ h h1
    rw [h.hd0 hh] at k3
    have k3 : csOf (Γ1 0) = css.flatten := by simpa [csOf] using k3
    have ha : a = ⟨a.tmps, []⟩ := by have := h.dfr; cases a; simp only at this; subst this; rfl
    rw [ha] at k5
    have hrun := run_results k5
    have hr : r = ((gg, os), resW fs s1.hd) := by cases hg; rfl
    obtain ⟨Eg, hEg, hEm⟩ : ∃ Eg : List (Ent B), gg = vs Eg ∧ ∀ (k : Nat) y, Eg[k]? = some y → (Γ1 1)[k]? = some y := by
      cases mu with
      | true => exact ⟨Γ1 1, hgg.symm.trans (k1.root 1), fun k y hy => hy⟩
      | false => exact ⟨[], hgg.symm, fun k y hy => by simp at hy⟩
    have hhd : s1.hd = vs (Γ1 0) := k1.root 0
    -- forms of one cell
    have hone : ∀ m, fs = [(false, m)] → m = 1 := by
      intro m hm
      subst hm
      exact resL_one H _ h h1
    obtain ⟨q1, q2⟩ := resW_spec k4 k3.symm hone
    have hboxes : ∀ (j : Nat) A, As[j]? = some A → ((∃ n, ms.getD j .val = .ptr n) ↔ A.b.isSome = true) := fun j A hA => by
      rw [← hm.2 j A hA]; exact (hp.ok A (List.mem_of_getElem? hA)).box
    obtain ⟨o1, o2⟩ := outsL_spec k1 As 0 ms os hm.1 hboxes h2
    obtain ⟨b1, b2, b3⟩ := bidx_spec As 0
    have hpin : ∀ (j b q : Nat), (As.filterMap (·.b))[j]? = some b → (bidx 0 As)[j]? = some q → β (fn.ntmps + q) = b ∧ Γ1 (2 * (fn.ntmps + q) + 3) ≠ [] := by
      intro j b q hb hq
      obtain ⟨_, A, b', e1, e2, e3⟩ := b2 j q hq
      rw [hb] at e3
      injection e3 with e3
      subst e3
      have := k1.bsize.2 (fn.ntmps + q) b (by
        show (if fn.ntmps ≤ fn.ntmps + q then As[fn.ntmps + q - fn.ntmps]?.bind (·.b) else none) = some b
        rw [if_pos (by omega), show fn.ntmps + q - fn.ntmps = q - 0 by omega, e1]; exact e2)
      exact ⟨this.2.1, this.2.2⟩
    -- where a result's entry stands
    have hE : ∀ (k : Nat) y, (Eg ++ Γ1 0)[k]? = some y → (k < Eg.length ∧ (Γ1 1)[k]? = some y) ∨ (Eg.length ≤ k ∧ (Γ1 0)[k - Eg.length]? = some y) := by
      intro k y hy
      rw [List.getElem?_append] at hy
      split at hy
      · rename_i hk; exact .inl ⟨hk, hEm k y hy⟩
      · exact .inr ⟨by omega, hy⟩
    have hmem : ∀ y, y ∈ Eg ++ Γ1 0 ∨ (∃ O ∈ (bidx 0 As).map (fun q => Γ1 (2 * (fn.ntmps + q) + 3)), y ∈ O) → ∃ rr, y ∈ Γ1 rr ∧ y.v.final = true := by
      rintro y (hy | ⟨O, hO, hy⟩)
      · have hfy : y.v.final = true := by
          rw [hEg, hhd] at hf
          refine List.all_eq_true.1 hf y.v ?_
          rcases List.mem_append.1 hy with hy | hy
          · exact List.mem_append.2 (.inl (List.mem_map.2 ⟨y, hy, rfl⟩))
          · exact List.mem_append.2 (.inr (List.mem_map.2 ⟨y, hy, rfl⟩))
        obtain ⟨k, hk⟩ := List.getElem?_of_mem hy
        rcases hE k y hk with ⟨_, e⟩ | ⟨_, e⟩
        · exact ⟨1, List.mem_of_getElem? e, hfy⟩
        · exact ⟨0, List.mem_of_getElem? e, hfy⟩
      · obtain ⟨q, hq, rfl⟩ := List.mem_map.1 hO
        exact ⟨_, hy, o2 q hq y hy⟩
    have hbs : ∀ b, b ∈ As.filterMap (·.b) → ∃ t, Γ1 (2 * t + 3) ≠ [] ∧ β t = b := by
      intro b hb
      obtain ⟨j, hj⟩ := List.getElem?_of_mem hb
      have hjl : j < (bidx 0 As).length := by rw [b1]; exact (List.getElem?_eq_some_iff.1 hj).1
      obtain ⟨e1, e2⟩ := hpin j b _ hj (List.getElem?_eq_getElem hjl)
      exact ⟨_, e2, e1⟩
    refine ⟨_, hrun, Eg ++ Γ1 0, (bidx 0 As).map (fun q => Γ1 (2 * (fn.ntmps + q) + 3)), ?_⟩
    subst hr
    have hEl : gg.length = Eg.length := by rw [hEg, vs_length]
    refine { lv := by rw [hhd, hEg]; show vs Eg ++ (resW fs (vs (Γ1 0))).leaves = _; rw [q1]; simp [vs], wr := by rw [hhd, hEl, List.drop_left' rfl]; exact q2, mz := fun e => by subst e; exact hgg.symm, mcs := ?_, out := by rw [o1, List.map_map]; rfl, blk := ?_, len := by rw [List.length_map, b1], fin := ?_, disE := ?_,
             disO := ?_, disEO := ?_, dlt := ?_, os := k1.os, tape := k1.tape, output := k1.output, size := k1.grow, keep := k1.keep }
    · intro e
      subst e
      cases As with
      | nil => exact absurd rfl (hmu rfl)
      | cons A As =>
        refine ⟨A, As, rfl, ?_⟩
        rw [hEl, List.take_left' rfl]
        have e1 : Eg = Γ1 1 := by
          have e2 : vs Eg = vs (Γ1 1) := hEg.symm.trans (hgg.symm.trans (k1.root 1))
          have e3 : Eg.length = (Γ1 1).length := by rw [← vs_length, e2, vs_length]
          refine List.ext_getElem? fun i => ?_
          by_cases hi : i < Eg.length
          · rw [List.getElem?_eq_getElem hi, hEm i _ (List.getElem?_eq_getElem hi)]
          · rw [List.getElem?_eq_none (by omega), List.getElem?_eq_none (by omega)]
        rw [e1]
        exact k1.gh
    · intro i b O hb hO
      rw [List.getElem?_map, Option.map_eq_some_iff] at hO
      obtain ⟨q, hq, rfl⟩ := hO
      obtain ⟨e1, e2⟩ := hpin i b q hb hq
      obtain ⟨ty, e3⟩ := k1.bx _ e2
      exact ⟨e2, ty, by rw [← e1]; exact e3⟩
    · intro y hy
      obtain ⟨rr, e1, e2⟩ := hmem y hy
      refine (LeafR.fin (k1.leaf rr y e1) e2).mono fun b hb => ⟨hb.1, hb.2.1, fun z hz => ?_, fun hbm => ?_⟩
      · obtain ⟨rr', e3, _⟩ := hmem z hz
        exact hb.2.2.1 rr' z e3
      · obtain ⟨t, e3, e4⟩ := hbs b hbm
        exact hb.2.2.2 t e3 e4.symm
    · intro j k x y hx hy b hb hb'
      rcases hE j x hx with ⟨n1, e1⟩ | ⟨n1, e1⟩ <;> rcases hE k y hy with ⟨n2, e2⟩ | ⟨n2, e2⟩ <;> have h3 := k1.disj _ _ _ _ x y e1 e2 b hb hb' <;> omega
    · intro i j k l O O' x y hO hO' hx hy b hb hb'
      rw [List.getElem?_map, Option.map_eq_some_iff] at hO hO'
      obtain ⟨q, hq, rfl⟩ := hO
      obtain ⟨q', hq', rfl⟩ := hO'
      obtain ⟨e1, e2⟩ := k1.disj _ k _ l x y hx hy b hb hb'
      have : q = q' := by omega
      subst this
      exact ⟨b3 i j q hq hq', e2⟩
    · intro x hx O hO y hy b hb hb'
      obtain ⟨q, hq, rfl⟩ := List.mem_map.1 hO
      obtain ⟨i, hi⟩ := List.getElem?_of_mem hx
      obtain ⟨j, hj⟩ := List.getElem?_of_mem hy
      rcases hE i x hi with ⟨n1, e1⟩ | ⟨n1, e1⟩ <;> have := (k1.disj _ _ _ j x y e1 hj b hb hb').1 <;> omega
    · intro y hy b hb
      obtain ⟨rr, e1, _⟩ := hmem y hy
      have := k1.dlt rr y b e1 hb
      refine ⟨this.1, this.2, fun hbm => ?_⟩
      obtain ⟨t, e3, e4⟩ := hbs b hbm
      subst e4
      exact k1.bdisj rr y t e1 e3 hb
  · exact (G.no_inv hg).elim
theorem Rel.frzB (H : TabE B) {X : Base B} {a : Act} {w : World} {β : Nat → Nat} (z : Bool) (rs : List ResultVar) {s : S B} {Γ : Gh B} (h : Rel X s a w Γ β) (hh : s.hd = []) : ∃ Γ', Rel X (s.frzB z rs) a w Γ' β ∧ (s.frzB z rs).hd = [] := by
  cases z with
  | true =>
    obtain ⟨Γ', k1, k2, _⟩ := h.frzs H rs hh
    exact ⟨Γ', k1, k2⟩
  | false => exact ⟨Γ, h, hh⟩
/-- Every function keeps its word, in as many calls and rounds as the operations do. -/
theorem call_ok (H : TabP P B) (HF : ∀ f fi, F f = some fi → P.funcs[f]? = some fi.fn ∧ fi.fn.body = some fi.body ∧ drOK fi.kills fi.body = true) {n : Nat} (HO : OpsOK P B M F n) : CallOK P B M F n := by
  intro f fi hf As w ok0 r hm hp hg
  obtain ⟨f1, f2, f3⟩ := HF f fi hf
  unfold den at hg
  split at hg
  · rename_i hL
    obtain ⟨hL, hmu⟩ := hL
    rw [List.length_map] at hL
    have hmu : B.gives f = true → ownFirst (M f) = true ∧ As ≠ [] := fun e => by
      rw [e] at hmu
      simp only [Bool.not_true, Bool.false_or, Bool.and_eq_true, Bool.not_eq_true'] at hmu
      exact ⟨hmu.1, fun e => by subst e; cases hmu.2⟩
    refine calls_of_wp f1 f2 ?_
    obtain ⟨Γ0, hrel, hhd, htm⟩ := enter_all H.toTabE (L := fi.fn.ntmps) hm hp hL hmu
    have hlen : (As.map Arg.c).toArray.size = As.length := by simp
    rw [hlen]
    refine exec_sound H HO n (Nat.le_refl _) fi.body 0 _ _ _ r _ _ _ _ _ f3 (fun _ _ h => h) hrel hhd htm hg fun e a' w' hd => ?_
    obtain ⟨s', Γ', β', m, hm', k1, k2, k3, k4⟩ := hd
    cases e with
    | normal =>
      obtain ⟨Γf, kf1, kf2⟩ := k1.frzB H.toTabE fi.kills.z fi.fn.results.toList k2
      obtain ⟨v, h1, h2⟩ := leave_post H hm hp (fun e => (hmu e).2) kf1 kf2 k4
      exact ⟨k1.dfr, v, h1, h2⟩
    | ret =>
      obtain ⟨Γf, kf1, kf2⟩ := k1.frzB H.toTabE fi.kills.z fi.fn.results.toList k2
      obtain ⟨v, h1, h2⟩ := leave_post H hm hp (fun e => (hmu e).2) kf1 kf2 k4
      exact ⟨k1.dfr, v, h1, h2⟩
    | exit id => exact (G.no_inv k4).elim
  · exact (G.no_inv hg).elim
end
end Go.I

/-! ISem28 -/
set_option linter.unusedVariables false
set_option linter.unusedSimpArgs false
namespace Go.I
open Go.RowKit Go.Proofs.YtogfddilolannaaDoorW.PrintWords
section
variable {P : Program} {B : Tab} {M : FuncId → List Md} {F : FuncId → Option (Fi B)} {kl : KL}
variable {X : Base B} {a : Act} {β : Nat → Nat} {s : S B} {w : World} {Γ : Gh B}
theorem Rel.takeA (H : TabE B) : ∀ (ps : List (TypeId × Operand)) (ms : List Md) {s s' : S B} {fs : List (WT B)} {Γ : Gh B}, Rel X s a w Γ β → s.takeA ms ps = some (s', fs) →
    ∃ (Γ' : Gh B) (css : List (List Value)), Rel X s' a w Γ' β ∧ csOf (Γ' 0) = csOf (Γ 0) ++ css.flatten ∧ s'.tm.length = s.tm.length ∧ css.length = ps.length ∧ fs.length = ps.length ∧
      ∀ (i : Nat) p, ps[i]? = some p → ∃ f cs, fs[i]? = some f ∧ css[i]? = some cs ∧ (ms.getD i .val = .own → WR f (a.eval p.2) cs ∧ f.leaves.length = cs.length) ∧ (ms.getD i .val ≠ .own → cs = [])
  | [], ms, s, s', fs, Γ, h, hg => by
    simp only [S.takeA, Option.some.injEq, Prod.mk.injEq] at hg
    obtain ⟨rfl, rfl⟩ := hg
    exact ⟨Γ, [], h, by simp, rfl, rfl, rfl, fun i p hp => by simp at hp⟩
  | (t, x) :: ps, ms, s, s', fs, Γ, h, hg => by
    have nxt : ∀ {s1 : S B} {fs1 : List (WT B)} {Γ1 Γ2 : Gh B} {css : List (List Value)} {f : WT B} {cs : List Value}, (∀ (i : Nat) p, ps[i]? = some p → ∃ f cs, fs1[i]? = some f ∧ css[i]? = some cs ∧ ((ms.drop 1).getD i .val = .own → WR f (a.eval p.2) cs ∧ f.leaves.length = cs.length) ∧ ((ms.drop 1).getD i .val ≠ .own → cs = [])) →
        ((ms.getD 0 .val = .own → WR f (a.eval x) cs ∧ f.leaves.length = cs.length) ∧ (ms.getD 0 .val ≠ .own → cs = [])) →
        ∀ (i : Nat) p, ((t, x) :: ps)[i]? = some p → ∃ f' cs', (f :: fs1)[i]? = some f' ∧ (cs :: css)[i]? = some cs' ∧ (ms.getD i .val = .own → WR f' (a.eval p.2) cs' ∧ f'.leaves.length = cs'.length) ∧ (ms.getD i .val ≠ .own → cs' = []) := by
      intro s1 fs1 Γ1 Γ2 css f cs h1 h0 i p hp
      cases i with
      | zero =>
        simp at hp
        subst hp
        exact ⟨f, cs, rfl, rfl, h0.1, h0.2⟩
      | succ i =>
        obtain ⟨f', cs', k1, k2, k3, k4⟩ := h1 i p (by simpa using hp)
        rw [drop_getD] at k3 k4
        exact ⟨f', cs', by simpa using k1, by simpa using k2, k3, k4⟩
    simp only [S.takeA] at hg
    split at hg
    · rename_i hm
      rw [head_getD] at hm
      split at hg
      · cases hg
      simp only [Option.bind_eq_some_iff, Option.map_eq_some_iff] at hg
      obtain ⟨s1, h1, ⟨s2, fs2⟩, h2, h3⟩ := hg
      injection h3 with h3 h4
      subst h3; subst h4
      obtain ⟨Γ1, E, k1, k2, k3, k4, k5, k6⟩ := h.take H h1
      obtain ⟨Γ2, css, m1, m2, m3, m4, m5, m6⟩ := Rel.takeA H ps (ms.drop 1) k1 h2
      refine ⟨Γ2, csOf E :: css, m1, by rw [m2, k2, List.flatten_cons, List.append_assoc], m3.trans k3, by simp [m4], by simp [m5], ?_⟩
      exact nxt (s1 := s1) (Γ1 := Γ1) (Γ2 := Γ2) m6 ⟨fun _ => ⟨k5, by rw [k4, cs_length]⟩, fun e => absurd hm e⟩
    · rename_i hm
      simp only [Option.map_eq_some_iff] at hg
      obtain ⟨⟨s2, fs2⟩, h2, h3⟩ := hg
      injection h3 with h3 h4
      subst h3; subst h4
      obtain ⟨Γ2, css, m1, m2, m3, m4, m5, m6⟩ := Rel.takeA H ps (ms.drop 1) h h2
      refine ⟨Γ2, [] :: css, m1, by rw [m2, List.flatten_cons, List.nil_append], m3, by simp [m4], by simp [m5], ?_⟩
      exact nxt (s1 := s) (Γ1 := Γ) (Γ2 := Γ2) m6 ⟨fun e => absurd (by rw [head_getD]; exact e) hm, fun _ => rfl⟩
/-- The blocks of what is lent. -/
def LentD (Γ : Gh B) (ls : List (VT B)) (b : Nat) : Prop := ∃ p, .at p ∈ ls ∧ ∃ y, (Γ p.r)[p.k]? = some y ∧ y.D b
theorem Rel.borrow (H : TabE B) (h : Rel X s a w Γ β) {v : VT B} {c : Value} {D : Nat → Prop} (hl : LeafR X (okB X Γ β w) Γ β w v c D) (hD : ∀ b, ¬ D b) (hf : (V.borrow std s v).final = true) {ls : List (VT B)} (hv : v ∈ ls) :
    FinR w (fun b => okB X Γ β w b ∨ LentD Γ ls b) ⟨V.borrow std s v, c, none_⟩ := by
  unfold V.borrow at hf ⊢
  split at hf
  · rename_i e l hlook
    refine .inr (.inl ⟨e, l, ?_⟩)
    cases v with
    | «at» p =>
      obtain ⟨m, D', h1, x, h2, h3⟩ := h.atOwn H hl hlook
      exact ⟨m, by simp only [hlook], h1.toImm fun b hb => .inr ⟨p, hv, x, h2, h3 b hb⟩⟩
    | own e' l' =>
      have : (.own e' l' : VT B) = .own e l := hlook
      rw [this] at hl
      obtain ⟨m, hm⟩ := hl
      exact ⟨m, by simp only [hlook], hm.toImm fun b hb => (hD b hb).elim⟩
    | _ => cases hlook
  · cases hf
  · rename_i hno hno2
    cases hlk : S.look std s v with
    | lit u =>
      have := h.lookLit H hl hlk
      left
      have h1 : c.oneCell' = true := hl.oneCell (by rintro e; rw [e] at hlk; cases hlk)
      refine ⟨0, ?_⟩
      subst this
      exact ⟨rfl, h1⟩
    | own e l => exact absurd hlk (hno e l)
    | imm e l =>
      have := h.lookImm hl hlk H
      subst this
      obtain ⟨n, hl⟩ := hl
      exact .inr (.inl ⟨e, l, n, rfl, Imm.mono (fun b hb => .inl hb) hl⟩)
    | pb i e x => exact absurd hlk (hno2 i e x)
    | _ => rw [hlk] at hf; cases hf
theorem Rel.freeze (H : TabE B) : ∀ (ls : List (VT B)) {s s' : S B} {Γ : Gh B}, Rel X s a w Γ β → s.freeze ls = some s' → ∃ Γ', Rel X s' a w Γ' β ∧ Less Γ Γ' ∧ (s'.tm.length = s.tm.length ∧ s'.bx.length = s.bx.length) ∧ (∀ b, okB X Γ β w b ∨ LentD Γ ls b → okB X Γ' β w b) ∧
      ∀ (q j : Nat) z, (∀ p, .at p ∈ ls → p.r ≠ q) → (Γ q)[j]? = some z → ∃ z', (Γ' q)[j]? = some z' ∧ z'.D = z.D
  | [], s, s', Γ, h, hg => by
    simp only [S.freeze, Option.some.injEq] at hg
    subst hg
    exact ⟨Γ, h, Less.rfl, ⟨rfl, rfl⟩, fun b hb => hb.elim id fun ⟨p, hp, _⟩ => (by cases hp), fun q j z _ hz => ⟨z, hz, rfl⟩⟩
  | v :: ls, s, s', Γ, h, hg => by
    simp only [S.freeze, Option.bind_eq_some_iff] at hg
    obtain ⟨s1, h1, h2⟩ := hg
    obtain ⟨Γ1, k1, k2, k3, k4, k5, k6⟩ := h.freeze1 H h1
    obtain ⟨Γ2, m1, m2, m3, m4, m5⟩ := Rel.freeze H ls k1 h2
    refine ⟨Γ2, m1, k2.trans m2, ⟨m3.1.trans k3.1, m3.2.trans k3.2⟩, fun b hb => ?_, fun q j z hq hz => ?_⟩
    rcases hb with hb | ⟨p, hp, y, hy, hb⟩
    · exact m4 b (.inl (k4 b (.inr hb)))
    · rcases List.mem_cons.1 hp with hp | hp
      · exact m4 b (.inl (k4 b (.inl ⟨p, y, hp.symm, hy, hb⟩)))
      · rcases k5 _ _ y b hy hb with k5 | ⟨z', k6, k7⟩
        · exact m4 b (.inl k5)
        · exact m4 b (.inr ⟨p, hp, z', k6, k7⟩)
    · obtain ⟨z1, e1, e2⟩ := k6 q j z (fun p hp => hq p (by rw [hp]; exact List.mem_cons_self ..)) hz
      obtain ⟨z2, e3, e4⟩ := m5 q j z1 (fun p hp => hq p (List.mem_cons_of_mem _ hp)) e1
      exact ⟨z2, e3, e4.trans e2⟩
end
end Go.I

/-! ISem29 -/
set_option linter.unusedVariables false
set_option linter.unusedSimpArgs false
namespace Go.I
open Go.RowKit Go.Proofs.YtogfddilolannaaDoorW.PrintWords
section
variable {P : Program} {B : Tab} {M : FuncId → List Md} {F : FuncId → Option (Fi B)} {kl : KL}
variable {X : Base B} {a : Act} {β : Nat → Nat} {s : S B} {w : World} {Γ : Gh B}
/-- The roots behind a call. -/
def gCs (Γ : Gh B) : List Nat → List (List (Ent B)) → Gh B
  | r :: rs, O :: Os => gCs (setG Γ r O) rs Os
  | _, _ => Γ
theorem gCs_out : ∀ (rs : List Nat) (Os : List (List (Ent B))) (Γ : Gh B) (q : Nat), q ∉ rs → gCs Γ rs Os q = Γ q
  | [], _, Γ, q, _ => by unfold gCs; rfl
  | r :: rs, [], Γ, q, _ => rfl
  | r :: rs, O :: Os, Γ, q, h => by
    rw [gCs, gCs_out rs Os _ q (fun e => h (List.mem_cons_of_mem _ e)), setG_ne _ _ (fun e => h (by rw [e]; exact List.mem_cons_self ..))]
theorem gCs_in : ∀ (rs : List Nat) (Os : List (List (Ent B))) (Γ : Gh B) (i q : Nat) (O : List (Ent B)), (∀ (i j r : Nat), rs[i]? = some r → rs[j]? = some r → i = j) → rs[i]? = some q → Os[i]? = some O → gCs Γ rs Os q = O
  | [], _, Γ, i, q, O, _, h, _ => by simp at h
  | r :: rs, [], Γ, i, q, O, _, _, h => by simp at h
  | r :: rs, O0 :: Os, Γ, 0, q, O, hn, h1, h2 => by
    simp at h1 h2
    subst h1; subst h2
    rw [gCs, gCs_out rs Os _ r, setG_same]
    intro hr
    obtain ⟨j, hj⟩ := List.getElem?_of_mem hr
    have := hn 0 (j + 1) r rfl (by simpa using hj)
    omega
  | r :: rs, O0 :: Os, Γ, i + 1, q, O, hn, h1, h2 => by
    rw [gCs]
    exact gCs_in rs Os _ i q O (fun i j r' hi hj => by have := hn (i + 1) (j + 1) r' (by simpa using hi) (by simpa using hj); omega) (by simpa using h1) (by simpa using h2)
theorem setRoots_spec : ∀ (rs : List Nat) (Os : List (List (Ent B))) {s : S B} {Γ : Gh B}, (∀ r ∈ rs, ∃ t, r = 2 * t + 3 ∧ t < s.bx.length) → (∀ q, s.root q = vs (Γ q)) →
    (∀ q, (s.setRoots rs (Os.map vs)).root q = vs (gCs Γ rs Os q)) ∧ (s.setRoots rs (Os.map vs)).tm = s.tm ∧ (s.setRoots rs (Os.map vs)).bx.length = s.bx.length ∧ (s.setRoots rs (Os.map vs)).hd = s.hd
  | [], Os, s, Γ, _, h => by
    have : s.setRoots [] (Os.map vs) = s := by unfold S.setRoots; rfl
    rw [this]
    exact ⟨fun q => by rw [h]; unfold gCs; rfl, rfl, rfl, rfl⟩
  | r :: rs, [], s, Γ, _, h => ⟨h, rfl, rfl, rfl⟩
  | r :: rs, O :: Os, s, Γ, hr, h => by
    obtain ⟨t, rfl, ht⟩ := hr r (List.mem_cons_self ..)
    have e : s.setRoot (2 * t + 3) (vs O) = { s with bx := setAt s.bx t (vs O) } := by
      show (if (2 * t + 1) % 2 = 0 then _ else _) = _
      rw [if_neg (by omega), show (2 * t + 1) / 2 = t by omega]
    have h1 : ∀ q, (s.setRoot (2 * t + 3) (vs O)).root q = vs (setG Γ (2 * t + 3) O q) := by
      intro q
      rw [e, root_setBx]
      by_cases hq : q = 2 * t + 3
      · subst hq; rw [if_pos ⟨rfl, ht⟩, setG_same]
      · rw [if_neg (fun e => hq e.1), setG_ne _ _ hq, h]
    have hl : (s.setRoot (2 * t + 3) (vs O)).bx.length = s.bx.length := by rw [e]; simp [setAt_eq]
    obtain ⟨k1, k2, k3, k4⟩ := setRoots_spec rs Os (s := s.setRoot (2 * t + 3) (vs O)) (Γ := setG Γ (2 * t + 3) O) (fun r hr' => by
      obtain ⟨t', e1, e2⟩ := hr r (List.mem_cons_of_mem _ hr')
      exact ⟨t', e1, by rw [hl]; exact e2⟩) h1
    exact ⟨k1, k2.trans (by rw [e]), k3.trans hl, k4.trans (by rw [e])⟩
theorem killBs_spec (H : TabE B) : ∀ (rs : List Nat) {s : S B} {Γ : Gh B}, Rel X s a w Γ β → ∃ Γ', Rel X (s.killBs rs) a w Γ' β ∧ Less Γ Γ' ∧ (∀ q, (Γ' q).length = (Γ q).length) ∧ ((s.killBs rs).tm.length = s.tm.length ∧ (s.killBs rs).bx.length = s.bx.length) ∧
    (∀ b, okB X Γ β w b → okB X Γ' β w b) ∧ (∀ (q j : Nat) z, (Γ q)[j]? = some z → ∃ z', (Γ' q)[j]? = some z' ∧ z'.D = z.D) ∧ ∀ q x p, x ∈ Γ' q → Alias x.v p → p.r ∉ rs
  | [], s, Γ, h => ⟨Γ, h, Less.rfl, fun _ => rfl, ⟨rfl, rfl⟩, fun _ h => h, fun _ _ z hz => ⟨z, hz, rfl⟩, fun _ _ _ _ _ h => by cases h⟩
  | r :: rs, s, Γ, h => by
    have hs : ∀ v : VT B, V.killB r v = v ∨ V.killB r v = .dead := by
      intro v
      cases v with
      | «at» p => unfold V.killB; simp only; split <;> simp
      | ptr p => unfold V.killB; simp only; split <;> simp
      | _ => exact .inl rfl
    have ho : ∀ v : VT B, v.isOwn = true → V.killB r v = v := by
      intro v hv
      cases v <;> first | rfl | cases hv
    have h1 := h.map H (V.killB r) hs ho
    obtain ⟨Γ2, m1, m2, m3, m4, m5, m7, m6⟩ := killBs_spec H rs h1
    refine ⟨Γ2, m1, (Less.map (killB_final r) hs).trans m2, fun q => by rw [m3]; simp, ⟨m4.1.trans (by simp [S.map]), m4.2.trans (by simp [S.map])⟩, fun b hb => m5 b ?_, fun q j z hz => ?_, fun q x p hx hp hr => ?_⟩
    · refine hb.imp (Nat.le_refl _) (fun q x hx hd => ?_) (fun t ht e => .inl ⟨by simpa using ht, e⟩)
      obtain ⟨z, hz, rfl⟩ := List.mem_map.1 hx
      exact .inl ⟨q, z, hz, hd⟩
    · obtain ⟨z', e1, e2⟩ := m7 q j { z with v := V.killB r z.v } (by rw [List.getElem?_map, hz]; rfl)
      exact ⟨z', e1, e2⟩
    · rcases List.mem_cons.1 hr with hr | hr
      · -- dead by the first
        obtain ⟨j, hj⟩ := List.getElem?_of_mem hx
        obtain ⟨y0, n1, _, _, _, n2⟩ := m2 q j x hj
        have n3 := n2 p hp
        rw [List.getElem?_map, Option.map_eq_some_iff] at n1
        obtain ⟨z, _, rfl⟩ := n1
        have n4 : Alias (V.killB r z.v) p := n3
        rcases n4 with n4 | ⟨n4, n5⟩
        · cases hz : z.v with
          | «at» p' =>
            rw [hz] at n4
            unfold V.killB at n4
            simp only at n4
            split at n4
            · cases n4
            · rename_i hne
              injection n4 with n4
              subst n4
              exact hne hr
          | ptr p' =>
            rw [hz] at n4
            unfold V.killB at n4
            simp only at n4
            split at n4 <;> cases n4
          | _ => rw [hz] at n4; cases n4
        · cases hz : z.v with
          | ptr p' =>
            rw [hz] at n4
            unfold V.killB at n4
            simp only at n4
            split at n4
            · cases n4
            · rename_i hne
              injection n4 with n4
              subst n4
              exact hne ⟨hr, n5⟩
          | «at» p' =>
            rw [hz] at n4
            unfold V.killB at n4
            simp only at n4
            split at n4 <;> cases n4
          | _ => rw [hz] at n4; cases n4
      · exact m6 q x p hx hp hr
theorem Rel.callH (H : TabE B) (h : Rel X s a w Γ β) {rs : List Nat} {Os : List (List (Ent B))} {E : List (Ent B)} {w' : World} {A ok1 : Nat → Prop}
    (hrs : ∀ r ∈ rs, ∃ t, r = 2 * t + 3 ∧ Γ r ≠ []) (hnd : ∀ (i j r : Nat), rs[i]? = some r → rs[j]? = some r → i = j) (hlen : Os.length = rs.length)
    (hna : ∀ q x p, q ≠ 0 → q ∉ rs → x ∈ Γ q → Alias x.v p → p.r ∉ rs)
    (hok1 : ∀ b, ok1 b → okB X (setG (gCs Γ rs Os) 0 E) β w' b) (hE : ∀ y, y ∈ E ∨ (∃ O ∈ Os, y ∈ O) → FinR w' ok1 y) (disE : Dis E)
    (disO : ∀ (i j k l : Nat) (O O' : List (Ent B)) (x y : Ent B), Os[i]? = some O → Os[j]? = some O' → O[k]? = some x → O'[l]? = some y → ∀ b, x.D b → y.D b → i = j ∧ k = l)
    (disEO : ∀ x ∈ E, ∀ O ∈ Os, ∀ y ∈ O, ∀ b, x.D b → ¬ y.D b)
    (hdlt : ∀ y, y ∈ E ∨ (∃ O ∈ Os, y ∈ O) → ∀ b, y.D b → b < w'.heap.size ∧ (A b ∨ w.heap.size ≤ b))
    (hA : ∀ q y, q ≠ 0 → q ∉ rs → y ∈ Γ q → ∀ b, y.D b → ¬ A b) (hAβ : ∀ t, Γ (2 * t + 3) ≠ [] → 2 * t + 3 ∉ rs → ¬ A (β t)) (hAok : ∀ b, okB X Γ β w b → ¬ A b)
    (hAX : ∀ b, A b → X.A0 b ∨ X.w0.heap.size ≤ b) (hnb : ∀ y, y ∈ E ∨ (∃ O ∈ Os, y ∈ O) → ∀ b, y.D b → ∀ t, 2 * t + 3 ∈ rs → b ≠ β t)
    (hblk : ∀ (i t : Nat) (O : List (Ent B)), rs[i]? = some (2 * t + 3) → Os[i]? = some O → O ≠ [] ∧ ∃ ty, w'.heap[β t]? = some (.cells (csOf O).toArray ty (0, 0)))
    (hkeep : ∀ b, b < w.heap.size → ¬ A b → w'.heap[b]? = w.heap[b]?) (hsz : w.heap.size ≤ w'.heap.size) (hos : w'.os = w.os) (htape : w'.tape = w.tape) (hout : w'.output = w.output) :
    Rel X { s.setRoots rs (Os.map vs) with hd := vs E } a w' (setG (gCs Γ rs Os) 0 E) β := by
  have h0 : 0 ∉ rs := fun e => by obtain ⟨t, e, _⟩ := hrs 0 e; omega
  have hbl : ∀ t, Γ (2 * t + 3) ≠ [] → t < s.bx.length := by
    intro t ht
    rcases Nat.lt_or_ge t s.bx.length with h1 | h1
    · exact h1
    · exfalso
      have := h.root (2 * t + 3)
      rw [root_bx, List.getD_eq_getElem?_getD, List.getElem?_eq_none h1] at this
      apply ht
      exact List.map_eq_nil_iff.1 this.symm
  obtain ⟨r1, r2, r3, r4⟩ := setRoots_spec rs Os (fun r hr => by obtain ⟨t, e1, e2⟩ := hrs r hr; subst e1; exact ⟨t, rfl, hbl t e2⟩) h.root
  -- a root: the hand, a box that was handed on, or as it was
  have cases3 : ∀ q, (q = 0 ∧ setG (gCs Γ rs Os) 0 E q = E) ∨ (∃ (i : Nat) (O : List (Ent B)), q ≠ 0 ∧ rs[i]? = some q ∧ Os[i]? = some O ∧ setG (gCs Γ rs Os) 0 E q = O) ∨ (q ≠ 0 ∧ q ∉ rs ∧ setG (gCs Γ rs Os) 0 E q = Γ q) := by
    intro q
    by_cases hq : q = 0
    · subst hq; exact .inl ⟨rfl, setG_same _ _ _⟩
    · rw [setG_ne _ _ hq]
      by_cases hr : q ∈ rs
      · obtain ⟨i, hi⟩ := List.getElem?_of_mem hr
        have hil : i < Os.length := by rw [hlen]; exact (List.getElem?_eq_some_iff.1 hi).1
        exact .inr (.inl ⟨i, Os[i], hq, hi, List.getElem?_eq_getElem hil, gCs_in rs Os Γ i q _ hnd hi (List.getElem?_eq_getElem hil)⟩)
      · exact .inr (.inr ⟨hq, hr, gCs_out rs Os Γ q hr⟩)
  have hnew : ∀ q x, x ∈ setG (gCs Γ rs Os) 0 E q → (x ∈ E ∨ ∃ O ∈ Os, x ∈ O) ∨ (q ≠ 0 ∧ q ∉ rs ∧ x ∈ Γ q) := by
    intro q x hx
    rcases cases3 q with ⟨_, e⟩ | ⟨i, O, _, _, hO, e⟩ | ⟨h1, h2, e⟩
    · rw [e] at hx; exact .inl (.inl hx)
    · rw [e] at hx; exact .inl (.inr ⟨O, List.mem_of_getElem? hO, hx⟩)
    · rw [e] at hx; exact .inr ⟨h1, h2, hx⟩
  have hbx : ∀ t, setG (gCs Γ rs Os) 0 E (2 * t + 3) ≠ [] → Γ (2 * t + 3) ≠ [] := by
    intro t ht
    rcases cases3 (2 * t + 3) with ⟨e, _⟩ | ⟨i, O, _, hi, _, _⟩ | ⟨_, _, e⟩
    · omega
    · obtain ⟨t', e1, e2⟩ := hrs _ (List.mem_of_getElem? hi)
      exact e2
    · rw [e] at ht; exact ht
  have hbx2 : ∀ t, Γ (2 * t + 3) ≠ [] → setG (gCs Γ rs Os) 0 E (2 * t + 3) ≠ [] := by
    intro t ht
    rcases cases3 (2 * t + 3) with ⟨e, _⟩ | ⟨i, O, _, hi, hO, e⟩ | ⟨_, _, e⟩
    · omega
    · rw [e]; exact (hblk i t O hi hO).1
    · rw [e]; exact ht
  have hsame : ∀ q x, q ≠ 0 → q ∉ rs → x ∈ Γ q → ∀ b, x.D b → w'.heap[b]? = w.heap[b]? := fun q x h1 h2 hx b hb => hkeep b (h.dlt q x b hx hb).1 (hA q x h1 h2 hx b hb)
  have hβlt : ∀ t, Γ (2 * t + 3) ≠ [] → β t < w.heap.size := fun t ht => by
    obtain ⟨ty, hb⟩ := h.bx t ht
    exact (Array.getElem?_eq_some_iff.1 hb).1
  have hok : ∀ b, okB X Γ β w b → okB X (setG (gCs Γ rs Os) 0 E) β w' b ∧ w'.heap[b]? = w.heap[b]? := by
    intro b hb
    refine ⟨hb.imp hsz (fun q x hx hd => ?_) (fun t ht e => .inl ⟨hbx t ht, e⟩), hkeep b hb.1 (hAok b hb)⟩
    rcases hnew q x hx with hx | ⟨_, _, hx⟩
    · rcases (hdlt x hx b hd).2 with h1 | h1
      · exact absurd h1 (hAok b hb)
      · exact .inr h1
    · exact .inl ⟨q, x, hx, hd⟩
  exact {
    dfr := h.dfr
    size := by show (s.setRoots rs (Os.map vs)).tm.length = _; rw [r2]; exact h.size
    bsize := h.pins (s' := { s.setRoots rs (Os.map vs) with hd := vs E }) (Γ' := setG (gCs Γ rs Os) 0 E) (by show (s.setRoots rs (Os.map vs)).tm.length = _; rw [r2]) r3 fun t _ ht => ⟨hbx2 t ht, rfl⟩
    root := by
      intro q
      rw [root_hd]
      by_cases hq : q = 0
      · subst hq; rw [if_pos rfl, setG_same]
      · rw [if_neg hq, setG_ne _ _ hq, r1]
    tm := by
      intro t x c hx hc
      have hx : (s.setRoots rs (Os.map vs)).tm[t]? = some x := hx
      rw [r2] at hx
      have : 2 * t + 2 ∉ rs := fun e => by obtain ⟨t', e, _⟩ := hrs _ e; omega
      rw [setG_ne _ _ (by omega), gCs_out _ _ _ _ this]
      exact h.tm t x c hx hc
    bx := by
      intro t ht
      rcases cases3 (2 * t + 3) with ⟨e, _⟩ | ⟨i, O, _, hi, hO, e⟩ | ⟨_, hr, e⟩
      · omega
      · rw [e]; exact (hblk i t O hi hO).2
      · rw [e] at ht ⊢
        obtain ⟨ty, hb⟩ := h.bx t ht
        exact ⟨ty, (hkeep _ (hβlt t ht) (hAβ t ht hr)).trans hb⟩
    leaf := by
      intro q x hx
      rcases hnew q x hx with hx | ⟨h1, h2, hx⟩
      · exact ((hE x hx).mono hok1).leaf
      · refine (h.leaf q x hx).move H hok (fun _ => hsame q x h1 h2 hx) (fun p z hp hz hzo => ?_) (fun p t hp hst hr hg => ⟨?_, rfl⟩)
        · have e0 := (h.aliasOwn hx hp).1
          have e1 := hna q x p h1 h2 hx hp
          exact ⟨z, by rw [setG_ne _ _ e0, gCs_out _ _ _ _ e1]; exact hz, rfl, rfl, z.D, h.leaf _ z (List.mem_of_getElem? hz), hsame _ z e0 e1 (List.mem_of_getElem? hz)⟩
        · rw [hr] at hg ⊢
          exact hbx2 t hg
    disj := by
      have one : ∀ (q : Nat) (x y : Ent B), (x ∈ E ∨ ∃ O ∈ Os, x ∈ O) → q ≠ 0 → q ∉ rs → y ∈ Γ q → ∀ b, x.D b → ¬ y.D b := by
        intro q x y hx h1 h2 hy b hb hb'
        rcases (hdlt x hx b hb).2 with h3 | h3
        · exact hA q y h1 h2 hy b hb' h3
        · have := (h.dlt q y b hy hb').1; omega
      intro q k q' k' x y hx hy b hb hb'
      rcases cases3 q with ⟨e0, e⟩ | ⟨i, O, e0, hi, hO, e⟩ | ⟨h1, h2, e⟩ <;> rcases cases3 q' with ⟨e0', e'⟩ | ⟨i', O', e0', hi', hO', e'⟩ | ⟨h1', h2', e'⟩ <;> rw [e] at hx <;> rw [e'] at hy
      · exact ⟨e0.trans e0'.symm, disE k k' x y hx hy b hb hb'⟩
      · exact (disEO x (List.mem_of_getElem? hx) O' (List.mem_of_getElem? hO') y (List.mem_of_getElem? hy) b hb hb').elim
      · exact (one q' x y (.inl (List.mem_of_getElem? hx)) h1' h2' (List.mem_of_getElem? hy) b hb hb').elim
      · exact (disEO y (List.mem_of_getElem? hy) O (List.mem_of_getElem? hO) x (List.mem_of_getElem? hx) b hb' hb).elim
      · obtain ⟨f1, f2⟩ := disO i i' k k' O O' x y hO hO' hx hy b hb hb'
        subst f1
        rw [hi] at hi'
        injection hi' with hi'
        exact ⟨hi', f2⟩
      · exact (one q' x y (.inr ⟨O, List.mem_of_getElem? hO, List.mem_of_getElem? hx⟩) h1' h2' (List.mem_of_getElem? hy) b hb hb').elim
      · exact (one q y x (.inl (List.mem_of_getElem? hy)) h1 h2 (List.mem_of_getElem? hx) b hb' hb).elim
      · exact (one q y x (.inr ⟨O', List.mem_of_getElem? hO', List.mem_of_getElem? hy⟩) h1 h2 (List.mem_of_getElem? hx) b hb' hb).elim
      · exact h.disj q k q' k' x y hx hy b hb hb'
    bdisj := by
      intro q x t hx ht hb
      have ht' := hbx t ht
      rcases hnew q x hx with hx | ⟨h1, h2, hx⟩
      · by_cases hr : 2 * t + 3 ∈ rs
        · exact hnb x hx _ hb t hr rfl
        · rcases (hdlt x hx _ hb).2 with h3 | h3
          · exact hAβ t ht' hr h3
          · have := hβlt t ht'; omega
      · exact h.bdisj q x t hx ht' hb
    binj := fun t u ht hu e => h.binj t u (hbx t ht) (hbx u hu) e
    dlt := by
      intro q x b hx hb
      rcases hnew q x hx with hx | ⟨h1, h2, hx⟩
      · obtain ⟨k1, k2⟩ := hdlt x hx b hb
        refine ⟨k1, ?_⟩
        rcases k2 with k2 | k2
        · exact hAX b k2
        · have := h.grow; exact .inr (by omega)
      · have := h.dlt q x b hx hb
        exact ⟨by omega, this.2⟩
    bnd := fun t ht => h.bnd t (hbx t ht)
    grow := Nat.le_trans h.grow hsz
    keep := by
      intro b hb hAb
      refine (hkeep b (Nat.lt_of_lt_of_le hb h.grow) fun e => ?_).trans (h.keep b hb hAb)
      rcases hAX b e with h1 | h1
      · exact hAb h1
      · omega
    os := hos.trans h.os
    tape := htape.trans h.tape
    output := hout.trans h.output
    gh := by
      have h1 : 1 ∉ rs := fun e => by obtain ⟨t, e, _⟩ := hrs 1 e; omega
      rw [setG_ne _ _ (by omega), gCs_out rs Os Γ 1 h1]; exact h.gh
    gl := ⟨fun b hb => (hok b (h.gl.1 b hb)).1, H.glob_keep _ _ h.gl.2 fun b hb => (hok b (h.gl.1 b hb)).2⟩ }
end
end Go.I

/-! ISem30 -/
set_option linter.unusedVariables false
set_option linter.unusedSimpArgs false
namespace Go.I
open Go.RowKit Go.Proofs.YtogfddilolannaaDoorW.PrintWords
section
variable {P : Program} {B : Tab} {M : FuncId → List Md} {F : FuncId → Option (Fi B)} {kl : KL}
variable {X : Base B} {a : Act} {β : Nat → Nat} {s : S B} {w : World} {Γ : Gh B}
/-- Where an argument's leaves come from. -/
def FromA (Γ : Gh B) (β : Nat → Nat) (rs : List Nat) (H0 : List (Ent B)) (A : Arg B) : Prop :=
  (A.b = none ∧ ∀ y ∈ A.E, (∀ b, ¬ y.D b) ∨ y ∈ H0) ∨ ∃ t, A.b = some (β t) ∧ 2 * t + 3 ∈ rs ∧ Γ (2 * t + 3) ≠ [] ∧ A.E = Γ (2 * t + 3)
structure ArgsR (X : Base B) (s : S B) (a : Act) (w : World) (Γ : Gh B) (β : Nat → Nat) (ok : Nat → Prop) (ms : List Md) (ps : List (TypeId × Operand)) (rs : List Nat) (H0 : List (Ent B)) (as : List (WT B)) (As : List (Arg B)) : Prop where
  x : As.map Arg.x = as
  c : As.map Arg.c = ps.map fun p => a.eval p.2
  m : ∀ (i : Nat) A, As[i]? = some A → A.m = ms.getD i .val
  ok : ∀ A ∈ As, A.OK w ok
  bs : As.filterMap (·.b) = rs.map fun r => β ((r - 3) / 2)
  src : ∀ A ∈ As, FromA Γ β rs H0 A
  dis : ∀ (i j k l : Nat) (A A' : Arg B) (x y : Ent B), As[i]? = some A → As[j]? = some A' → A.E[k]? = some x → A'.E[l]? = some y → ∀ b, x.D b → y.D b → i = j ∧ k = l
  binj : ∀ (i j : Nat) (A A' : Arg B) b, As[i]? = some A → As[j]? = some A' → A.b = some b → A'.b = some b → i = j
theorem ArgsR.cons {ok : Nat → Prop} {ms : List Md} {p : TypeId × Operand} {ps : List (TypeId × Operand)} {rs rs' : List Nat} {H0 H1 : List (Ent B)} {as : List (WT B)} {As : List (Arg B)} {A : Arg B}
    (h : ArgsR X s a w Γ β ok (ms.drop 1) ps rs' H1 as As) (hc : A.c = a.eval p.2) (hm : A.m = ms.getD 0 .val) (hok : A.OK w ok) (hb : (A.b.toList ++ rs'.map fun r => β ((r - 3) / 2)) = rs.map fun r => β ((r - 3) / 2))
    (hsub : ∀ r ∈ rs', r ∈ rs) (hH : ∀ y ∈ H1, y ∈ H0) (hsrc : FromA Γ β rs H0 A)
    (hd0 : ∀ (k l : Nat) (x y : Ent B), A.E[k]? = some x → A.E[l]? = some y → ∀ b, x.D b → y.D b → k = l)
    (hd1 : ∀ A' ∈ As, ∀ x ∈ A.E, ∀ y ∈ A'.E, ∀ b, x.D b → ¬ y.D b) (hb1 : ∀ A' ∈ As, ∀ b, A.b = some b → A'.b ≠ some b) : ArgsR X s a w Γ β ok ms (p :: ps) rs H0 (A.x :: as) (A :: As) where
  x := by simp [h.x]
  c := by simp [h.c, hc]
  m := by
    intro i A' hA
    cases i with
    | zero => simp at hA; subst hA; exact hm
    | succ i => rw [h.m i A' (by simpa using hA), drop_getD]
  ok := by
    intro A' hA
    rcases List.mem_cons.1 hA with rfl | hA
    · exact hok
    · exact h.ok A' hA
  bs := by
    rw [← hb, ← h.bs]
    cases hA : A.b <;> simp [hA]
  src := by
    intro A' hA
    rcases List.mem_cons.1 hA with rfl | hA
    · exact hsrc
    · rcases h.src A' hA with ⟨e1, e2⟩ | ⟨t, e1, e2, e3⟩
      · exact .inl ⟨e1, fun y hy => (e2 y hy).imp id (hH y)⟩
      · exact .inr ⟨t, e1, hsub _ e2, e3⟩
  dis := by
    intro i j k l A1 A2 x y h1 h2 hx hy b hb hb'
    cases i with
    | zero =>
      simp at h1
      subst h1
      cases j with
      | zero =>
        simp at h2
        subst h2
        exact ⟨rfl, hd0 k l x y hx hy b hb hb'⟩
      | succ j => exact (hd1 A2 (List.mem_of_getElem? (by simpa using h2)) x (List.mem_of_getElem? hx) y (List.mem_of_getElem? hy) b hb hb').elim
    | succ i =>
      cases j with
      | zero =>
        simp at h2
        subst h2
        exact (hd1 A1 (List.mem_of_getElem? (by simpa using h1)) y (List.mem_of_getElem? hy) x (List.mem_of_getElem? hx) b hb' hb).elim
      | succ j =>
        obtain ⟨e1, e2⟩ := h.dis i j k l A1 A2 x y (by simpa using h1) (by simpa using h2) hx hy b hb hb'
        exact ⟨by omega, e2⟩
  binj := by
    intro i j A1 A2 b h1 h2 hb hb'
    cases i with
    | zero =>
      simp at h1
      subst h1
      cases j with
      | zero => rfl
      | succ j => exact absurd hb' (hb1 A2 (List.mem_of_getElem? (by simpa using h2)) b hb)
    | succ i =>
      cases j with
      | zero =>
        simp at h2
        subst h2
        exact absurd hb (hb1 A1 (List.mem_of_getElem? (by simpa using h1)) b hb')
      | succ j =>
        have := h.binj i j A1 A2 b (by simpa using h1) (by simpa using h2) hb hb'
        omega
theorem nodup_spec : ∀ (rs : List Nat), nodup rs = true → ∀ (i j r : Nat), rs[i]? = some r → rs[j]? = some r → i = j
  | [], _, i, j, r, h, _ => by simp at h
  | q :: rs, h, i, j, r, hi, hj => by
    simp only [nodup, Bool.and_eq_true, Bool.not_eq_true'] at h
    have hq : q ∉ rs := fun e => by
      have := h.1
      rw [List.contains_iff_mem.2 e] at this
      cases this
    cases i with
    | zero =>
      simp at hi
      subst hi
      cases j with
      | zero => rfl
      | succ j => exact absurd (List.mem_of_getElem? (by simpa using hj)) hq
    | succ i =>
      cases j with
      | zero =>
        simp at hj
        subst hj
        exact absurd (List.mem_of_getElem? (by simpa using hi)) hq
      | succ j => rw [nodup_spec rs h.2 i j r (by simpa using hi) (by simpa using hj)]
/-- The arguments, as the callee holds them. -/
theorem argsOf_spec (H : TabE B) (h : Rel X s a w Γ β) (ls : List (VT B)) : ∀ (ps : List (TypeId × Operand)) (ms : List Md) (fs : List (WT B)) (css : List (List Value)) (H0 : List (Ent B)) (as : List (WT B)),
    (∀ (i : Nat) p, ps[i]? = some p → ∃ f cs, fs[i]? = some f ∧ css[i]? = some cs ∧ (ms.getD i .val = .own → WR f (a.eval p.2) cs ∧ f.leaves.length = cs.length) ∧ (ms.getD i .val ≠ .own → cs = [])) →
    css.length = ps.length → (∀ y ∈ H0, y ∈ Γ 0) → Dis H0 → csOf H0 = css.flatten → nodup (boxesOf ms (ps.map fun p => s.peek p.1 p.2)) = true → (∀ v ∈ lent ms (ps.map fun p => s.peek p.1 p.2), v ∈ ls) →
    argsOf std s ms (ps.map fun p => s.peek p.1 p.2) fs (vs H0) = some as →
    ∃ As, ArgsR X s a w Γ β (fun b => okB X Γ β w b ∨ LentD Γ ls b) ms ps (boxesOf ms (ps.map fun p => s.peek p.1 p.2)) H0 as As
  | [], ms, fs, css, H0, as, _, _, _, _, _, _, _, hg => by
    simp only [List.map_nil, argsOf, Option.some.injEq] at hg
    subst hg
    exact ⟨[], { x := rfl, c := rfl, m := (fun i A h => by simp at h), ok := (fun A h => by cases h), bs := rfl, src := (fun A h => by cases h), dis := (fun i j k l A A' x y h => by simp at h), binj := (fun i j A A' b h => by simp at h) }⟩
  | p :: ps, ms, fs, css, H0, as, hf, hcl, hH, hD, hcs, hnd, hls, hg => by
    obtain ⟨f, cs, f1, f2, f3, f4⟩ := hf 0 p rfl
    obtain ⟨fs', rfl⟩ : ∃ fs', fs = f :: fs' := by
      cases fs with
      | nil => simp at f1
      | cons g fs' => simp at f1; subst f1; exact ⟨fs', rfl⟩
    obtain ⟨css', rfl⟩ : ∃ css', css = cs :: css' := by
      cases css with
      | nil => simp at f2
      | cons g css' => simp at f2; subst f2; exact ⟨css', rfl⟩
    have hf' : ∀ (i : Nat) p, ps[i]? = some p → ∃ f cs, fs'[i]? = some f ∧ css'[i]? = some cs ∧ ((ms.drop 1).getD i .val = .own → WR f (a.eval p.2) cs ∧ f.leaves.length = cs.length) ∧ ((ms.drop 1).getD i .val ≠ .own → cs = []) := by
      intro i p hp
      obtain ⟨f, cs, k1, k2, k3, k4⟩ := hf (i + 1) p (by simpa using hp)
      rw [drop_getD]
      exact ⟨f, cs, by simpa using k1, by simpa using k2, k3, k4⟩
    have hcl' : css'.length = ps.length := by simpa using hcl
    obtain ⟨Ep, hEp⟩ := h.peek p.1 p.2
    simp only [List.map_cons, argsOf] at hg
    split at hg
    · -- handed over
      rename_i hm
      have hm0 : ms.getD 0 .val = .own := by rw [← head_getD]; exact hm
      simp only [List.headD_cons, List.drop_succ_cons, List.drop_zero] at hg
      split at hg
      · rename_i hfin
        simp only [Option.map_eq_some_iff] at hg
        obtain ⟨as', h1, rfl⟩ := hg
        obtain ⟨w1, w2⟩ := f3 hm0
        have eb : boxesOf ms ((p :: ps).map fun p => s.peek p.1 p.2) = boxesOf (ms.drop 1) (ps.map fun p => s.peek p.1 p.2) := by
          simp only [List.map_cons, boxesOf, hm]
        have el : lent ms ((p :: ps).map fun p => s.peek p.1 p.2) = lent (ms.drop 1) (ps.map fun p => s.peek p.1 p.2) := by
          simp only [List.map_cons, lent, hm]
        have ev : (vs H0).drop f.leaves.length = vs (H0.drop f.leaves.length) := by simp [vs, List.map_drop]
        have et : (vs H0).take f.leaves.length = vs (H0.take f.leaves.length) := by simp [vs, List.map_take]
        have ec : csOf (H0.take f.leaves.length) = cs := by rw [csOf_take, hcs, List.flatten_cons, w2, List.take_left' rfl]
        have ec' : csOf (H0.drop f.leaves.length) = css'.flatten := by rw [csOf_drop, hcs, List.flatten_cons, w2, List.drop_left' rfl]
        rw [ev] at h1
        rw [et] at hfin
        rw [eb] at hnd
        rw [el] at hls
        obtain ⟨As, hAs⟩ := argsOf_spec H h ls ps (ms.drop 1) fs' css' (H0.drop f.leaves.length) as' hf' hcl' (fun y hy => hH y (List.mem_of_mem_drop hy)) (fun j k x y hx hy b hb hb' => by
          rw [List.getElem?_drop] at hx hy
          have := hD _ _ x y hx hy b hb hb'
          omega) ec' hnd hls h1
        have hlen : (vs (H0.take f.leaves.length)).length = f.leaves.length := by rw [vs_length, ← cs_length, ec, w2]
        refine ⟨⟨.own, f.remake (vs (H0.take f.leaves.length)), a.eval p.2, H0.take f.leaves.length, none⟩ :: As, ?_⟩
        rw [et, eb]
        refine hAs.cons (A := ⟨.own, f.remake (vs (H0.take f.leaves.length)), a.eval p.2, H0.take f.leaves.length, none⟩) rfl hm0.symm ⟨fun y hy => ?_, rfl, remake_leaves _ _ hlen, ?_⟩ rfl (fun r hr => hr) (fun y hy => List.mem_of_mem_drop hy) (.inl ⟨rfl, fun y hy => .inr (List.mem_of_mem_take hy)⟩) ?_ ?_ (fun A' hA b hb => by cases hb)
        · have hy0 := hH y (List.mem_of_mem_take hy)
          exact (LeafR.fin (h.leaf 0 y hy0) (List.all_eq_true.1 hfin y.v (List.mem_map.2 ⟨y, hy, rfl⟩))).mono fun b hb => .inl hb
        · show WR (f.remake _) (a.eval p.2) (csOf (H0.take f.leaves.length))
          rw [ec]
          exact w1.remake hlen
        · intro k l x y hx hy b hb hb'
          have hx : (H0.take f.leaves.length)[k]? = some x := hx
          have hy : (H0.take f.leaves.length)[l]? = some y := hy
          rw [List.getElem?_take] at hx hy
          split at hx <;> split at hy
          · exact hD k l x y hx hy b hb hb'
          · cases hy
          · cases hx
          · cases hx
        · intro A' hA x hx y hy b hb hb'
          have hx : x ∈ H0.take f.leaves.length := hx
          rcases hAs.src A' hA with ⟨_, e2⟩ | ⟨t, _, _, _, e3⟩
          · rcases e2 y hy with e2 | e2
            · exact e2 b hb'
            · obtain ⟨i, hi⟩ := List.getElem?_of_mem hx
              obtain ⟨j, hj⟩ := List.getElem?_of_mem e2
              rw [List.getElem?_take] at hi
              split at hi
              · rw [List.getElem?_drop] at hj
                have := hD _ _ x y hi hj b hb hb'
                omega
              · cases hi
          · rw [e3] at hy
            obtain ⟨i, hi⟩ := List.getElem?_of_mem (hH x (List.mem_of_mem_take hx))
            obtain ⟨j, hj⟩ := List.getElem?_of_mem hy
            have := (h.disj 0 i _ j x y hi hj b hb hb').1
            omega
      · cases hg
    · -- lent
      rename_i hm
      have hm0 : ms.getD 0 .val = .val := by rw [← head_getD]; exact hm
      have hcs0 : cs = [] := f4 (by rw [hm0]; simp)
      subst hcs0
      simp only [List.drop_succ_cons, List.drop_zero] at hg
      split at hg
      · rename_i hfin
        simp only [Option.map_eq_some_iff] at hg
        obtain ⟨as', h1, rfl⟩ := hg
        have eb : boxesOf ms ((p :: ps).map fun p => s.peek p.1 p.2) = boxesOf (ms.drop 1) (ps.map fun p => s.peek p.1 p.2) := by
          simp only [List.map_cons, boxesOf, hm]
        have el : lent ms ((p :: ps).map fun p => s.peek p.1 p.2) = (s.peek p.1 p.2).leaves ++ lent (ms.drop 1) (ps.map fun p => s.peek p.1 p.2) := by
          simp only [List.map_cons, lent, hm]
        rw [eb] at hnd
        rw [el] at hls
        obtain ⟨As, hAs⟩ := argsOf_spec H h ls ps (ms.drop 1) fs' css' H0 as' hf' hcl' hH hD (by rw [hcs]; rfl) hnd (fun v hv => hls v (List.mem_append.2 (.inr hv))) h1
        refine ⟨⟨.val, (s.peek p.1 p.2).map (V.borrow std s), a.eval p.2, Ep.map fun y => ⟨V.borrow std s y.v, y.c, none_⟩, none⟩ :: As, ?_⟩
        rw [eb]
        have hcsE : csOf (Ep.map fun y : Ent B => (⟨V.borrow std s y.v, y.c, none_⟩ : Ent B)) = csOf Ep := by simp [csOf, Function.comp_def]
        refine hAs.cons (A := ⟨.val, (s.peek p.1 p.2).map (V.borrow std s), a.eval p.2, Ep.map fun y => ⟨V.borrow std s y.v, y.c, none_⟩, none⟩) rfl hm0.symm ⟨fun y hy => ?_, rfl, ?_, ?_⟩ rfl (fun r hr => hr) (fun y hy => hy) (.inl ⟨rfl, fun y hy => .inl fun b hb => ?_⟩) ?_ ?_ (fun A' hA b hb => by cases hb)
        · obtain ⟨z, hz, rfl⟩ := List.mem_map.1 hy
          have hzl : z.v ∈ (s.peek p.1 p.2).leaves := by rw [hEp.lv]; exact List.mem_map.2 ⟨z, hz, rfl⟩
          exact h.borrow H (hEp.lf z hz).1 (hEp.lf z hz).2 (List.all_eq_true.1 hfin _ (List.mem_map.2 ⟨z.v, hzl, rfl⟩)) (hls z.v (List.mem_append.2 (.inl hzl)))
        · show (W.map (V.borrow std s) (s.peek p.1 p.2)).leaves = _
          rw [map_leaves, hEp.lv]
          simp [vs, Function.comp_def]
        · show WR (W.map (V.borrow std s) (s.peek p.1 p.2)) _ (csOf (Ep.map fun y : Ent B => (⟨V.borrow std s y.v, y.c, none_⟩ : Ent B)))
          rw [hcsE]
          exact hEp.wr.map
        · obtain ⟨z, hz, rfl⟩ := List.mem_map.1 hy
          exact hb
        · intro k l x y hx hy b hb hb'
          obtain ⟨z, hz, rfl⟩ := List.mem_map.1 (List.mem_of_getElem? hx)
          exact hb.elim
        · intro A' hA x hx y hy b hb hb'
          obtain ⟨z, hz, rfl⟩ := List.mem_map.1 hx
          exact hb.elim
      · cases hg
    · -- a box
      rename_i n hm
      have hm0 : ms.getD 0 .val = .ptr n := by rw [← head_getD]; exact hm
      have hcs0 : cs = [] := f4 (by rw [hm0]; simp)
      subst hcs0
      simp only [List.drop_succ_cons, List.drop_zero] at hg
      split at hg
      · rename_i r hpk
        split at hg
        · rename_i hc
          obtain ⟨c1, c2, c3, c4⟩ := hc
          simp only [Option.map_eq_some_iff] at hg
          obtain ⟨as', h1, rfl⟩ := hg
          have eb : boxesOf ms ((p :: ps).map fun p => s.peek p.1 p.2) = r :: boxesOf (ms.drop 1) (ps.map fun p => s.peek p.1 p.2) := by
            simp only [List.map_cons, boxesOf, hm, hpk]
          have el : lent ms ((p :: ps).map fun p => s.peek p.1 p.2) = lent (ms.drop 1) (ps.map fun p => s.peek p.1 p.2) := by
            simp only [List.map_cons, lent, hm]
          rw [eb] at hnd
          have hnd0 := nodup_spec _ hnd
          simp only [nodup, Bool.and_eq_true] at hnd
          rw [el] at hls
          obtain ⟨As, hAs⟩ := argsOf_spec H h ls ps (ms.drop 1) fs' css' H0 as' hf' hcl' hH hD (by rw [hcs]; rfl) hnd.2 hls h1
          rw [hpk] at hEp
          obtain ⟨D, hl, _, _⟩ := hEp.one
          obtain ⟨t, rt, hne, hcv⟩ := hl
          simp only at rt hne hcv
          subst rt
          have hroot : s.root (2 * t + 3) = vs (Γ (2 * t + 3)) := h.root _
          have hsep : ∀ t', 2 * t' + 3 ∈ boxesOf (ms.drop 1) (ps.map fun p => s.peek p.1 p.2) → t' ≠ t := by
            rintro t' ht' rfl
            obtain ⟨j, hj⟩ := List.getElem?_of_mem ht'
            have := hnd0 0 (j + 1) (2 * t' + 3) rfl (by simpa using hj)
            omega
          refine ⟨⟨.ptr n, .agg (s.root (2 * t + 3)), a.eval p.2, Γ (2 * t + 3), some (β t)⟩ :: As, ?_⟩
          rw [eb]
          obtain ⟨ty, hbk⟩ := h.bx t hne
          refine hAs.cons (A := ⟨.ptr n, .agg (s.root (2 * t + 3)), a.eval p.2, Γ (2 * t + 3), some (β t)⟩) rfl hm0.symm ⟨fun y hy => ?_, β t, ty, rfl, by rw [hroot], hne, hcv, hbk⟩ ?_ (fun r hr => List.mem_cons_of_mem _ hr) (fun y hy => hy) (.inr ⟨t, rfl, List.mem_cons_self .., hne, rfl⟩) ?_ ?_ ?_
          · rw [hroot] at c3
            exact (LeafR.fin (h.leaf _ y hy) (List.all_eq_true.1 c3 y.v (List.mem_map.2 ⟨y, hy, rfl⟩))).mono fun b hb => .inl hb
          · show [β t] ++ _ = _
            rw [List.map_cons, show (2 * t + 3 - 3) / 2 = t by omega]
            rfl
          · intro k l x y hx hy b hb hb'
            exact (h.disj _ k _ l x y hx hy b hb hb').2
          · intro A' hA x hx y hy b hb hb'
            obtain ⟨i, hi⟩ := List.getElem?_of_mem hx
            rcases hAs.src A' hA with ⟨_, e2⟩ | ⟨t', _, e2, _, e3⟩
            · rcases e2 y hy with e2 | e2
              · exact e2 b hb'
              · obtain ⟨j, hj⟩ := List.getElem?_of_mem (hH y e2)
                have := (h.disj _ i 0 j x y hi hj b hb hb').1
                omega
            · rw [e3] at hy
              obtain ⟨j, hj⟩ := List.getElem?_of_mem hy
              have := (h.disj _ i _ j x y hi hj b hb hb').1
              exact hsep t' e2 (by omega)
          · intro A' hA b hb hb'
            injection hb with hb
            subst hb
            rcases hAs.src A' hA with ⟨e1, _⟩ | ⟨t', e1, e2, e3, _⟩
            · rw [e1] at hb'; cases hb'
            · rw [e1] at hb'
              injection hb' with hb'
              exact hsep t' e2 (h.binj t' t e3 hne hb')
        · cases hg
      · cases hg
end
end Go.I

/-! ISem31 -/
set_option linter.unusedVariables false
set_option linter.unusedSimpArgs false
namespace Go.I
open Go.RowKit Go.Proofs.YtogfddilolannaaDoorW.PrintWords
section
variable {P : Program} {B : Tab} {M : FuncId → List Md} {F : FuncId → Option (Fi B)} {kl : KL}
variable {X : Base B} {s : S B} {a : Act} {w : World} {Γ : Gh B} {β : Nat → Nat} {o : Oper} {n : Nat} {k : S B → Tr B} {r : Res B} {Q : Exit → Act → World → Prop}
/-- What the told functions are in the program. -/
def FunOK (P : Program) (F : FuncId → Option (Fi B)) : Prop := ∀ f fi, F f = some fi → P.funcs[f]? = some fi.fn ∧ fi.fn.body = some fi.body ∧ (fi.fn.name == "runtime.NumGoroutine") = false ∧ drOK fi.kills fi.body = true
theorem run_enter {f : FuncId} {fn : Func} {c : Code} (hf : P.funcs[f]? = some fn) (hb : fn.body = some c) (hn : (fn.name == "runtime.NumGoroutine") = false) {args : Array Operand} {ats : Array TypeId}
    {fx : Operand} (ho : o.op = .call { callee := .value fx, args := args, argTypes := ats }) (e : a.eval fx = .func (.func f) #[] #[]) (w : World) : (execOp a.eval o).run P w = .ok (.enter f (args.map a.eval)) w := by
  have hn' : ¬ fn.name = "runtime.NumGoroutine" := by simpa using hn
  simp [execOp, ho, resolve, e, Deferred.ofValue, invoke, callFunc, hf, hn', hb]
/-- What is told of functions besides holds. -/
def ConOK (P : Program) (B : Tab) (M : FuncId → List Md) (F : FuncId → Option (Fi B)) : Prop :=
  ∀ f fi, F f = some fi → ∀ (As : List (Arg B)) (w : World) (ok0 : Nat → Prop) (r : Res B), Modes (M f) As → Pre w ok0 As → fi.con (As.map (·.x)) r →
    Calls P f (As.map (·.c)).toArray w fun
      | .returned v, w1 => ∃ E Os, Post (B.gives f) w ok0 As r v w1 E Os
      | _, _ => False
theorem call_inv {n : Nat} {f : FuncId} {as : List (WT B)} {k : Res B → Tr B} {r : Res B} (h : G std M F n kl (.call f as k) r) :
    ∃ n' fi r1, n = n' + 1 ∧ F f = some fi ∧ (G std M F n' fi.kills (den std M fi.kills fi.fn fi.body (B.gives f) (M f) as) r1 ∨ fi.con as r1) ∧ G std M F n' kl (k r1) r := by
  cases h with
  | @call n' _ _ _ _ fi r1 _ hf hc hk => exact ⟨n', fi, r1, rfl, hf, .inl hc, hk⟩
  | @ext n' _ _ _ _ fi r1 _ hf hc hk => exact ⟨n', fi, r1, rfl, hf, .inr hc, hk⟩
theorem lent_apart {rs : List Nat} {ls : List (VT B)} (h : ls.all (apart rs) = true) {p : Place} (hp : .at p ∈ ls) : p.r ∉ rs ∧ p.r ≠ 0 := by
  have := List.all_eq_true.1 h _ hp
  simp only [apart, Bool.and_eq_true, Bool.not_eq_true', bne_iff_ne, ne_eq] at this
  refine ⟨fun e => ?_, this.2⟩
  have h1 := this.1
  rw [List.contains_iff_mem.2 e] at h1
  cases h1
theorem boxes_src {ms : List Md} {ps : List (TypeId × Operand)} {rs : List Nat} {H0 : List (Ent B)} {as : List (WT B)} {As : List (Arg B)} {ok : Nat → Prop} (hA : ArgsR X s a w Γ β ok ms ps rs H0 as As) (hnd : nodup rs = true)
    (hodd : ∀ r ∈ rs, ∃ t, r = 2 * t + 3 ∧ Γ (2 * t + 3) ≠ []) (binj : ∀ t u, Γ (2 * t + 3) ≠ [] → Γ (2 * u + 3) ≠ [] → β t = β u → t = u) : ∀ r ∈ rs, ∃ t A, r = 2 * t + 3 ∧ A ∈ As ∧ A.b = some (β t) ∧ Γ (2 * t + 3) ≠ [] ∧ A.E = Γ (2 * t + 3) := by
  intro r hr
  obtain ⟨t, rfl, ht⟩ := hodd r hr
  have : β t ∈ As.filterMap (·.b) := by
    rw [hA.bs, List.mem_map]
    exact ⟨_, hr, by rw [show (2 * t + 3 - 3) / 2 = t by omega]⟩
  obtain ⟨A, hA1, hA2⟩ := List.mem_filterMap.1 this
  rcases hA.src A hA1 with ⟨e1, _⟩ | ⟨t', e1, e2, e3, e4⟩
  · rw [e1] at hA2; cases hA2
  · rw [e1] at hA2
    injection hA2 with hA2
    have := binj t' t e3 ht hA2
    subst this
    exact ⟨t', A, rfl, hA1, e1, e3, e4⟩
theorem boxesOf_odd (h : Rel X s a w Γ β) : ∀ (ps : List (TypeId × Operand)) (ms : List Md) (fs : List (WT B)) (hd : List (VT B)) (as : List (WT B)), argsOf std s ms (ps.map fun p => s.peek p.1 p.2) fs hd = some as →
    ∀ r ∈ boxesOf ms (ps.map fun p => s.peek p.1 p.2), ∃ t, r = 2 * t + 3 ∧ Γ (2 * t + 3) ≠ []
  | [], ms, fs, hd, as, _, r, hr => by simp [boxesOf] at hr
  | p :: ps, ms, fs, hd, as, hg, r, hr => by
    simp only [List.map_cons, argsOf] at hg
    simp only [List.map_cons, boxesOf] at hr
    split at hg
    · rename_i hm
      simp only [hm] at hr
      split at hg
      · simp only [Option.map_eq_some_iff] at hg
        obtain ⟨as', h1, _⟩ := hg
        exact boxesOf_odd h ps _ _ _ as' h1 r hr
      · cases hg
    · rename_i hm
      simp only [hm] at hr
      split at hg
      · simp only [Option.map_eq_some_iff] at hg
        obtain ⟨as', h1, _⟩ := hg
        exact boxesOf_odd h ps _ _ _ as' h1 r hr
      · cases hg
    · rename_i n hm
      simp only [hm] at hr
      split at hg
      · rename_i r0 hpk
        split at hg
        · simp only [Option.map_eq_some_iff] at hg
          obtain ⟨as', h1, _⟩ := hg
          rw [hpk] at hr
          simp only [List.mem_cons] at hr
          rcases hr with rfl | hr
          · obtain ⟨Ep, hEp⟩ := h.peek p.1 p.2
            rw [hpk] at hEp
            obtain ⟨D, hl, _, _⟩ := hEp.one
            obtain ⟨t, rt, hne, _⟩ := hl
            simp only at rt hne
            subst rt
            exact ⟨t, rfl, hne⟩
          · exact boxesOf_odd h ps _ _ _ as' h1 r hr
        · cases hg
      · cases hg
theorem same_cells {x y : WT B} {c : Value} {cs cs' : List Value} (hx : WR x c cs) (hy : WR y c cs') (hs : x.same y = true) : cs = cs' := by
  cases x with
  | one v => cases y with
    | one u => exact (show cs = [c] from hx).trans (show cs' = [c] from hy).symm
    | _ => cases hs
  | agg l => cases y with
    | agg m =>
      have h1 : c = .agg cs.toArray := hx
      have h2 : c = .agg cs'.toArray := hy
      rw [h1] at h2
      injection h2 with h2
      injection h2
    | _ => cases hs
  | tup l => cases y <;> cases hs
/-- The cells at a place that is a tmp's or the first parameter's are what they were. -/
theorem place_cells {s0 s : S B} {w0 w1 : World} {Γ0 Γ : Gh B} {β0 β : Nat → Nat} (h0 : Rel X s0 a w0 Γ0 β0) (h : Rel X s a w1 Γ β) {r : Nat}
    (hbx : ∀ t, Γ (2 * t + 3) ≠ [] → w1.heap[β t]? = w0.heap[β0 t]?) (hn : Γ r ≠ [] ∧ Γ0 r ≠ [])
    (hr : r = 1 ∨ (r ≠ 0 ∧ r % 2 = 0 ∧ (s0.tm.getD ((r - 2) / 2) (.tup [])).same (s.tm.getD ((r - 2) / 2) (.tup [])) = true) ∨ (3 ≤ r ∧ r % 2 = 1)) : csOf (Γ r) = csOf (Γ0 r) := by
  rcases hr with rfl | ⟨hr0, hr2, hs⟩ | ⟨hr0, hr2⟩
  · exact h.gh.trans h0.gh.symm
  rotate_left
  · obtain ⟨t, rfl⟩ : ∃ t, r = 2 * t + 3 := ⟨(r - 3) / 2, by omega⟩
    obtain ⟨ty, e1⟩ := h.bx t hn.1
    obtain ⟨ty', e2⟩ := h0.bx t hn.2
    rw [hbx t hn.1, e2] at e1
    injection e1 with e1
    injection e1 with e1
    injection e1 with e1
    exact e1.symm
  · obtain ⟨t, rfl⟩ : ∃ t, r = 2 * t + 2 := ⟨(r - 2) / 2, by omega⟩
    rw [show (2 * t + 2 - 2) / 2 = t by omega] at hs
    cases hx : s0.tm[t]? with
    | none => rw [List.getD_eq_getElem?_getD, hx] at hs; cases hs
    | some x =>
    cases hy : s.tm[t]? with
    | none => rw [List.getD_eq_getElem?_getD, List.getD_eq_getElem?_getD, hx, hy] at hs; cases x <;> cases hs
    | some y =>
    rw [List.getD_eq_getElem?_getD, List.getD_eq_getElem?_getD, hx, hy] at hs
    have ht : t < a.tmps.size := by rw [← h.size]; exact (List.getElem?_eq_some_iff.1 hy).1
    exact (same_cells (h0.tm t x _ hx (Array.getElem?_eq_getElem ht)) (h.tm t y _ hy (Array.getElem?_eq_getElem ht)) hs).symm
theorem final_kill {r k : Nat} {v : VT B} (h : v.final = true) : V.kill r k v = v := by
  cases v <;> first | rfl | cases h
theorem Rel.back1 (H : TabE B) {s0 s s' : S B} {w0 w1 : World} {Γ0 Γ : Gh B} {β0 β : Nat → Nat} (h0 : Rel X s0 a w0 Γ0 β0) (h : Rel X s a w1 Γ β) {y e0 : Ent B} {rest : List (Ent B)} (hl : LeafR X (okB X Γ0 β0 w0) Γ0 β0 w0 y.v y.c y.D)
    (hbx : ∀ t, Γ (2 * t + 3) ≠ [] → w1.heap[β t]? = w0.heap[β0 t]?) (hΓ : Γ 0 = e0 :: rest) (hc : e0.c = y.c) (hfin : ∀ z ∈ Γ 0, z.v.final = true) (hg : S.back1 s0 s y.v = some s') :
    ∃ Γ', Rel X s' a w1 Γ' β ∧ csOf (Γ' 0) = csOf rest ∧ (∀ z ∈ Γ' 0, z.v.final = true) ∧ s'.tm.length = s.tm.length ∧ ∀ t, Γ' (2 * t + 3) ≠ [] → Γ (2 * t + 3) ≠ [] := by
  have hhd : s.hd = e0.v :: vs rest := by rw [show s.hd = vs (Γ 0) from h.root 0, hΓ]; rfl
  unfold S.back1 at hg
  rw [hhd] at hg
  simp only at hg
  split at hg
  · rename_i r k hv
    split at hg
    · rename_i hcond
      obtain ⟨hr, hk⟩ := hcond
      injection hg with hg
      rw [hv] at hl
      obtain ⟨hr0, x, hx, hxo, hxc⟩ := hl
      have hxc : y.c = x.c := hxc.1
      have hkΓ : k < (Γ r).length := by rw [h.root, vs_length] at hk; exact hk
      have hcells := place_cells h0 h hbx ⟨List.ne_nil_of_length_pos (by omega), List.ne_nil_of_length_pos (by have := (List.getElem?_eq_some_iff.1 hx).1; simp only at this; omega)⟩ hr
      obtain ⟨z, hz⟩ : ∃ z, (Γ r)[k]? = some z := ⟨_, List.getElem?_eq_getElem hkΓ⟩
      have hzc : z.c = y.c := by
        have e1 : (csOf (Γ r))[k]? = some z.c := by simp [csOf, hz]
        have e2 : (csOf (Γ0 r))[k]? = some x.c := by simp only [csOf, List.getElem?_map]; rw [hx]; rfl
        rw [hcells, e2] at e1
        injection e1 with e1
        rw [hxc, e1]
      have h1 := h.map H (V.kill r k) (kill_same r k) (kill_own r k)
      generalize hG1 : (fun q => (Γ q).map fun x : Ent B => { x with v := V.kill r k x.v }) = Γk at h1
      have hk1 : (Γk r)[k]? = some { z with v := V.kill r k z.v } := by rw [← hG1]; simp [hz]
      have hk0 : Γk 0 = e0 :: rest := by
        rw [← hG1, ← hΓ]
        show (Γ 0).map _ = _
        refine (List.map_congr_left fun u hu => ?_).trans (List.map_id _)
        rw [final_kill (hfin u hu)]; rfl
      have hle : LeafR X (okB X Γk β w1) Γk β w1 e0.v e0.c e0.D := h1.leaf 0 e0 (by rw [hk0]; simp)
      have hf0 : e0.v.final = true := hfin e0 (by rw [hΓ]; simp)
      have hokp : ∀ b, okB X Γk β w1 b → okB X (putG Γk 1 r k ⟨e0.v, e0.c, e0.D⟩) β w1 b := by
        intro b hb
        refine hb.imp (Nat.le_refl _) (fun q u hu hd => ?_) (fun t ht he => .inl ⟨?_, he⟩)
        · unfold putG at hu
          by_cases hq : q = r
          · subst hq
            rw [setG_same] at hu
            rcases List.mem_or_eq_of_mem_set hu with hu | rfl
            · exact .inl ⟨q, u, hu, hd⟩
            · exact .inl ⟨0, e0, by rw [hk0]; simp, hd⟩
          · rw [setG_ne _ _ hq] at hu
            by_cases hq0 : q = 0
            · subst hq0
              rw [setG_same] at hu
              exact .inl ⟨0, u, List.mem_of_mem_drop hu, hd⟩
            · rw [setG_ne _ _ hq0] at hu
              exact .inl ⟨q, u, hu, hd⟩
        · unfold putG at ht
          by_cases hq : 2 * t + 3 = r
          · subst hq; rw [setG_same] at ht; simpa using ht
          · rwa [setG_ne _ _ hq, setG_ne _ _ (by omega)] at ht
      have h2 := h1.setL H (m := 1) (w' := w1) hr0 hk1 (v := e0.v) (c := e0.c) (D := e0.D)
        (fun q u p hu hp => by
          rw [← hG1] at hu
          obtain ⟨u', _, rfl⟩ := List.mem_map.1 hu
          exact .inl (kill_alias hp))
        ((LeafR.fin hle hf0).mono hokp).leaf
        (fun _ => hc.trans hzc.symm)
        (fun b hb => .inr (.inl ⟨e0, by rw [hk0]; simp, hb⟩))
        (fun _ _ _ _ => rfl)
        (fun t ty (ht : r = 2 * t + 3) hb => by
          have e3 : csOf ((Γk r).set k ⟨e0.v, e0.c, e0.D⟩) = csOf (Γk r) := by
            refine List.ext_getElem? fun i => ?_
            simp only [csOf, List.map_set]
            rw [List.getElem?_set]
            by_cases hi : k = i
            · subst hi
              have hyk := (List.getElem?_eq_some_iff.1 hk1).2
              have hlk := (List.getElem?_eq_some_iff.1 hk1).1
              simp [hlk, hyk, hc.trans hzc.symm]
            · rw [if_neg hi]
          rw [e3]; exact hb)
        (Nat.le_refl _) rfl rfl rfl (.inr rfl)
      have hs1 : s' = ({ s.map (V.kill r k) with hd := (s.map (V.kill r k)).hd.drop 1 } : S B).setLeaf r k e0.v := by
        rw [← hg]
        have e1 : (({ s with hd := vs rest } : S B).kill r k) = { s.map (V.kill r k) with hd := (s.map (V.kill r k)).hd.drop 1 } := by
          show ({ s with hd := vs rest } : S B).map (V.kill r k) = _
          simp only [S.map, hhd, List.map_cons, List.drop_succ_cons, List.drop_zero]
        rw [e1]
      rw [hs1]
      have hp0 : putG Γk 1 r k ⟨e0.v, e0.c, e0.D⟩ 0 = rest := by
        unfold putG
        rw [setG_ne _ _ (fun e => hr0 e.symm), setG_same, hk0]; rfl
      refine ⟨_, h2, by rw [hp0], fun u hu => ?_, ?_, fun t ht => ?_⟩
      · rw [hp0] at hu
        exact hfin u (by rw [hΓ]; exact List.mem_cons_of_mem _ hu)
      · rw [h2.size, h.size]
      · have hnk : Γk (2 * t + 3) ≠ [] → Γ (2 * t + 3) ≠ [] := by rw [← hG1]; simp
        apply hnk
        unfold putG at ht
        by_cases hq : 2 * t + 3 = r
        · subst hq; rw [setG_same] at ht; simpa using ht
        · rwa [setG_ne _ _ hq, setG_ne _ _ (by omega)] at ht
    · cases hg
  · cases hg
  · injection hg with hg
    subst hg
    have hrest : ∀ u ∈ rest, u ∈ Γ 0 := fun u hu => by rw [hΓ]; exact List.mem_cons_of_mem _ hu
    have h2 := h.reH (w' := w1) H rest (fun hok e he => ((LeafR.fin (h.leaf 0 e (hrest e he)) (hfin e (hrest e he))).mono fun b hb => (hok b hb).1).leaf)
      (fun j k x z hx hz b hb hb' => by
        have e1 : (Γ 0)[j + 1]? = some x := by rw [hΓ]; simpa using hx
        have e2 : (Γ 0)[k + 1]? = some z := by rw [hΓ]; simpa using hz
        have := (h.disj 0 _ 0 _ x z e1 e2 b hb hb').2
        omega)
      (fun e he b hb => .inl ⟨e, hrest e he, hb⟩) (fun _ _ _ => rfl) (Nat.le_refl _) rfl rfl rfl
    exact ⟨_, h2, by rw [setG_same], (fun u hu => by rw [setG_same] at hu; exact hfin u (hrest u hu)), rfl, fun t ht => by rwa [setG_ne _ _ (by omega)] at ht⟩
theorem backs_rel (H : TabE B) {s0 : S B} {w0 w1 : World} {Γ0 : Gh B} {β0 β : Nat → Nat} (h0 : Rel X s0 a w0 Γ0 β0) : ∀ (L : List (Ent B)) {s s' : S B} {Γ : Gh B}, Rel X s a w1 Γ β → (∀ t, Γ (2 * t + 3) ≠ [] → w1.heap[β t]? = w0.heap[β0 t]?) → (∀ y ∈ L, LeafR X (okB X Γ0 β0 w0) Γ0 β0 w0 y.v y.c y.D) →
    csOf ((Γ 0).take L.length) = csOf L → (∀ z ∈ Γ 0, z.v.final = true) → S.backs s0 (vs L) s = some s' → ∃ Γ', Rel X s' a w1 Γ' β ∧ csOf (Γ' 0) = csOf ((Γ 0).drop L.length) ∧ s'.tm.length = s.tm.length
  | [], s, s', Γ, h, _, _, _, _, hg => by
    injection hg with hg
    subst hg
    exact ⟨Γ, h, rfl, rfl⟩
  | y :: L, s, s', Γ, h, hbx, hl, hc, hf, hg => by
    obtain ⟨s1, h1, h2⟩ := Option.bind_eq_some_iff.1 (show (S.back1 s0 s y.v).bind (fun s' => S.backs s0 (vs L) s') = some s' from hg)
    cases hΓ : Γ 0 with
    | nil => rw [hΓ] at hc; simp [csOf] at hc
    | cons e0 rest =>
      rw [hΓ] at hc
      simp only [List.length_cons, List.take_succ_cons, csOf, List.map_cons, List.cons.injEq] at hc
      obtain ⟨Γ1, k1, k2, k3, k4, k5⟩ := Rel.back1 H h0 h (hl y (by simp)) hbx hΓ hc.1 hf h1
      have e1 : csOf ((Γ1 0).take L.length) = csOf L := by
        have : csOf ((Γ1 0).take L.length) = (csOf (Γ1 0)).take L.length := by simp [csOf, List.map_take]
        rw [this, k2]
        simpa [csOf, List.map_take] using hc.2
      obtain ⟨Γ2, m1, m2, m3⟩ := backs_rel H h0 L k1 (fun t ht => hbx t (k5 t ht)) (fun z hz => hl z (by simp [hz])) e1 k3 h2
      refine ⟨Γ2, m1, ?_, m3.trans k4⟩
      rw [m2]
      have : csOf ((Γ1 0).drop L.length) = (csOf (Γ1 0)).drop L.length := by simp [csOf, List.map_drop]
      rw [this, k2]
      simp [csOf, List.map_drop]
theorem op_call (H : TabP P B) (hro : ∀ t b, X.ro t b → 2 * t + 3 ∉ touchOf M o s) (HF : FunOK P F) (HX : ConOK P B M F) (HC : ∀ n', n' < n → CallOK P B M F n') (h : Rel X s a w Γ β) (hh : s.hd = []) {fx : Operand} {args : Array Operand} {ats : Array TypeId}
    (ho : o.op = .call { callee := .value fx, args := args, argTypes := ats }) (hg : G std M F n kl (stepOp std M o s k) r) : o.wp P a w (Done X M F kl s.tm.length n k r) Q := by
  simp only [stepOp, ho] at hg
  split at hg
  case h_2 => exact (G.no_inv hg).elim
  rename_i f first cap hpf
  split at hg
  case isFalse => exact (G.no_inv hg).elim
  rename_i hfc
  have hev : a.eval fx = .func (.func f) #[] #[] := by
    rw [h.litPeek hpf, Array.eq_empty_of_size_eq_zero hfc.1, Array.eq_empty_of_size_eq_zero hfc.2]
  split at hg
  · rename_i kd hk
    exact op_bld H h hh ho hev hk hg
  split at hg
  · exact (G.no_inv hg).elim
  rename_i hsz
  have hsz1 : args.size = ats.size := by
    apply Decidable.byContradiction
    intro e
    exact hsz (.inl e)
  have hsz2 : (M f).length ≤ args.size := by
    apply Nat.le_of_not_lt
    intro e
    exact hsz (.inr e)
  obtain ⟨⟨s1, fs⟩, h1, hg⟩ := G.ofOpt_inv hg
  simp only at hg
  obtain ⟨as, h2, hg⟩ := G.ofOpt_inv hg
  have hro' : ∀ t b, X.ro t b → 2 * t + 3 ∉ boxesOf (M f) ((ats.toList.zip args.toList).map fun p => s1.peek p.1 p.2) := by
    intro t b ht hm
    refine hro t b ht ?_
    simp only [touchOf, ho, hpf, h1]
    exact hm
  generalize hps : ats.toList.zip args.toList = ps at h1 h2 hg hro'
  have hpl : ps.length = args.size := by rw [← hps, List.length_zip]; simp [hsz1]
  have hpe : (ps.map fun p => a.eval p.2) = args.toList.map a.eval := by
    rw [← hps]
    have : ∀ (l : List TypeId) (m : List Operand), l.length = m.length → (l.zip m).map (fun p => a.eval p.2) = m.map a.eval := by
      intro l
      induction l with
      | nil => intro m hm; cases m with
        | nil => rfl
        | cons _ _ => simp at hm
      | cons t l ih => intro m hm; cases m with
        | nil => simp at hm
        | cons y m => simp only [List.zip_cons_cons, List.map_cons, ih m (by simpa using hm)]
    exact this _ _ (by simp [hsz1])
  generalize hrs : boxesOf (M f) (ps.map fun p => s1.peek p.1 p.2) = rs at hg hro'
  generalize hls : lent (M f) (ps.map fun p => s1.peek p.1 p.2) = ls at hg
  split at hg
  · rename_i hchk
    simp only [Bool.and_eq_true] at hchk
    obtain ⟨⟨hnd, hap⟩, hgv⟩ := hchk
    obtain ⟨n', fi, r1, rfl, hf, hc, hk⟩ := call_inv hg
    obtain ⟨f1, f2, f3, _⟩ := HF f fi hf
    obtain ⟨Γ1, css, k1, k2, k3, k4, k5, k6⟩ := h.takeA H.toTabE _ _ h1
    have k2 : csOf (Γ1 0) = css.flatten := by rw [k2, h.hd0 hh]; rfl
    rw [show s1.hd = vs (Γ1 0) from k1.root 0] at h2
    obtain ⟨As, hAs⟩ := argsOf_spec H.toTabE k1 ls ps (M f) fs css (Γ1 0) as k6 k4 (fun y hy => hy) (fun j k x y hx hy b hb hb' => (k1.disj 0 j 0 k x y hx hy b hb hb').2) k2 (by rw [hrs]; exact hnd) (by rw [hls]; exact fun v hv => hv) h2
    rw [hrs] at hAs
    have hAl : As.length = args.size := by rw [← hpl, ← List.length_map (f := Arg.c), hAs.c, List.length_map]
    have hnds := nodup_spec rs hnd
    -- the boxes' roots
    have hbox : ∀ r ∈ rs, ∃ t A, r = 2 * t + 3 ∧ A ∈ As ∧ A.b = some (β t) ∧ Γ1 (2 * t + 3) ≠ [] ∧ A.E = Γ1 (2 * t + 3) := by
      exact boxes_src hAs hnd (by rw [← hrs]; exact boxesOf_odd k1 ps _ _ _ as h2) k1.binj
    -- what the arguments own
    have hDst : ∀ b, Dst As b → (∃ q y, (q = 0 ∨ q ∈ rs) ∧ y ∈ Γ1 q ∧ y.D b) ∨ ∃ t, 2 * t + 3 ∈ rs ∧ Γ1 (2 * t + 3) ≠ [] ∧ b = β t := by
      rintro b ⟨A, hA, hb⟩
      rcases hAs.src A hA with ⟨e1, e2⟩ | ⟨t, e1, e2, e3, e4⟩
      · rcases hb with ⟨y, hy, hb⟩ | hb
        · rcases e2 y hy with e2 | e2
          · exact (e2 b hb).elim
          · exact .inl ⟨0, y, .inl rfl, e2, hb⟩
        · rw [e1] at hb; cases hb
      · rcases hb with ⟨y, hy, hb⟩ | hb
        · rw [e4] at hy; exact .inl ⟨_, y, .inr e2, hy, hb⟩
        · rw [e1] at hb; injection hb with hb; exact .inr ⟨t, e2, e3, hb.symm⟩
    have hβlt : ∀ t, Γ1 (2 * t + 3) ≠ [] → β t < w.heap.size := fun t ht => by
      obtain ⟨ty, hb⟩ := k1.bx t ht
      exact (Array.getElem?_eq_some_iff.1 hb).1
    have hdj : ∀ q q' y y' b, y ∈ Γ1 q → y' ∈ Γ1 q' → y.D b → y'.D b → q = q' := by
      intro q q' y y' b hy hy' hb hb'
      obtain ⟨i, hi⟩ := List.getElem?_of_mem hy
      obtain ⟨j, hj⟩ := List.getElem?_of_mem hy'
      exact (k1.disj q i q' j y y' hi hj b hb hb').1
    -- another entry owns none of it
    have hother : ∀ q y, q ≠ 0 → q ∉ rs → y ∈ Γ1 q → ∀ b, y.D b → ¬ Dst As b := by
      intro q y h0 hq hy b hb hd
      rcases hDst b hd with ⟨q', y', hq', hy', hb'⟩ | ⟨t, _, h3, rfl⟩
      · have := hdj q q' y y' b hy hy' hb hb'
        subst this
        exact hq'.elim h0 hq
      · exact k1.bdisj q y t hy h3 hb
    have hokD : ∀ b, okB X Γ1 β w b → ¬ Dst As b := by
      intro b hb hd
      rcases hDst b hd with ⟨q', y', _, hy', hb'⟩ | ⟨t, _, h3, rfl⟩
      · exact hb.2.2.1 q' y' hy' hb'
      · exact hb.2.2.2 t h3 rfl
    have hpre : Pre w (fun b => okB X Γ1 β w b ∨ LentD Γ1 ls b) As := by
      refine { gl := ⟨fun b hb => .inl (k1.gl.1 b hb), k1.gl.2⟩, ok := hAs.ok, okl := ?_, dlt := ?_, dis := hAs.dis, bdis := ?_, binj := hAs.binj }
      · rintro b (hb | ⟨p, hp, y, hy, hb⟩)
        · exact ⟨hb.1, hokD b hb⟩
        · obtain ⟨p1, p2⟩ := lent_apart hap hp
          exact ⟨(k1.dlt _ y b (List.mem_of_getElem? hy) hb).1, hother _ y p2 p1 (List.mem_of_getElem? hy) b hb⟩
      · intro b hb
        rcases hDst b hb with ⟨q', y', _, hy', hb'⟩ | ⟨t, _, h3, rfl⟩
        · exact (k1.dlt q' y' b hy' hb').1
        · exact hβlt t h3
      · intro A A' b hA hA' hb y hy hyb
        rcases hAs.src A hA with ⟨e1, _⟩ | ⟨t, e1, _, e3, _⟩
        · rw [e1] at hb; cases hb
        · rw [e1] at hb
          injection hb with hb
          subst hb
          rcases hAs.src A' hA' with ⟨_, e5⟩ | ⟨t', _, _, _, e6⟩
          · rcases e5 y hy with e5 | e5
            · exact e5 _ hyb
            · exact k1.bdisj 0 y t e5 e3 hyb
          · rw [e6] at hy
            exact k1.bdisj _ y t hy e3 hyb
    have hmod : Modes (M f) As := ⟨by rw [hAl]; exact hsz2, hAs.m⟩
    have hcall := hc.elim (fun hc => HC n' (by omega) f fi hf As w _ r1 hmod hpre (by rw [hAs.x]; exact hc)) (fun hc => HX f fi hf As w _ r1 hmod hpre (by rw [show As.map (·.x) = As.map Arg.x from rfl, hAs.x]; exact hc))
    have hargs : (As.map Arg.c).toArray = args.map a.eval := by
      rw [hAs.c, hpe]
      apply Array.toList_inj.1
      simp
    rw [hargs] at hcall
    unfold Oper.wp
    rw [run_enter f1 f2 f3 ho hev w]
    rw [Oper.upon_enter]
    refine Calls.mono hcall fun e w1 he => ?_
    cases e with
    | panicked c => exact he.elim
    | outgrown => exact he.elim
    | returned v =>
    obtain ⟨E, Os, post⟩ := he
    show Done X M F kl s.tm.length (n' + 1) k r (a.put o.dst v) w1
    obtain ⟨s2, h3, hk⟩ := G.ofOpt_inv hk
    -- what was lent is read for good, if it may have come back
    have hfr : ∃ Γ2, Rel X s2 a w Γ2 β ∧ Less Γ1 Γ2 ∧ (s2.tm.length = s1.tm.length ∧ s2.bx.length = s1.bx.length) ∧ (∀ b, okB X Γ1 β w b → okB X Γ2 β w b) ∧
        ((∀ b, LentD Γ1 ls b → okB X Γ2 β w b) ∨ (r1.1.2.any (·.any V.isImm) || (r1.1.1 ++ r1.2.leaves).any V.isImm) = false) ∧ ∀ (q j : Nat) z, q = 0 ∨ q ∈ rs → (Γ1 q)[j]? = some z → ∃ z', (Γ2 q)[j]? = some z' ∧ z'.D = z.D := by
      split at h3
      · obtain ⟨Γ2, p1, p2, p3, p4, p5⟩ := k1.freeze H.toTabE ls h3
        refine ⟨Γ2, p1, p2, p3, fun b hb => p4 b (.inl hb), .inl fun b hb => p4 b (.inr hb), fun q j z hq hz => p5 q j z (fun p hp => ?_) hz⟩
        obtain ⟨a1, a2⟩ := lent_apart hap hp
        rintro rfl
        exact hq.elim a2 a1
      · rename_i himm
        injection h3 with h3
        subst h3
        exact ⟨Γ1, k1, Less.rfl, ⟨rfl, rfl⟩, fun _ h => h, .inr (by simpa using himm), fun q j z _ hz => ⟨z, hz, rfl⟩⟩
    obtain ⟨Γ2, p1, p2, p3, p4, p5, p6⟩ := hfr
    obtain ⟨Γ3, q1, q2, q3, q4, q5, q6, q7⟩ := killBs_spec H.toTabE rs p1
    have hless := p2.trans q2
    have hback : ∀ q y, y ∈ Γ3 q → ∃ y1 ∈ Γ1 q, ∀ b, y.D b → y1.D b := by
      intro q y hy
      obtain ⟨j, hj⟩ := List.getElem?_of_mem hy
      obtain ⟨y1, e1, e2, _⟩ := hless q j y hj
      exact ⟨y1, List.mem_of_getElem? e1, e2⟩
    have hne31 : ∀ q, Γ3 q ≠ [] → Γ1 q ≠ [] := by
      intro q hq e
      obtain ⟨y, l, hy⟩ := List.exists_cons_of_ne_nil hq
      obtain ⟨y1, e1, _⟩ := hback q y (by rw [hy]; exact List.mem_cons_self ..)
      rw [e] at e1; cases e1
    have hkeepD : ∀ q y, (q = 0 ∨ q ∈ rs) → y ∈ Γ1 q → ∃ y3 ∈ Γ3 q, y3.D = y.D := by
      intro q y hq hy
      obtain ⟨j, hj⟩ := List.getElem?_of_mem hy
      obtain ⟨y2, e1, e2⟩ := p6 q j y hq hj
      obtain ⟨y3, e3, e4⟩ := q6 q j y2 e1
      exact ⟨y3, List.mem_of_getElem? e3, e4.trans e2⟩
    have hne13 : ∀ q, q ∈ rs → Γ1 q ≠ [] → Γ3 q ≠ [] := by
      intro q hq h1
      obtain ⟨y, l, hy⟩ := List.exists_cons_of_ne_nil h1
      obtain ⟨y3, e3, _⟩ := hkeepD q y (.inr hq) (by rw [hy]; exact List.mem_cons_self ..)
      exact List.ne_nil_of_mem e3
    have hokD3 : ∀ b, okB X Γ3 β w b → ¬ Dst As b := by
      intro b hb hd
      rcases hDst b hd with ⟨q', y', hq', hy', hb'⟩ | ⟨t, h2, h3, rfl⟩
      · obtain ⟨y3, e1, e2⟩ := hkeepD q' y' hq' hy'
        exact hb.2.2.1 q' y3 e1 (by rw [e2]; exact hb')
      · exact hb.2.2.2 t (hne13 _ h2 h3) rfl
    have hbs : ∀ b, b ∈ As.filterMap (·.b) ↔ ∃ t, 2 * t + 3 ∈ rs ∧ b = β t := by
      intro b
      rw [hAs.bs, List.mem_map]
      constructor
      · rintro ⟨q, hq, rfl⟩
        obtain ⟨t, A, rfl, _⟩ := hbox q hq
        exact ⟨t, hq, by rw [show (2 * t + 3 - 3) / 2 = t by omega]⟩
      · rintro ⟨t, ht, rfl⟩
        exact ⟨_, ht, by rw [show (2 * t + 3 - 3) / 2 = t by omega]⟩
    have hlen : Os.length = rs.length := by rw [post.len, hAs.bs, List.length_map]
    -- the blocks that came back may be read for good
    have hok1 : ∀ b, (b < w1.heap.size ∧ ((okB X Γ1 β w b ∨ LentD Γ1 ls b) ∨ Dst As b ∨ w.heap.size ≤ b) ∧ (∀ y, y ∈ E ∨ (∃ O ∈ Os, y ∈ O) → ¬ y.D b) ∧ b ∉ As.filterMap (·.b)) ∧ (LentD Γ1 ls b → okB X Γ2 β w b) →
        okB X (setG (gCs Γ3 rs Os) 0 E) β w1 b := by
      rintro b ⟨⟨b1, b2, b3, b4⟩, b5⟩
      have b2' : okB X Γ3 β w b ∨ Dst As b ∨ w.heap.size ≤ b := by
        rcases b2 with (b2 | b2) | b2
        · exact .inl (q5 b (p4 b b2))
        · exact .inl (q5 b (b5 b2))
        · exact .inr b2
      refine ⟨b1, ?_, fun q y hy hd => ?_, fun t ht e => ?_⟩
      · rcases b2' with b2 | b2 | b2
        · exact b2.2.1
        · rcases hDst b b2 with ⟨q', y', _, hy', hb'⟩ | ⟨t, ht0, h3, rfl⟩
          · exact .inr (k1.dlt q' y' b hy' hb').2
          · exact .inr ((k1.bnd t h3).resolve_left fun e => hro' t _ e ht0)
        · have := k1.grow; exact .inr (.inr (by omega))
      · by_cases hq0 : q = 0
        · subst hq0
          rw [setG_same] at hy
          exact b3 y (.inl hy) hd
        · rw [setG_ne _ _ hq0] at hy
          by_cases hqr : q ∈ rs
          · obtain ⟨i, hi⟩ := List.getElem?_of_mem hqr
            have hil : i < Os.length := by rw [hlen]; exact (List.getElem?_eq_some_iff.1 hi).1
            rw [gCs_in rs Os Γ3 i q _ hnds hi (List.getElem?_eq_getElem hil)] at hy
            exact b3 y (.inr ⟨_, List.getElem_mem hil, hy⟩) hd
          · rw [gCs_out rs Os Γ3 q hqr] at hy
            obtain ⟨y1, e1, e2⟩ := hback q y hy
            rcases b2' with b2 | b2 | b2
            · exact b2.2.2.1 q y hy hd
            · exact hother q y1 hq0 hqr e1 b (e2 b hd) b2
            · have := (k1.dlt q y1 b e1 (e2 b hd)).1; omega
      · by_cases htr : 2 * t + 3 ∈ rs
        · exact b4 ((hbs b).2 ⟨t, htr, e⟩)
        · rw [setG_ne _ _ (by omega), gCs_out rs Os Γ3 _ htr] at ht
          have ht1 := hne31 _ ht
          rcases b2' with b2 | b2 | b2
          · exact b2.2.2.2 t ht e
          · subst e
            rcases hDst _ b2 with ⟨q', y', _, hy', hb'⟩ | ⟨t', h2, h3, e⟩
            · exact k1.bdisj q' y' t hy' ht1 hb'
            · have := k1.binj t t' ht1 h3 e
              subst this
              exact htr h2
          · subst e
            have := hβlt t ht1; omega
    have hfin : ∀ y, y ∈ E ∨ (∃ O ∈ Os, y ∈ O) → FinR w1 (fun b => (b < w1.heap.size ∧ ((okB X Γ1 β w b ∨ LentD Γ1 ls b) ∨ Dst As b ∨ w.heap.size ≤ b) ∧ (∀ y, y ∈ E ∨ (∃ O ∈ Os, y ∈ O) → ¬ y.D b) ∧ b ∉ As.filterMap (·.b)) ∧ (LentD Γ1 ls b → okB X Γ2 β w b)) y := by
      intro y hy
      have himm : y.v.isImm = true → (∀ b, LentD Γ1 ls b → okB X Γ2 β w b) := by
        intro hi
        rcases p5 with p5 | p5
        · exact p5
        · exfalso
          simp only [Bool.or_eq_false_iff] at p5
          rcases hy with hy | ⟨O, hO, hy⟩
          · have := List.any_eq_false.1 p5.2 y.v (by rw [post.lv]; exact List.mem_map.2 ⟨y, hy, rfl⟩)
            exact this hi
          · have := List.any_eq_false.1 p5.1 (vs O) (by rw [post.out]; exact List.mem_map.2 ⟨O, hO, rfl⟩)
            exact this (List.any_eq_true.2 ⟨y.v, List.mem_map.2 ⟨y, hy, rfl⟩, hi⟩)
      rcases post.fin y hy with hO | ⟨e, l, m, e1, e2⟩ | ⟨i, e, x, e1, e2⟩
      · exact .inl hO
      · have p5 := himm (by rw [e1]; rfl)
        exact .inr (.inl ⟨e, l, m, e1, Imm.mono (fun b hb => ⟨hb, p5 b⟩) e2⟩)
      · cases i with
        | false => exact .inr (.inr ⟨false, e, x, e1, e2⟩)
        | true =>
          have p5 := himm (by rw [e1]; rfl)
          exact .inr (.inr ⟨true, e, x, e1, e2.ok fun b hb => ⟨hb, p5 b⟩⟩)
    have hm := q1.callH H.toTabE (rs := rs) (Os := Os) (E := E) (w' := w1) (A := Dst As)
      (fun r hr => by obtain ⟨t, A, e1, _, _, e2, _⟩ := hbox r hr; subst e1; exact ⟨t, rfl, hne13 _ hr e2⟩) hnds hlen (fun q x p _ _ hx hp => q7 q x p hx hp) hok1 hfin post.disE post.disO post.disEO
      (fun y hy b hb => ⟨(post.dlt y hy b hb).1, (post.dlt y hy b hb).2.1⟩)
      (fun q y h0 hq hy b hb => by obtain ⟨y1, e1, e2⟩ := hback q y hy; exact hother q y1 h0 hq e1 b (e2 b hb))
      (fun t ht htr hd => by
        have ht1 := hne31 _ ht
        rcases hDst _ hd with ⟨q', y', _, hy', hb'⟩ | ⟨t', h2, h3, e⟩
        · exact k1.bdisj q' y' t hy' ht1 hb'
        · have := k1.binj t t' ht1 h3 e
          subst this
          exact htr h2) hokD3
      (fun b hb => by
        rcases hDst b hb with ⟨q', y', _, hy', hb'⟩ | ⟨t, ht0, h3, rfl⟩
        · exact (k1.dlt q' y' b hy' hb').2
        · exact (k1.bnd t h3).resolve_left fun e => hro' t _ e ht0)
      (fun y hy b hb t ht e => (post.dlt y hy b hb).2.2 ((hbs b).2 ⟨t, ht, e⟩))
      (fun i t O hi hO => by
        have : (As.filterMap (·.b))[i]? = some (β t) := by
          rw [hAs.bs, List.getElem?_map, hi]
          simp only [Option.map_some]
          rw [show (2 * t + 3 - 3) / 2 = t by omega]
        exact post.blk i (β t) O this hO) post.keep post.size post.os post.tape post.output
    -- the result goes where it goes
    have hst : ({ (s2.killBs rs).setRoots rs (Os.map vs) with hd := vs E } : S B) = { (s2.killBs rs).setRoots rs r1.1.2 with hd := r1.1.1 ++ r1.2.leaves } := by rw [post.out, post.lv]
    rw [hst] at hm
    have hlE : r1.1.1.length ≤ E.length := by
      have := congrArg List.length post.lv
      rw [List.length_append, vs_length] at this
      omega
    obtain ⟨s3, h5, hk⟩ := G.ofOpt_inv hk
    -- what is written through comes back to its place
    obtain ⟨L, hL0, hL1, hL2, hL3⟩ : ∃ L : List (Ent B), (L = [] ∨ rs = []) ∧ (if B.gives f then (firstW s ps).leaves else []) = vs L ∧ (∀ y ∈ L, LeafR X (okB X Γ β w) Γ β w y.v y.c y.D) ∧ csOf (E.take r1.1.1.length) = csOf L := by
      cases hgf : B.gives f with
      | false =>
        refine ⟨[], .inl rfl, rfl, (fun y hy => by cases hy), ?_⟩
        rw [post.mz hgf]; rfl
      | true =>
        rw [hgf] at hgv
        simp only [Bool.not_true, Bool.false_or, Bool.and_eq_true] at hgv
        obtain ⟨⟨g1, g3⟩, g2⟩ := hgv
        have g3 : rs = [] := by simpa using g3
        obtain ⟨A, As', hAA, hcA⟩ := post.mcs hgf
        cases ps with
        | nil =>
          have := hAs.c
          rw [hAA] at this
          cases this
        | cons p ps =>
          obtain ⟨L, hL⟩ := h.peek p.1 p.2
          have hAc : A.c = a.eval p.2 := by
            have := hAs.c
            rw [hAA] at this
            simp only [List.map_cons, List.cons.injEq] at this
            exact this.1
          have hAx : as.headD (.tup []) = A.x := by
            rw [← hAs.x, hAA]; rfl
          have hAm : A.m = .own := by
            rw [hAs.m 0 A (by rw [hAA]; rfl)]
            cases hM : M f with
            | nil => rw [hM] at g1; cases g1
            | cons m ms => rw [hM] at g1; cases m <;> first | rfl | cases g1
          have hAok := (hAs.ok A (by rw [hAA]; simp)).2
          rw [hAm] at hAok
          rw [hAx] at g2
          have hw := hAok.2.2
          rw [hAc] at hw
          refine ⟨L, .inr g3, hL.lv, fun y hy => (hL.lf y hy).1, hcA.trans (same_cells hw hL.wr g2)⟩
    have hLl : L.length = r1.1.1.length := by
      have := congrArg List.length hL3
      rw [cs_length, cs_length, List.length_take] at this
      omega
    rw [hL1] at h5
    obtain ⟨Γ4, n1, n2, n3⟩ : ∃ Γ', Rel X s3 a w1 Γ' β ∧ csOf (Γ' 0) = csOf ((setG (gCs Γ3 rs Os) 0 E 0).drop L.length) ∧ s3.tm.length = _ := by
     rcases hL0 with hL0 | hL0
     · subst hL0
       injection h5 with h5
       subst h5
       exact ⟨_, hm, rfl, rfl⟩
     exact backs_rel H.toTabE h L hm (fun t ht => by
      subst hL0
      rw [setG_ne _ _ (by omega), gCs_out [] Os Γ3 _ (by simp)] at ht
      have ht1 := hne31 _ ht
      refine post.keep (β t) (hβlt t ht1) fun hd => ?_
      rcases hDst _ hd with ⟨q', y', hq', hy', hb'⟩ | ⟨t', h2, _, _⟩
      · exact k1.bdisj q' y' t hy' ht1 hb'
      · cases h2) hL2 (by rw [setG_same, hLl]; exact hL3) (fun z hz => by rw [setG_same] at hz; exact (post.fin z (.inl hz)).noAlias.1) h5
    rw [setG_same, hLl] at n2
    have hL : s3.tm.length = s.tm.length := by rw [n1.size, h.size]
    rw [← hL]
    have hlen4 : r1.2.leaves.length = (Γ4 0).length := by
      have e1 := congrArg List.length n2
      rw [cs_length, cs_length, List.length_drop] at e1
      have e2 := congrArg List.length post.lv
      rw [List.length_append, vs_length] at e2
      omega
    obtain ⟨Γ5, u1, u2, u3⟩ := n1.layS H.toTabE (x := r1.2) (c := v) (by rw [n2]; exact post.wr) hlen4 o.dst
    obtain ⟨Γ6, β6, q1', q2', q3'⟩ := u1.unpack H.toTabE o.dst
    exact ⟨_, Γ6, β6, n', Nat.le_succ _, q1', q2' u2, q3'.trans u3, hk⟩
  · exact (G.no_inv hg).elim
end
end Go.I

/-! ISem32 -/
set_option linter.unusedVariables false
set_option linter.unusedSimpArgs false
namespace Go.I
open Go.RowKit Go.Proofs.YtogfddilolannaaDoorW.PrintWords
section
variable {P : Program} {B : Tab} {M : FuncId → List Md} {F : FuncId → Option (Fi B)} {kl : KL}
variable {X : Base B} {s : S B} {a : Act} {w : World} {Γ : Gh B} {β : Nat → Nat} {o : Oper} {n : Nat} {k : S B → Tr B} {r : Res B} {Q : Exit → Act → World → Prop}
theorem op_any (H : TabP P B) (hro : (∀ t b, ¬ X.ro t b) ∨ (isStore o = false ∧ ∀ t b, X.ro t b → 2 * t + 3 ∉ touchOf M o s)) (HF : FunOK P F) (HX : ConOK P B M F) (HC : ∀ n', n' < n → CallOK P B M F n') (h : Rel X s a w Γ β) (hh : s.hd = []) (hg : G std M F n kl (stepOp std M o s k) r) : o.wp P a w (Done X M F kl s.tm.length n k r) Q := by
  cases ho : o.op with
  | move x => exact Oper.wp_mono (fun _ _ h => h.2) (OpS.wp (op_move H.toTabE h hh ho hg))
  | assign x => exact Oper.wp_mono (fun _ _ h => h.2) (OpS.wp (op_assign H.toTabE h hh ho hg))
  | pick c x y => exact Oper.wp_mono (fun _ _ h => h.2) (OpS.wp (op_pick H.toTabE h hh ho hg))
  | alloc e => exact op_alloc H h hh ho hg
  | box e x => exact op_box H h hh ho hg
  | build t ps => exact Oper.wp_mono (fun _ _ h => h.2) (OpS.wp (op_build H h hh ho hg))
  | buildSlice t m ps => exact op_buildSlice H h hh ho hg
  | load t x => exact Oper.wp_mono (fun _ _ h => h.2) (OpS.wp (op_load H h hh ho hg))
  | store t x y => exact op_store H (hro.resolve_right fun e => by simp [isStore, ho] at e) h hh ho hg
  | nilCheck x => exact Oper.wp_mono (fun _ _ h => h.2) (OpS.wp (op_nilCheck H.toTabE h hh ho hg))
  | binOp op t x y u => exact Oper.wp_mono (fun _ _ h => h.2) (OpS.wp (op_binOp H h hh ho hg))
  | unOp op t x => exact Oper.wp_mono (fun _ _ h => h.2) (OpS.wp (op_unOp H.toTabE h hh ho hg))
  | convert t u x => exact op_convert H h hh ho hg
  | makeSlice t x y => exact op_makeSlice H h hh ho hg
  | slice t x lo hi m =>
    cases m with
    | none => exact Oper.wp_mono (fun _ _ h => h.2) (OpS.wp (op_slice H h hh ho hg))
    | some _ => simp only [stepOp, ho] at hg; exact (G.no_inv hg).elim
  | fieldAddr t x f => exact Oper.wp_mono (fun _ _ h => h.2) (OpS.wp (op_fieldAddr H h hh ho hg))
  | indexAddr t x i => exact Oper.wp_mono (fun _ _ h => h.2) (OpS.wp (op_indexAddr H h hh ho hg))
  | index t x i => exact Oper.wp_mono (fun _ _ h => h.2) (OpS.wp (op_index H h hh ho hg))
  | extract x i => exact Oper.wp_mono (fun _ _ h => h.2) (OpS.wp (op_extract H h hh ho hg))
  | call c =>
    obtain ⟨ce, args, ats⟩ := c
    cases ce with
    | value x => exact op_call H (fun t b ht => (hro.elim (fun e => (e t b ht).elim) fun e => e.2 t b ht)) HF HX HC h hh ho hg
    | invoke x m => simp only [stepOp, ho] at hg; exact (G.no_inv hg).elim
    | builtin b =>
      cases b with
      | len => exact Oper.wp_mono (fun _ _ h => h.2) (OpS.wp (op_len H h hh ho hg))
      | min => exact Oper.wp_mono (fun _ _ h => h.2) (OpS.wp (op_min H.toTabE h hh ho hg))
      | append => exact op_append H h hh ho hg
      | _ => simp only [stepOp, ho] at hg; exact (G.no_inv hg).elim
  | _ => simp only [stepOp, ho] at hg; exact (G.no_inv hg).elim
theorem ops_ok (H : TabP P B) (HF : FunOK P F) (HX : ConOK P B M F) : ∀ n, OpsOK P B M F n := by
  intro n
  induction n using Nat.strongRecOn with
  | _ n ih =>
    intro kl X s a w Γ β o k r Q m hm hro h hh hg
    exact op_any H hro HF HX (fun n' hn' => call_ok H (fun f fi hf => ⟨(HF f fi hf).1, (HF f fi hf).2.1, (HF f fi hf).2.2.2⟩) (ih n' (by omega))) h hh hg
/-- THE WORD: what a function's tree comes to is what its call brings. -/
theorem calls_ok (H : TabP P B) (HF : FunOK P F) (HX : ConOK P B M F) (n : Nat) : CallOK P B M F n := call_ok H (fun f fi hf => ⟨(HF f fi hf).1, (HF f fi hf).2.1, (HF f fi hf).2.2.2⟩) (ops_ok H HF HX n)
end
end Go.I

/-! IRulesB -/
set_option linter.unusedVariables false
namespace Go.I
def dummyM : FuncId → List Md := fun _ => []
abbrev D_ {T : TypeId → Type} : W T := .one .dead
theorem ba_ext {a b : ByteArray} (h : a.toList = b.toList) : a = b := by
  rw [ByteArray.toList_eq, ByteArray.toList_eq] at h
  exact ByteArray.ext (Array.toList_inj.1 h)
theorem seq_dec (a b : ByteArray) : decide (a = b) = std.seq a b := by
  show decide (a = b) = (a.toList == b.toList)
  by_cases h : a = b
  · subst h; simp
  · rw [decide_eq_false h]
    symm
    rw [beq_eq_false_iff_ne]
    exact fun e => h (ba_ext e)
section
variable {B : Tab} {O : Prim} {M : FuncId → List Md} {F : FuncId → Option (Fi B)} {kl : KL} {α : Type} {e : α → Res B} {x y : Option α}
/-- Conditions that are told, n of them, passed by. -/
def strip : Nat → Tr B → Tr B
  | 0, t => t
  | n + 1, t => match t with
    | .cond b x y => match b with
      | true => strip n (x ())
      | false => strip n (y ())
    | t => t
theorem Le.strip : ∀ (n : Nat) {t : Tr B}, Le F O M kl e x (strip n t) → Le F O M kl e x t
  | 0, _, h => h
  | n + 1, t, h => by
    unfold Go.I.strip at h
    split at h
    · split at h
      · exact .condT rfl (Le.strip n h)
      · exact .condF rfl (Le.strip n h)
    · exact h
theorem Le.eqS (n : Nat) {t t' : Tr B} (h : Go.I.strip n t = t') (h' : Le F O M kl e x t') : Le F O M kl e x t := .strip n (h ▸ h')
theorem Le.condP (n m : Nat) {c : Prop} [Decidable c] {b : Bool} {X Y : Unit → Tr B} {X' Y' : Tr B} (hc : decide c = b) (eX : Go.I.strip n (X ()) = X') (eY : Go.I.strip m (Y ()) = Y') (hx : Le F O M kl e x X') (hy : Le F O M kl e y Y') : Le F O M kl e (if c then x else y) (.cond b X Y) := by
  by_cases h : c
  · rw [if_pos h]; exact .condT (by rw [← hc]; exact decide_eq_true h) (.eqS n eX hx)
  · rw [if_neg h]; exact .condF (by rw [← hc]; exact decide_eq_false h) (.eqS m eY hy)
theorem bind_guard {α β : Type} {x : Option α} {c : Prop} [Decidable c] {y : α → Option β} : (x.bind fun r => if c then y r else Option.none) = if c then x.bind y else Option.none := by
  by_cases h : c
  · simp [h]
  · simp [h]
theorem guard_and {α : Type} {c d : Prop} [Decidable c] [Decidable d] {x : Option α} : (if c then (if d then x else Option.none) else Option.none) = if c ∧ d then x else Option.none := by
  by_cases h : c <;> simp [h]
theorem nil_of {α : Type} {l : List α} (h : ¬ 0 < (l.length : Int)) : l = [] := List.eq_nil_of_length_eq_zero (by omega)
theorem Le.eqX {y : Option α} {t : Tr B} (h : x = y) (h' : Le F O M kl e y t) : Le F O M kl e x t := h ▸ h'
theorem Le.condH (n m : Nat) {c : Prop} [Decidable c] {b : Bool} {X Y : Unit → Tr B} {X' Y' : Tr B} (hc : decide c = b) (eX : Go.I.strip n (X ()) = X') (eY : Go.I.strip m (Y ()) = Y') (hx : c → Le F O M kl e x X') (hy : ¬ c → Le F O M kl e y Y') : Le F O M kl e (if c then x else y) (.cond b X Y) := by
  by_cases h : c
  · rw [if_pos h]; exact .condT (by rw [← hc]; exact decide_eq_true h) (.eqS n eX (hx h))
  · rw [if_neg h]; exact .condF (by rw [← hc]; exact decide_eq_false h) (.eqS m eY (hy h))
theorem Le.condN (n m : Nat) {c : Prop} [Decidable c] {b : Bool} {X Y : Unit → Tr B} {X' Y' : Tr B} (hc : decide c = !b) (eX : Go.I.strip n (X ()) = X') (eY : Go.I.strip m (Y ()) = Y') (hx : Le F O M kl e x X') (hy : Le F O M kl e y Y') : Le F O M kl e (if c then y else x) (.cond b X Y) := by
  by_cases h : c
  · rw [if_pos h]; exact .condF (by rw [decide_eq_true h] at hc; simpa using hc.symm) (.eqS m eY hy)
  · rw [if_neg h]; exact .condT (by rw [decide_eq_false h] at hc; simpa using hc.symm) (.eqS n eX hx)
theorem Le.guardP (n : Nat) {c : Prop} [Decidable c] {b : Bool} {X Y : Unit → Tr B} {X' : Tr B} (hc : decide c = b) (eX : Go.I.strip n (X ()) = X') (hx : Le F O M kl e x X') : Le F O M kl e (if c then x else Option.none) (.cond b X Y) := .condP n 0 hc eX rfl hx .none
theorem Le.guardN (n : Nat) {c : Prop} [Decidable c] {b : Bool} {X Y : Unit → Tr B} {Y' : Tr B} (hc : decide c = b) (eY : Go.I.strip n (Y ()) = Y') (hy : Le F O M kl e y Y') : Le F O M kl e (if c then Option.none else y) (.cond b X Y) := .condP 0 n hc rfl eY .none hy
theorem Le.callC (n : Nat) {β : Type} {f : FuncId} {as : List (WT B)} {k : Res B → Tr B} {fi : Fi B} {eb : β → Res B} {z z' : Option β} {g : β → Option α} {k' : β → Tr B} (hf : F f = some fi)
    (h1 : Le F O M fi.kills eb z' (den O M fi.kills fi.fn fi.body (B.gives f) (M f) as)) (hz : z = z') (ek : ∀ b, Go.I.strip n (k (eb b)) = k' b) (h2 : ∀ b, Le F O M kl e (g b) (k' b)) : Le F O M kl e (z.bind g) (.call f as k) := by
  subst hz
  exact .call hf h1 fun b _ => .eqS n (ek b) (h2 b)
theorem Le.extC (n : Nat) {β : Type} {f : FuncId} {as : List (WT B)} {k : Res B → Tr B} {fi : Fi B} {eb : β → Res B} {z z' : Option β} {g : β → Option α} {k' : β → Tr B} (hf : F f = some fi)
    (h1 : ∀ b, z' = some b → fi.con as (eb b)) (hz : z = z') (ek : ∀ b, Go.I.strip n (k (eb b)) = k' b) (h2 : ∀ b, Le F O M kl e (g b) (k' b)) : Le F O M kl e (z.bind g) (.call f as k) := by
  subst hz
  exact .ext hf h1 fun b _ => .eqS n (ek b) (h2 b)
theorem Le.loopS {ι : Type} {c : Code} {i : Nat} {s : S B} {k : Ex → S B → Tr B} (f : Nat → ι → Option α) (st : ι → S B) (N : Nat) (v0 : ι) (hx : x = f N v0) (hs0 : s = st v0) (h0 : ∀ v, f 0 v = .none)
    (hs : ∀ n, n < N → (∀ m, m ≤ n → ∀ v, Le F O M kl e (f m v) (.loop c i (st v) k)) → ∀ v, Le F O M kl e (f (n + 1) v) (exec O M kl c i (st v) fun e s' => match e with
      | .normal => .loop c i (s'.forget (kl.f (2 * i))) k
      | e => k e s')) : Le F O M kl e x (.loop c i s k) := by
  have key : ∀ n, n ≤ N → ∀ v, Le F O M kl e (f n v) (.loop c i (st v) k) := by
    intro n
    induction n using Nat.strongRecOn with
    | _ n ih =>
      intro hn v
      cases n with
      | zero => rw [h0]; exact .none
      | succ n => exact .loop1 (hs n (by omega) (fun m hm v => ih m (by omega) (by omega) v) v)
  subst hx; subst hs0
  exact key N (Nat.le_refl _) v0
theorem Le.again {y : Option α} {c : Code} {i : Nat} {s s' : S B} {k : Ex → S B → Tr B} (h : Le F O M kl e y (.loop c i s k)) (hx : x = y) (hs : s' = s) : Le F O M kl e x (.loop c i s' k) := by subst hx; subst hs; exact h
theorem Le.ret2 {a : α} {r : Res B} (h : e a = r) : Le F O M kl e (some a) (.ret r) := h ▸ Le.ret
theorem Le.join {y : Option α} {i : Nat} {s s' : S B} {f f' : S B → Tr B} (h : Le F O M kl e y (f s)) (hf : f' = f) (hx : x = y) (hs : s' = s) : Le F O M kl e x (.mark i s' f') := by subst hx; subst hf; exact .mark h hs
end
end Go.I

/-! ITabG -/
set_option linter.unusedVariables false
namespace Go.I
/-- An element's type as Lean data: its leaves, back and forth. -/
structure ElD (TT : TypeId → Type) (e : TypeId) where
  dflt : TT e
  enc : TT e → List (V TT)
  dec : List (V TT) → Option (TT e)
  size : Nat
  bytes : Nat
  plain : Bool
  len : ∀ x, (enc x).length = size
  back : ∀ cs x, dec cs = some x → enc x = cs
  pl : plain = true → ∀ x v, v ∈ enc x → ∃ u : Value, v = .lit u ∧ u.oneCell' = true
  upd : Nat → V TT → Option (TT e → TT e)
  updOK : ∀ off x f, upd off x = some f → ∀ z, dec (setAt (enc z) off x) = some (f z)
def elNone {TT : TypeId → Type} (e : TypeId) (d : TT e) : ElD TT e := ⟨d, fun _ => [], fun _ => none, 0, 0, false, fun _ => rfl, (fun _ _ h => by cases h), (fun h => by cases h), fun _ _ => none, (fun _ _ _ h => by cases h)⟩
section
variable {TT : TypeId → Type}
def dInt (k : IntKind) (v : V TT) : Option Int := match v with
  | .lit (.int k' x) => if k = k' then some x else none
  | _ => none
theorem dInt_back {k : IntKind} {v : V TT} {x : Int} (h : dInt k v = some x) : v = .lit (.int k x) := by
  unfold dInt at h
  split at h
  · split at h
    · rename_i e; subst e; injection h with h; rw [h]
    · cases h
  · cases h
def dBool (v : V TT) : Option Bool := match v with
  | .lit (.bool x) => some x
  | _ => none
theorem dBool_back {v : V TT} {x : Bool} (h : dBool v = some x) : v = .lit (.bool x) := by
  unfold dBool at h
  split at h
  · injection h with h; rw [h]
  · cases h
def dStr (v : V TT) : Option ByteArray := match v with
  | .lit (.string x) => some x
  | _ => none
theorem dStr_back {v : V TT} {x : ByteArray} (h : dStr v = some x) : v = .lit (.string x) := by
  unfold dStr at h
  split at h
  · injection h with h; rw [h]
  · cases h
def dOwn (e : TypeId) (v : V TT) : Option (List (TT e)) := match v with
  | .own e' l => if h : e' = e then some (h ▸ l) else none
  | _ => none
theorem dOwn_back {e : TypeId} {v : V TT} {x : List (TT e)} (h : dOwn e v = some x) : v = .own e x := by
  unfold dOwn at h
  split at h
  · split at h
    · rename_i e; subst e; injection h with h; rw [← h]
    · cases h
  · cases h
/-- What is told of one type. -/
structure TRow (P : Program) (el : ∀ e, ElD TT e) (t : TypeId) where
  lay : Option (Bool × Nat)
  zero : Option (List (V TT))
  elem : Option TypeId
  flds : List (Nat × Nat)
  ikind : Option IntKind
  isBool : Bool
  isStr : Bool
  lay_ok : ∀ g n, lay = some (g, n) → ∃ d i, P.underlying t = some d ∧ descAgg d = g ∧ P.info? t = some i ∧ i.size = n ∧ (g = false → n = 1) ∧ 0 < n
  zero_ok : ∀ z, zero = some z → ∃ i v, P.info? t = some i ∧ i.zero = some v ∧ ZR z v.cells.toList
  elem_ok : ∀ e, elem = some e → P.underlying t = some (.slice e) ∧ ∃ i v, P.info? e = some i ∧ i.zero = some v ∧ i.size = (el e).size ∧ i.bytes = (el e).bytes ∧ v.cells.size = (el e).size ∧ 0 < (el e).size ∧ 0 < (el e).bytes
  fld_ok : ∀ (f o n : Nat), flds[f]? = some (o, n) → ∃ (fs : Array Field) (fld : Field), P.underlying t = some (.struct fs) ∧ (fs[f]? : Option Field) = some fld ∧ fld.offset = o ∧ ∃ i, P.info? fld.type = some i ∧ i.size = n ∧ n ≠ 0
  bld_ok : ∀ z, zero = some z → flds ≠ [] → ∃ (it : TypeInfo) (zv : Value) (place : Nat → Option (Nat × Nat)), P.info? t = some it ∧ it.zero = some zv ∧
    (∀ i o n, flds[i]? = some (o, n) → place i = some (o, n) ∧ o + n ≤ z.length) ∧ ∀ parts, P.built t parts = Instr.fill place zv.cells parts
  str_ok : isStr = true → P.underlying t = some .string
  bool_ok : isBool = true → P.underlying t = some .bool
  ikind_ok : ∀ k, ikind = some k → P.underlying t = some (.int k)
  sq : Option (List (Option IntKind))
  sq_ok : ∀ ks, sq = some ks → SeqP P t ks
def rowNone (P : Program) (el : ∀ e, ElD TT e) (t : TypeId) : TRow P el t :=
  ⟨none, none, none, [], none, false, false, (fun _ _ h => by cases h), (fun _ h => by cases h), (fun _ h => by cases h), (fun _ _ _ h => by simp at h), (fun _ h => by cases h), (fun h => by cases h), (fun h => by cases h), (fun _ h => by cases h), none, (fun _ h => by cases h)⟩
end
end Go.I

/-! ILinkG -/
set_option linter.unusedVariables false
set_option linter.unusedSimpArgs false
namespace Go.I
open Go.RowKit Go.Proofs.YtogfddilolannaaDoorW.PrintWords
section
variable {P : Program} {B : Tab} {M : FuncId → List Md} {F : FuncId → Option (Fi B)} {w : World}
theorem block_lt {a : Addr} {u : Value} (h : w.cell? a = some u) : a.block < w.heap.size := by
  apply Decidable.byContradiction
  intro hn
  have : w.heap[a.block]? = none := Array.getElem?_eq_none (by omega)
  unfold World.cell? at h
  rw [this] at h
  simp at h
/-- A row that is read. -/
theorem imm_of (H : TabE B) {e : TypeId} {R : B.T e → List Value → Prop} {sz : Nat} {A : Option Addr} {l : List (B.T e)} {cap n : Nat} (h : ReadsRow R sz w A l.length l) (hc : l.length ≤ cap) (hs : sz = B.size e) (hpos : 0 < B.size e)
    (hR : ∀ x cs, R x cs → LsI (Imm w (fun b => b < w.heap.size) n) (B.enc e x) cs) : Imm w (fun b => b < w.heap.size) (n + 1) (.imm e l : VT B) (.slice A l.length cap) := by
  obtain ⟨h1, h2, h3⟩ := h
  refine ⟨A, cap, rfl, hc, h2, fun hp => ?_⟩
  obtain ⟨ad, rfl, hcell⟩ := h3 hp
  refine ⟨ad, rfl, ?_, fun j x hx => ?_⟩
  · obtain ⟨c, hcl, _, hu⟩ := hcell 0 l[0] (by simp [hp])
    have h0 : 0 < c.length := by omega
    have := hu 0 c[0] (by simp [h0])
    have := block_lt this
    rwa [add_block] at this
  · obtain ⟨c, hcl, hr, hu⟩ := hcell j x hx
    exact ⟨c, hR x c hr, fun i u hi => by rw [← hs]; exact hu i u hi⟩
theorem lsI_lits {ok : Nat → Prop} {n : Nat} {vs' : List Value} (h1 : ∀ v ∈ vs', v.oneCell' = true) : LsI (Imm w ok n) (vs'.map V.lit : List (VT B)) vs' := by
  refine ⟨by simp, fun k v c hv hc => ?_⟩
  rw [List.getElem?_map, hc] at hv
  injection hv with hv
  subst hv
  have := h1 c (List.mem_of_getElem? hc)
  cases n <;> exact ⟨rfl, this⟩
/-- An argument that is only read. -/
def argV (x : WT B) (c : Value) (vcs : List (VT B × Value)) : Arg B := ⟨.val, x, c, vcs.map fun p => ⟨p.1, p.2, none_⟩, none⟩
structure ArgV (w : World) (A : Arg B) : Prop where
  m : A.m = .val
  b : A.b = none
  lv : A.x.leaves = vs A.E
  wr : WR A.x A.c (csOf A.E)
  fin : ∀ y ∈ A.E, y.D = none_ ∧ FinR w (fun b => b < w.heap.size) y
theorem fin_lit {ok : Nat → Prop} {v : Value} {D : Nat → Prop} (h : v.oneCell' = true) : FinR w ok (⟨.lit v, v, D⟩ : Ent B) := .inl ⟨0, rfl, h⟩
theorem fin_imm {ok : Nat → Prop} {e : TypeId} {l : List (B.T e)} {c : Value} {n : Nat} {D : Nat → Prop} (h : Imm w ok n (.imm e l : VT B) c) : FinR w ok (⟨.imm e l, c, D⟩ : Ent B) := .inr (.inl ⟨e, l, n, rfl, h⟩)
theorem argV_int (k : IntKind) (x : Int) : ArgV w (argV (.one (.lit (.int k x))) (.int k x) [(.lit (.int k x), .int k x)] : Arg B) :=
  ⟨rfl, rfl, rfl, rfl, fun y hy => by simp [argV] at hy; subst hy; exact ⟨rfl, fin_lit rfl⟩⟩
theorem argV_bool (x : Bool) : ArgV w (argV (.one (.lit (.bool x))) (.bool x) [(.lit (.bool x), .bool x)] : Arg B) :=
  ⟨rfl, rfl, rfl, rfl, fun y hy => by simp [argV] at hy; subst hy; exact ⟨rfl, fin_lit rfl⟩⟩
theorem argV_string (x : ByteArray) : ArgV w (argV (.one (.lit (.string x))) (.string x) [(.lit (.string x), .string x)] : Arg B) :=
  ⟨rfl, rfl, rfl, rfl, fun y hy => by simp [argV] at hy; subst hy; exact ⟨rfl, fin_lit rfl⟩⟩
theorem argV_row {e : TypeId} {l : List (B.T e)} {c : Value} {n : Nat} (h : Imm w (fun b => b < w.heap.size) n (.imm e l : VT B) c) : ArgV w (argV (.one (.imm e l)) c [(.imm e l, c)] : Arg B) :=
  ⟨rfl, rfl, rfl, rfl, fun y hy => by simp [argV] at hy; subst hy; exact ⟨rfl, fin_imm h⟩⟩
theorem argV_agg {vcs : List (VT B × Value)} (h : ∀ p ∈ vcs, FinR w (fun b => b < w.heap.size) (⟨p.1, p.2, none_⟩ : Ent B)) : ArgV w (argV (.agg (vcs.map (·.1))) (.agg (vcs.map (·.2)).toArray) vcs) :=
  ⟨rfl, rfl, by simp [argV, W.leaves, vs, Function.comp_def], by simp [argV, WR, csOf, Function.comp_def], fun y hy => by
    simp only [argV, List.mem_map] at hy
    obtain ⟨p, hp, rfl⟩ := hy
    exact ⟨rfl, h p hp⟩⟩
theorem pre_val {As : List (Arg B)} (h : ∀ A ∈ As, ArgV w A) (hgl : (∀ b, B.gb b → b < w.heap.size) ∧ B.glob w) : Pre w (fun b => b < w.heap.size) As := by
  have hD : ∀ b, ¬ Dst As b := by
    rintro b ⟨A, hA, ⟨y, hy, hb⟩ | hb⟩
    · rw [((h A hA).fin y hy).1] at hb; exact hb
    · rw [(h A hA).b] at hb; cases hb
  exact { gl := hgl
          ok := fun A hA => ⟨fun y hy => ((h A hA).fin y hy).2, by rw [(h A hA).m]; exact ⟨(h A hA).b, (h A hA).lv, (h A hA).wr⟩⟩
          okl := fun b hb => ⟨hb, hD b⟩
          dlt := fun b hb => (hD b hb).elim
          dis := fun i j k l A A' x y hA _ hx _ b hb _ => by rw [((h A (List.mem_of_getElem? hA)).fin x (List.mem_of_getElem? hx)).1] at hb; exact hb.elim
          bdis := fun A A' b hA _ hb => by rw [(h A hA).b] at hb; cases hb
          binj := fun i j A A' b hA _ hb => by rw [(h A (List.mem_of_getElem? hA)).b] at hb; cases hb }
/-- A law's call. -/
theorem law_calls (H : TabP P B) (HF : FunOK P F) (HX : ConOK P B M F) {f : FuncId} {fi : Fi B} (hf : F f = some fi) (hM : M f = []) {As : List (Arg B)} (hA : ∀ A ∈ As, ArgV w A) (hgl : (∀ b, B.gb b → b < w.heap.size) ∧ B.glob w)
    (hG : ∃ n, G std M F n fi.kills (den std M fi.kills fi.fn fi.body (B.gives f) (M f) (As.map (·.x))) (([], []), .one (.lit (.bool true)))) :
    Calls P f (As.map (·.c)).toArray w fun e w' => e = .returned (.bool true) ∧ Below w.heap.size w w' := by
  obtain ⟨n, hG⟩ := hG
  refine (calls_ok H HF HX n f fi hf As w _ _ (by rw [hM]; exact ⟨Nat.zero_le _, fun i A hi => (hA A (List.mem_of_getElem? hi)).m⟩) (pre_val hA hgl) hG).mono fun e w1 he => ?_
  cases e with
  | returned v =>
    obtain ⟨E, Os, post⟩ := he
    have hv : v = .bool true := by
      have h1 := post.lv
      have h2 := post.wr
      have h3 : (W.one (V.lit (Value.bool true)) : WT B).leaves = [.lit (.bool true)] := rfl
      rw [h3] at h1
      simp only [List.nil_append, List.length_nil, List.drop_zero] at h1 h2
      match E, h1 with
      | [y], h1 =>
        have hy : y.v = .lit (.bool true) := by simp [vs] at h1; exact h1.symm
        have hc : [y.c] = [v] := h2
        injection hc with hc
        rcases post.fin y (.inl (by simp)) with ⟨m, ho⟩ | ⟨e, l, m, e1, _⟩ | ⟨i, e, x, e1, _⟩
        · rw [hy] at ho
          have : y.c = .bool true := by cases m <;> exact ho.1
          rw [← hc, this]
        · rw [hy] at e1; cases e1
        · rw [hy] at e1; cases e1
    have hD : ∀ b, ¬ Dst As b := by
      rintro b ⟨A, hA', ⟨y, hy, hb⟩ | hb⟩
      · rw [((hA A hA').fin y hy).1] at hb; exact hb
      · rw [(hA A hA').b] at hb; cases hb
    exact ⟨by rw [hv], ⟨post.os, post.tape, post.output, post.size, fun b hb => post.keep b hb (hD b)⟩⟩
  | _ => exact he.elim
end
end Go.I

/-! ILinkC -/
set_option linter.unusedVariables false
set_option linter.unusedSimpArgs false
namespace Go.I
open Go.RowKit Go.Proofs.YtogfddilolannaaDoorW.PrintWords
section
variable {P : Program} {B : Tab} {M : FuncId → List Md} {F : FuncId → Option (Fi B)} {w : World} {ok0 : Nat → Prop}
theorem arg_lit {A : Arg B} {v : Value} (h : A.OK w ok0) (hm : A.m = .val) (hx : A.x = .one (.lit v)) : A.c = v := by
  obtain ⟨h1, h2⟩ := h
  rw [hm] at h2
  obtain ⟨_, h3, h4⟩ := h2
  rw [hx] at h3 h4
  obtain ⟨y, hE⟩ : ∃ y, A.E = [y] := by
    have : A.E.length = 1 := by have := congrArg List.length h3; simpa [vs, W.leaves] using this.symm
    exact List.length_eq_one_iff.1 this
  rw [hE] at h3
  have hy : y.v = .lit v := by simp [vs, W.leaves] at h3; exact h3.symm
  have hc : [y.c] = [A.c] := by have : csOf A.E = [A.c] := h4; rw [hE] at this; exact this
  injection hc with hc
  rcases h1 y (by rw [hE]; simp) with ⟨m, ho⟩ | ⟨e, l, m, e1, _⟩ | ⟨i, e, x, e1, _⟩
  · rw [hy] at ho
    have : y.c = v := by cases m <;> exact ho.1
    rw [← hc, this]
  · rw [hy] at e1; cases e1
  · rw [hy] at e1; cases e1
theorem arg_imm {A : Arg B} {e : TypeId} {l : List (B.T e)} (h : A.OK w ok0) (hm : A.m = .val) (hx : A.x = .one (.imm e l)) : ∃ n, Imm w ok0 n (.imm e l : VT B) A.c := by
  obtain ⟨h1, h2⟩ := h
  rw [hm] at h2
  obtain ⟨_, h3, h4⟩ := h2
  rw [hx] at h3 h4
  obtain ⟨y, hE⟩ : ∃ y, A.E = [y] := by
    have : A.E.length = 1 := by have := congrArg List.length h3; simpa [vs, W.leaves] using this.symm
    exact List.length_eq_one_iff.1 this
  rw [hE] at h3
  have hy : y.v = .imm e l := by simp [vs, W.leaves] at h3; exact h3.symm
  have hc : [y.c] = [A.c] := by have : csOf A.E = [A.c] := h4; rw [hE] at this; exact this
  injection hc with hc
  rcases h1 y (by rw [hE]; simp) with ⟨m, ho⟩ | ⟨e', l', m, e1, e2⟩ | ⟨i, e', x', e1, _⟩
  · rw [hy] at ho; cases m <;> exact ho.elim
  · rw [hy] at e1; cases e1
    exact ⟨m, by rw [← hc]; exact e2⟩
  · rw [hy] at e1; cases e1
/-- A row that is read, the other way round. -/
theorem reads_of (H : TabE B) {e : TypeId} {R : B.T e → List Value → Prop} {sz n : Nat} {l : List (B.T e)} {c : Value} (h : Imm w ok0 n (.imm e l : VT B) c) (hs : sz = B.size e)
    (hR : ∀ m x cs, LsI (Imm w ok0 m) (B.enc e x) cs → R x cs) : ∃ A cap, c = .slice A l.length cap ∧ l.length ≤ cap ∧ ReadsRow R sz w A l.length l := by
  cases n with
  | zero => exact h.elim
  | succ n =>
    obtain ⟨A, cap, rfl, h1, h2, h3⟩ := h
    refine ⟨A, cap, rfl, h1, rfl, h2, fun hp => ?_⟩
    obtain ⟨ad, rfl, _, hrow⟩ := h3 hp
    refine ⟨ad, rfl, fun j x hx => ?_⟩
    obtain ⟨cs, k1, k2⟩ := hrow j x hx
    exact ⟨cs, by rw [← k1.1, H.enc_len, hs], hR n x cs k1, fun i u hu => by rw [hs]; exact k2 i u hu⟩
theorem lsI_cells {m : Nat} {vs' : List Value} {cs : List Value} (h : LsI (Imm w ok0 m) (vs'.map V.lit : List (VT B)) cs) : cs = vs' := by
  obtain ⟨h1, h2⟩ := h
  have h1 : vs'.length = cs.length := by simpa using h1
  apply List.ext_getElem?
  intro k
  cases hc : cs[k]? with
  | none => have := List.getElem?_eq_none_iff.1 hc; rw [List.getElem?_eq_none (by omega)]
  | some c =>
    have hk : k < vs'.length := by have := (List.getElem?_eq_some_iff.1 hc).1; omega
    have := h2 k (.lit vs'[k]) c (by simp [hk]) hc
    have : c = vs'[k] := by cases m <;> exact this.1
    rw [this]; simp [hk]
/-- What comes back is data alone, and nothing elder has changed. -/
theorem post_lit {As : List (Arg B)} {r : Res B} {v : Value} {w1 : World} {us : List Value} (hm : ∀ A ∈ As, A.m = .val) (hp : Pre w ok0 As) (h1 : r.1 = ([], [])) (h2 : r.2.leaves = us.map V.lit) (h3 : ∀ u ∈ us, u.oneCell' = true) (h4 : WR r.2 v us) (hb : Below w.heap.size w w1) :
    Post false w ok0 As r v w1 (us.map fun u => ⟨.lit u, u, none_⟩) [] := by
  have hbn : As.filterMap (·.b) = [] := by
    rw [List.filterMap_eq_nil_iff]
    intro A hA
    have := (hp.ok A hA).2
    rw [hm A hA] at this
    exact this.1
  have hE : ∀ y, y ∈ (us.map fun u => (⟨.lit u, u, none_⟩ : Ent B)) → ∃ u ∈ us, y = ⟨.lit u, u, none_⟩ := fun y hy => by
    obtain ⟨u, hu, rfl⟩ := List.mem_map.1 hy
    exact ⟨u, hu, rfl⟩
  have hD : ∀ y b, y ∈ (us.map fun u => (⟨.lit u, u, none_⟩ : Ent B)) → ¬ y.D b := fun y b hy hb => by
    obtain ⟨u, _, rfl⟩ := hE y hy
    exact hb
  exact {
    lv := by rw [h1, h2]; simp [vs, Function.comp_def]
    mz := fun _ => by rw [h1]
    mcs := fun e => by cases e
    wr := by rw [h1]; simp only [List.length_nil, List.drop_zero]; rw [show csOf (us.map fun u => (⟨.lit u, u, none_⟩ : Ent B)) = us by simp [csOf, Function.comp_def]]; exact h4
    out := by rw [h1]; rfl
    blk := fun i b O hi => by rw [hbn] at hi; simp at hi
    len := by rw [hbn]; rfl
    fin := fun y hy => by
      rcases hy with hy | ⟨O, hO, _⟩
      · obtain ⟨u, hu, rfl⟩ := hE y hy
        exact fin_lit (h3 u hu)
      · cases hO
    disE := fun j k x y hx _ b hb _ => (hD x b (List.mem_of_getElem? hx) hb).elim
    disO := fun i j k l O O' x y hO => by simp at hO
    disEO := fun x hx O hO => by cases hO
    dlt := fun y hy b hb => by
      rcases hy with hy | ⟨O, hO, _⟩
      · exact (hD y b hy hb).elim
      · cases hO
    os := hb.os
    tape := hb.tape
    output := hb.output
    size := hb.size
    keep := fun b hlt _ => hb.block b hlt }
end
end Go.I

/-! ILinkO -/
set_option linter.unusedVariables false
set_option linter.unusedSimpArgs false
namespace Go.I
open Go.RowKit Go.ChangeShapes Go.WideShapes Go.Proofs.YtogfddilolannaaDoorW.PrintWords
section
variable {P : Program} {B : Tab} {t : TypeId}
abbrev okW (w : World) (b : Nat) : Prop := b < w.heap.size
/-- What reads at type t is data of the interpreter's: its leaves. -/
def OpI (P : Program) (t : TypeId) (D : Nat) {α : Type} (vs : α → List (VT B)) (wf : α → Prop) : Prop :=
  ∀ {H : Type} {enc : TypeId × Value → H} {w : World} {base : Nat} {spare : Nat → Bool} {held : Bool} {n : Nat} {cs : List Value} {x : DataW H × List MemPlace},
    DataW.trod enc P w base spare held n t cs = some x → (∀ m, m ∈ x.1.weights P t → m ≤ reachBytes) → ∃ y : α, LsI (Imm w (okW w) D) (vs y) cs ∧ wf y
theorem lsI_one {w : World} {ok : Nat → Prop} {D : Nat} {u : Value} (h : u.oneCell' = true) : LsI (Imm w ok D) ([.lit u] : List (VT B)) [u] := lsI_lits (B := B) (vs' := [u]) (by simpa using h)
theorem LsI.le {w : World} {ok : Nat → Prop} {D D' : Nat} {vs : List (VT B)} {cs : List Value} (h : LsI (Imm w ok D) vs cs) (hD : D ≤ D') : LsI (Imm w ok D') vs cs := h.imp fun _ _ hi => hi.le hD
theorem LsI.app {R : VT B → Value → Prop} {a b : List (VT B)} {c d : List Value} (h1 : LsI R a c) (h2 : LsI R b d) : LsI R (a ++ b) (c ++ d) := by
  refine ⟨by simp [h1.1, h2.1], fun k v u hv hu => ?_⟩
  rcases Nat.lt_or_ge k a.length with hk | hk
  · rw [List.getElem?_append_left hk] at hv
    rw [List.getElem?_append_left (by rw [← h1.1]; exact hk)] at hu
    exact h1.2 k v u hv hu
  · rw [List.getElem?_append_right hk] at hv
    rw [List.getElem?_append_right (by rw [← h1.1]; exact hk), ← h1.1] at hu
    exact h2.2 _ v u hv hu
theorem opI_int {k : IntKind} (ht : P.underlying t = some (.int k)) : OpI (B := B) P t 0 (fun y : Int => [.lit (.int k y)]) (fun n => (Lit.int k n).wf = true) := by
  intro H enc w base spare held n cs x h _
  obtain ⟨z, rfl, _, hw⟩ := DataW.trod_int ht h
  exact ⟨z, lsI_one rfl, hw⟩
theorem opI_bool (ht : P.underlying t = some .bool) : OpI (B := B) P t 0 (fun y : Bool => [.lit (.bool y)]) (fun _ => True) := by
  intro H enc w base spare held n cs x h _
  obtain ⟨z, rfl, _⟩ := DataW.trod_bool ht h
  exact ⟨z, lsI_one rfl, trivial⟩
theorem opI_str (ht : P.underlying t = some .string) : OpI (B := B) P t 0 (fun y : ByteArray => [.lit (.string y)]) (fun s => s.size ≤ 140737488351232) := by
  intro H enc w base spare held n cs x h hm
  obtain ⟨z, rfl, rfl, _⟩ := DataW.trod_string ht h
  refine ⟨z, lsI_one rfl, ?_⟩
  have h1 := hm z.data.toList.length (by simp [DataW.weights])
  rw [Array.length_toList] at h1
  exact h1
theorem memWA {H : Type} {e : TypeId} : ∀ {l : List (DataW H)} {d : DataW H} {m : Nat}, d ∈ l → m ∈ d.weights P e → m ∈ DataW.weightsAll P e l
  | [], _, _, h, _ => by simp at h
  | a :: l, d, m, h, hm => by
    rw [DataW.weightsAll]
    rcases List.mem_cons.1 h with rfl | h
    · exact List.mem_append_left _ hm
    · exact List.mem_append_right _ (memWA h hm)
theorem cellsG {w : World} {base : Nat} {a : Addr} {n : Nat} {cs : List Value} (h : w.cells? base a n = some cs) : cs.length = n ∧ ∀ i u, cs[i]? = some u → w.cell? (a.add i) = some u := by
  unfold World.cells? at h
  split at h
  · exact ⟨by simpa using mapM_some_length h, fun i u hu => by
      have hl : i < n := by
        have h1 := mapM_some_length h
        have h2 := (List.getElem?_eq_some_iff.1 hu).1
        rw [List.length_range] at h1
        omega
      have := mapM_some_get h i i (by simp [hl])
      rw [hu] at this
      exact this⟩
  · cases h
theorem opI_slice {e : TypeId} {D : Nat} {wf : B.T e → Prop} (ht : P.underlying t = some (.slice e)) (he : OpI P e D (B.enc e) wf) {W : Nat} (hB : P.bytesOf e = W) (hsz : P.cellsOf e = B.size e) (hpos : 0 < B.size e) :
    OpI P t (D + 1) (fun l : List (B.T e) => [.own e l]) (fun xs => xs.length ≤ maxLen ∧ xs.length * W ≤ 140737488351232 ∧ ∀ x ∈ xs, wf x) := by
  intro H enc w base spare held n cs x h hm
  have one : ∀ {v : VT B} {c : Value}, Imm w (okW w) (D + 1) v c → LsI (Imm w (okW w) (D + 1)) [v] [c] := fun hi => ⟨rfl, fun k v c hv hc => by
    match k, hv, hc with
    | 0, hv, hc => simp only [List.getElem?_cons_zero, Option.some.injEq] at hv hc; subst hv; subst hc; exact hi⟩
  rcases Deep.open_slice ht h with ⟨rfl, rfl⟩ | ⟨a, len, cap, m, n', D', Pl, rfl, _, hlc, hcm, hmm, rfl, hel⟩
  · exact ⟨[], one (show ImmRow w (okW w) (Imm w (okW w) D) e [] (.slice none 0 0) from ⟨none, 0, rfl, Nat.le_refl _, by simp, fun hp => absurd hp (by simp)⟩), by simp, by simp, by simp⟩
  have hlm : len ≤ m := by rw [hmm]; split <;> omega
  have hw1 : (len + (m - len)) * W ≤ reachBytes := by
    refine hm _ ?_
    simp [DataW.weights, ht, hB]
  have key : ∀ i, i < len → ∃ y : B.T e, (∃ c, c.length = B.size e ∧ LsI (Imm w (okW w) D) (B.enc e y) c ∧ ∀ j u, c[j]? = some u → w.cell? (a.add (i * B.size e + j)) = some u) ∧ wf y := by
    intro i hi
    obtain ⟨cs', hc, htr⟩ := hel i (by omega)
    obtain ⟨hcl, hcc⟩ := cellsG hc
    obtain ⟨y, hK, hwf⟩ := he htr (fun z hz => hm z (by
      simp only [DataW.weights, ht]
      refine List.mem_cons_of_mem _ (List.mem_append_left _ (memWA ?_ hz))
      exact List.mem_map.2 ⟨i, List.mem_range.2 hi, rfl⟩))
    refine ⟨y, ⟨cs', by rw [hcl, hsz], hK, fun j u hu => ?_⟩, hwf⟩
    have := hcc j u hu
    rw [Deep.add_add, hsz] at this
    exact this
  have hex : ∀ q, q ≤ len → ∃ xs : List (B.T e), xs.length = q ∧ ∀ i y, xs[i]? = some y → (∃ c, c.length = B.size e ∧ LsI (Imm w (okW w) D) (B.enc e y) c ∧ ∀ j u, c[j]? = some u → w.cell? (a.add (i * B.size e + j)) = some u) ∧ wf y := by
    intro q
    induction q with
    | zero => exact fun _ => ⟨[], rfl, fun i y hy => by simp at hy⟩
    | succ q ih =>
      intro hq
      obtain ⟨xs, hx, hxx⟩ := ih (by omega)
      obtain ⟨y, hy⟩ := key q (by omega)
      refine ⟨xs ++ [y], by simp [hx], fun i z hz => ?_⟩
      rcases Nat.lt_or_ge i xs.length with hi | hi
      · rw [List.getElem?_append_left hi] at hz
        exact hxx i z hz
      · have hi2 : i = xs.length := by
          have := (List.getElem?_eq_some_iff.1 hz).1
          rw [List.length_append, List.length_singleton] at this
          omega
        subst hi2
        have : y = z := by simpa using hz
        subst this
        rw [hx]
        exact hy
  obtain ⟨xs, hx, hxx⟩ := hex len (Nat.le_refl _)
  have hmax : len ≤ 9223372036854775807 := by
    have : maxLen ≤ 9223372036854775807 := by decide
    omega
  refine ⟨xs, one (show ImmRow w (okW w) (Imm w (okW w) D) e xs _ from ⟨some a, cap, by rw [hx], by omega, by rw [hx]; exact hmax, fun hp => ⟨a, rfl, ?_, fun j x hj => ?_⟩⟩), by omega, ?_, fun y hy => ?_⟩
  · obtain ⟨⟨c, hc, hl, hu⟩, _⟩ := hxx 0 xs[0] (by simp [hp])
    have h0 : 0 < c.length := by omega
    have := block_lt (hu 0 c[0] (by simp [h0]))
    rwa [add_block] at this
  · obtain ⟨⟨c, hc, hl, hu⟩, _⟩ := hxx j x hj
    exact ⟨c, hl, hu⟩
  · rw [hx]
    exact Nat.le_trans (Nat.mul_le_mul_right _ (by omega)) hw1
  · obtain ⟨i, hi, rfl⟩ := List.mem_iff_getElem.1 hy
    exact (hxx i _ (List.getElem?_eq_getElem hi)).2
/-- A struct's fields from one place on. -/
def OpL (P : Program) (fs : List Field) (off : Nat) (D : Nat) {α : Type} (vs : α → List (VT B)) (wf : α → Prop) (sz : Nat) : Prop :=
  ∀ {H : Type} {enc : TypeId × Value → H} {w : World} {base : Nat} {spare : Nat → Bool} {held : Bool} {n : Nat} {cs : List Value} {xs : List (DataW H × List MemPlace)},
    xs.length = fs.length → (∀ (i : Nat) (f : Field), fs[i]? = some f → DataW.trod enc P w base spare held n f.type ((cs.drop f.offset).take (P.cellsOf f.type)) = xs[i]?) →
    (∀ m, m ∈ DataW.weightsEach P (fs.map (·.type)) (xs.map (·.1)) → m ≤ reachBytes) → cs.length = off + sz → ∃ y : α, LsI (Imm w (okW w) D) (vs y) (cs.drop off) ∧ wf y
theorem opL_one {D Df : Nat} {α : Type} {vs : α → List (VT B)} {wf : α → Prop} {f : Field} {off sz : Nat} (h : OpI P f.type Df vs wf) (ho : f.offset = off) (hc : P.cellsOf f.type = sz) (hD : Df ≤ D) : OpL P [f] off D vs wf sz := by
  intro H enc w base spare held n cs xs hl hx hm hcs
  match xs, hl with
  | [x], _ =>
    have h1 := hx 0 f rfl
    rw [ho, hc, List.take_of_length_le (by rw [List.length_drop]; omega)] at h1
    obtain ⟨y, hy, hw⟩ := h h1 (fun m hmm => hm m (by simp [DataW.weightsEach, hmm]))
    exact ⟨y, hy.le hD, hw⟩
theorem opL_cons {D Df : Nat} {α β : Type} {vs : α → List (VT B)} {wf : α → Prop} {vs2 : β → List (VT B)} {wf2 : β → Prop} {f : Field} {fs : List Field} {off sz sz2 : Nat} (h : OpI P f.type Df vs wf) (ho : f.offset = off) (hc : P.cellsOf f.type = sz) (hD : Df ≤ D)
    (h2 : OpL P fs (off + sz) D vs2 wf2 sz2) : OpL P (f :: fs) off D (fun y : α × β => vs y.1 ++ vs2 y.2) (fun y => wf y.1 ∧ wf2 y.2) (sz + sz2) := by
  intro H enc w base spare held n cs xs hl hx hm hcs
  match xs, hl with
  | x :: xs, hl =>
    have h1 := hx 0 f rfl
    rw [ho, hc] at h1
    obtain ⟨y1, hK1, hw1⟩ := h h1 (fun m hmm => hm m (by simp [DataW.weightsEach, hmm]))
    obtain ⟨y2, hK2, hw2⟩ := h2 (xs := xs) (by simpa using hl) (fun i g hg => hx (i + 1) g hg) (fun m hmm => hm m (by simp only [List.map_cons, DataW.weightsEach]; exact List.mem_append_right _ hmm)) (by omega)
    refine ⟨(y1, y2), ?_, hw1, hw2⟩
    have := (hK1.le hD).app hK2
    rwa [← List.drop_drop, List.take_append_drop] at this
theorem opI_struct {D : Nat} {α : Type} {vs : α → List (VT B)} {wf : α → Prop} {fs : Array Field} {sz : Nat} (ht : P.underlying t = some (.struct fs)) (h : OpL P fs.toList 0 D vs wf sz) (hc : P.cellsOf t = sz) : OpI P t D vs wf := by
  intro H enc w base spare held n cs x htr hm
  obtain ⟨xs, n', _, rfl, hcs, hxl, hx⟩ := DataW.trod_struct ht htr
  have := h (enc := enc) (w := w) (base := base) (spare := spare) (held := held) (n := n') (cs := cs) (xs := xs) (by simpa using hxl) (fun i f hf => hx i f (by simpa using hf)) (fun m hmm => hm m (by
    simp only [DataW.weights, ht]
    exact hmm)) (by rw [hcs, hc]; omega)
  simpa using this
theorem opI_iso {D : Nat} {α β : Type} {vs : α → List (VT B)} {vs' : β → List (VT B)} {wf : α → Prop} {wf' : β → Prop} {g : α → β} (h : OpI P t D vs wf) (hv : ∀ y, vs y = vs' (g y)) (hw : ∀ y, wf y → wf' (g y)) : OpI P t D vs' wf' := by
  intro H enc w base spare held n cs x htr hm
  obtain ⟨y, hK, hy⟩ := h htr hm
  exact ⟨g y, hv y ▸ hK, hw y hy⟩
/-! ### arguments of a law -/
theorem fin_imm' {w : World} {D : Nat} {v : VT B} {c : Value} (h : Imm w (okW w) D v c) : FinR w (okW w) (⟨v.toImm, c, none_⟩ : Ent B) := by
  cases v with
  | lit u => exact .inl ⟨0, by cases D <;> exact h⟩
  | own e l => cases D with
    | zero => exact h.elim
    | succ D => exact .inr (.inl ⟨e, l, D + 1, rfl, h⟩)
  | imm e l => cases D with
    | zero => exact h.elim
    | succ D => exact .inr (.inl ⟨e, l, D + 1, rfl, h⟩)
  | _ => cases D <;> exact h.elim
/-- A struct handed to a law. -/
theorem argV_struct {w : World} {D : Nat} {vs : List (VT B)} {cs : List Value} (h : LsI (Imm w (okW w) D) vs cs) : ArgV w (argV (.agg (vs.map V.toImm)) (.agg cs.toArray) ((vs.map V.toImm).zip cs) : Arg B) := by
  have hl : (vs.map V.toImm).length = cs.length := by rw [List.length_map]; exact h.1
  have hz : ∀ p ∈ (vs.map V.toImm).zip cs, FinR w (okW w) (⟨p.1, p.2, none_⟩ : Ent B) := by
    intro p hp
    obtain ⟨k, hk⟩ := List.mem_iff_getElem?.1 hp
    rw [List.getElem?_zip_eq_some] at hk
    obtain ⟨h1, h2⟩ := hk
    rw [List.getElem?_map, Option.map_eq_some_iff] at h1
    obtain ⟨v, h3, h4⟩ := h1
    rw [← h4]
    exact fin_imm' (h.2 k v p.2 h3 h2)
  have := argV_agg hz
  rwa [List.map_fst_zip (by omega), List.map_snd_zip (by omega)] at this
/-- A row handed to a law. -/
theorem argV_own {w : World} {D : Nat} {e : TypeId} {l : List (B.T e)} {c : Value} (h : LsI (Imm w (okW w) D) [.own e l] [c]) : ArgV w (argV (.one (.imm e l)) c [(.imm e l, c)] : Arg B) := by
  have := h.2 0 _ _ rfl rfl
  cases D with
  | zero => exact this.elim
  | succ D => exact argV_row (n := D + 1) this
end
end Go.I

/-! IExt -/
set_option linter.unusedVariables false
set_option linter.unusedSimpArgs false
namespace Go.I
open Go.RowKit Go.Proofs.YtogfddilolannaaDoorW.PrintWords
section
variable {P : Program} {B : Tab} {M : FuncId → List Md} {F : FuncId → Option (Fi B)} {w : World} {ok0 : Nat → Prop}
/-- What comes back owns nothing: data, or rows that are read from then on; nothing elder has changed. -/
theorem post_imm {As : List (Arg B)} {r : Res B} {v : Value} {w1 : World} {E : List (Ent B)} (hm : ∀ A ∈ As, A.m = .val) (hp : Pre w ok0 As) (h1 : r.1 = ([], [])) (h2 : r.2.leaves = vs E) (hD : ∀ y ∈ E, y.D = none_)
    (hF : ∀ y ∈ E, FinR w1 (fun b => b < w1.heap.size ∧ (ok0 b ∨ w.heap.size ≤ b)) y) (h4 : WR r.2 v (csOf E)) (hb : Below w.heap.size w w1) : Post false w ok0 As r v w1 E [] := by
  have hbn : As.filterMap (·.b) = [] := by
    rw [List.filterMap_eq_nil_iff]
    intro A hA
    have := (hp.ok A hA).2
    rw [hm A hA] at this
    exact this.1
  have hDb : ∀ y b, y ∈ E → ¬ y.D b := fun y b hy hb => by rw [hD y hy] at hb; exact hb
  exact {
    lv := by rw [h1, h2]; simp
    mz := fun _ => by rw [h1]
    mcs := fun e => by cases e
    wr := by rw [h1]; simp only [List.length_nil, List.drop_zero]; exact h4
    out := by rw [h1]; rfl
    blk := fun i b O hi => by rw [hbn] at hi; simp at hi
    len := by rw [hbn]; rfl
    fin := fun y hy => by
      rcases hy with hy | ⟨O, hO, _⟩
      · refine (hF y hy).mono fun b hb => ⟨hb.1, hb.2.elim .inl fun h => .inr (.inr h), ?_, by rw [hbn]; simp⟩
        rintro z (hz | ⟨O, hO, _⟩)
        · exact hDb z b hz
        · cases hO
      · cases hO
    disE := fun j k x y hx _ b hb _ => (hDb x b (List.mem_of_getElem? hx) hb).elim
    disO := fun i j k l O O' x y hO => by simp at hO
    disEO := fun x hx O hO => by cases hO
    dlt := fun y hy b hb => by
      rcases hy with hy | ⟨O, hO, _⟩
      · exact (hDb y b hy hb).elim
      · cases hO
    os := hb.os
    tape := hb.tape
    output := hb.output
    size := hb.size
    keep := fun b hlt _ => hb.block b hlt }
/-- A fresh row of texts of one's own comes back. -/
theorem post_own {As : List (Arg B)} {v : VT B} {c : Value} {w1 : World} {D : Nat → Prop} {n : Nat} (hm : ∀ A ∈ As, A.m = .val) (hp : Pre w ok0 As) (ho : Own w1 n v c D) (hD : ∀ b, D b → w.heap.size ≤ b ∧ b < w1.heap.size) (hb : Below w.heap.size w w1) :
    Post false w ok0 As (([], []), .one v) c w1 [⟨v, c, D⟩] [] := by
  have hbn : As.filterMap (·.b) = [] := by
    rw [List.filterMap_eq_nil_iff]
    intro A hA
    have := (hp.ok A hA).2
    rw [hm A hA] at this
    exact this.1
  exact {
    lv := rfl
    mz := fun _ => rfl
    mcs := fun e => by cases e
    wr := rfl
    out := rfl
    blk := fun i b O hi => by rw [hbn] at hi; simp at hi
    len := by rw [hbn]; rfl
    fin := fun y hy => by
      rcases hy with hy | ⟨O, hO, _⟩
      · simp only [List.mem_cons, List.not_mem_nil, or_false] at hy
        subst hy
        exact .inl ⟨n, ho⟩
      · cases hO
    disE := fun j k x y hx hy b _ _ => by
      have h1 := (List.getElem?_eq_some_iff.1 hx).1
      have h2 := (List.getElem?_eq_some_iff.1 hy).1
      simp at h1 h2
      omega
    disO := fun i j k l O O' x y hO => by simp at hO
    disEO := fun x hx O hO => by cases hO
    dlt := fun y hy b hb => by
      rcases hy with hy | ⟨O, hO, _⟩
      · simp only [List.mem_cons, List.not_mem_nil, or_false] at hy
        subst hy
        exact ⟨(hD b hb).2, .inr (hD b hb).1, by rw [hbn]; simp⟩
      · cases hO
    os := hb.os
    tape := hb.tape
    output := hb.output
    size := hb.size
    keep := fun b hlt _ => hb.block b hlt }
theorem own_strs {e : TypeId} {w1 : World} {c : Value} {l : List (B.T e)} {cs : List Value} (hs : B.size e = 1) (hq : QRow w1 0 e 1 c l.length cs) (henc : ∀ (j : Nat) (x : B.T e), l[j]? = some x → ∃ u : Value, cs[j]? = some u ∧ B.enc e x = [.lit u] ∧ u.oneCell' = true) : Own w1 1 (.own e l : VT B) c (fun b => c.ownBlock = some b) := by
  refine ⟨cs, by rw [hs]; exact hq, fun b h => h, fun _ _ => False, fun _ _ _ h => h.elim, fun _ _ h => h.elim, fun j x hx => ?_⟩
  obtain ⟨u, h1, h2, h3⟩ := henc j x hx
  rw [hs, h2]
  have h4 : (cs.drop (j * 1)).take 1 = [u] := by
    rw [Nat.mul_one]
    apply List.ext_getElem?
    intro i
    cases i with
    | zero => simp [h1]
    | succ i => simp; omega
  rw [h4]
  refine ⟨rfl, fun _ _ => False, fun k v c hv hc => ?_, fun _ _ _ h => h.elim, fun _ _ h => h.elim⟩
  match k, hv, hc with
  | 0, hv, hc =>
    simp only [List.getElem?_cons_zero, Option.some.injEq] at hv hc
    subst hv; subst hc
    exact ⟨rfl, h3⟩
theorem below_grow (w : World) (k : Nat) (os : Array Obj) : Below w.heap.size w (Sort.grow (w.drewN k) os) := by
  refine ⟨rfl, rfl, rfl, ?_, fun b hb => ?_⟩
  · show w.heap.size ≤ (w.heap ++ os).size
    simp
  · show (w.heap ++ os)[b]? = w.heap[b]?
    rw [Array.getElem?_append_left hb]
theorem add_none (b o j : Nat) : (⟨b, o, none⟩ : Addr).add j = ⟨b, o + j, none⟩ := by
  unfold Addr.add
  split
  · rename_i e; subst e; rfl
  · rfl
theorem ba_list (s : ByteArray) : (⟨s.data.toList.toArray⟩ : ByteArray) = s := by simp
end
section
def strings_Split.f (s t : ByteArray) : Option (List ByteArray) := if s.size < 4294967281 ∧ t.size = 1 then some (Lib.splitB t 0 (Lib.countB s t) s) else none
def strings_Contains.f (s t : ByteArray) : Option Bool := if t.size = 1 then some (decide (0 ≤ Lib.indexByte s.data.toList (t.data.toList.headD 0))) else none
def strings_Join.f (l : List ByteArray) (t : ByteArray) : Option ByteArray := if l.length ≤ 140737488355328 ∧ (Lib.join (l.map (·.data.toList)) t.data.toList).length ≤ 140737488355328 then some ⟨(Lib.join (l.map (·.data.toList)) t.data.toList).toArray⟩ else none
def strconv_Itoa.f (n : Int) : Option ByteArray := if -9223372036854775808 ≤ n ∧ n ≤ 9223372036854775807 then some ⟨(Lib.itoa n).toArray⟩ else none
end
section
variable {P : Program} {B : Tab} {w : World} {ok0 : Nat → Prop}
/-- A function of data arguments. -/
theorem args1 {As : List (Arg B)} {x : Value} (h : As.map (·.x) = [.one (.lit x)]) (hp : Pre w ok0 As) (hm : ∀ A ∈ As, A.m = .val) : (As.map (·.c)).toArray = #[x] := by
  obtain ⟨A, rfl, h1⟩ := List.map_eq_singleton_iff.1 h
  simp [arg_lit (hp.ok A (by simp)) (hm A (by simp)) h1]
theorem args2 {As : List (Arg B)} {x y : Value} (h : As.map (·.x) = [.one (.lit x), .one (.lit y)]) (hp : Pre w ok0 As) (hm : ∀ A ∈ As, A.m = .val) : (As.map (·.c)).toArray = #[x, y] := by
  obtain ⟨A, As', rfl, h1, h2⟩ := List.map_eq_cons_iff.1 h
  obtain ⟨A', rfl, h3⟩ := List.map_eq_singleton_iff.1 h2
  simp [arg_lit (hp.ok A (by simp)) (hm A (by simp)) h1, arg_lit (hp.ok A' (by simp)) (hm A' (by simp)) h3]
/-- One result of one leaf of data. -/
theorem post_one {As : List (Arg B)} {v : Value} {w1 : World} (hm : ∀ A ∈ As, A.m = .val) (hp : Pre w ok0 As) (hv : v.oneCell' = true) (hb : Below w.heap.size w w1) : Post false w ok0 As (([], []), .one (.lit v)) v w1 [⟨.lit v, v, none_⟩] [] :=
  post_imm hm hp rfl rfl (by simp) (fun y hy => by simp at hy; subst hy; exact fin_lit hv) rfl hb
theorem modes_val {m : List Md} {As : List (Arg B)} (hM : m = []) (h : Modes m As) : ∀ A ∈ As, A.m = .val := fun A hA => by
  obtain ⟨i, hi⟩ := List.mem_iff_getElem?.1 hA
  rw [h.2 i A hi, hM]
  rfl
end
end Go.I
