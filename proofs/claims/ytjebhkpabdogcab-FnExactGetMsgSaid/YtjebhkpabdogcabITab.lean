/- The types of the program, as the interpreter is told of them; each is as the program has it. No condition. -/
import Derived.Test.YtjebhkpabdogcabKC
import Derived.Test.YtjebhkpabdogcabProg
import Derived.Test.YtjebhkpabdogcabXBldC
set_option linter.unusedVariables false
set_option linter.unusedSimpArgs false
set_option maxRecDepth 100000
set_option maxHeartbeats 4000000
namespace Go.I
open Go.Proofs
structure GBoundsError where
  X : Int
  Y : Int
  Signed : Bool
  Code : Int
structure GErrorAddressString where
  Msg : ByteArray
  Addr : Int
structure GSig where
  Size : Int
  Rest : Int
  Weak : List Int
  Strong : List ByteArray
structure GToken where
  Kind : Int
  Data : ByteArray
  From : Int
  Count : Int
structure GMsg where
  Kind : Int
  Place : Int
  Sig : GSig
  Tokens : List GToken
  Sum : ByteArray
structure GReader where
  Text : ByteArray
  Bad : Bool
def TT : TypeId → Type
  | 3 => Int
  | 5 => Int
  | 9 => ByteArray
  | 59 => Int
  | 64 => GToken
  | _ => Unit
def dec3 (cs : List (V TT)) : Option (TT 3) := match cs with
  | [v0] => (dInt .i64 v0).bind fun v0 => some (v0 : Int)
  | _ => none
theorem dec3_back {cs : List (V TT)} {x : TT 3} (h : dec3 cs = some x) : [.lit (.int .i64 (x : Int))] = cs := by
  unfold dec3 at h
  split at h
  · simp only [Option.bind_eq_some_iff] at h
    obtain ⟨y0, h0, hx⟩ := h
    injection hx with hx; subst hx
    rw [dInt_back h0]
  · cases h
def dec5 (cs : List (V TT)) : Option (TT 5) := match cs with
  | [v0] => (dInt .u8 v0).bind fun v0 => some (v0 : Int)
  | _ => none
theorem dec5_back {cs : List (V TT)} {x : TT 5} (h : dec5 cs = some x) : [.lit (.int .u8 (x : Int))] = cs := by
  unfold dec5 at h
  split at h
  · simp only [Option.bind_eq_some_iff] at h
    obtain ⟨y0, h0, hx⟩ := h
    injection hx with hx; subst hx
    rw [dInt_back h0]
  · cases h
def dec9 (cs : List (V TT)) : Option (TT 9) := match cs with
  | [v0] => (dStr v0).bind fun v0 => some (v0 : ByteArray)
  | _ => none
theorem dec9_back {cs : List (V TT)} {x : TT 9} (h : dec9 cs = some x) : [.lit (.string (x : ByteArray))] = cs := by
  unfold dec9 at h
  split at h
  · simp only [Option.bind_eq_some_iff] at h
    obtain ⟨y0, h0, hx⟩ := h
    injection hx with hx; subst hx
    rw [dStr_back h0]
  · cases h
def dec59 (cs : List (V TT)) : Option (TT 59) := match cs with
  | [v0] => (dInt .u32 v0).bind fun v0 => some (v0 : Int)
  | _ => none
theorem dec59_back {cs : List (V TT)} {x : TT 59} (h : dec59 cs = some x) : [.lit (.int .u32 (x : Int))] = cs := by
  unfold dec59 at h
  split at h
  · simp only [Option.bind_eq_some_iff] at h
    obtain ⟨y0, h0, hx⟩ := h
    injection hx with hx; subst hx
    rw [dInt_back h0]
  · cases h
def dec64 (cs : List (V TT)) : Option (TT 64) := match cs with
  | [v0, v1, v2, v3] => (dInt .i64 v0).bind fun v0 => (dStr v1).bind fun v1 => (dInt .i64 v2).bind fun v2 => (dInt .i64 v3).bind fun v3 => some (⟨v0, v1, v2, v3⟩ : GToken)
  | _ => none
theorem dec64_back {cs : List (V TT)} {x : TT 64} (h : dec64 cs = some x) : [.lit (.int .i64 (x : GToken).Kind), .lit (.string (x : GToken).Data), .lit (.int .i64 (x : GToken).From), .lit (.int .i64 (x : GToken).Count)] = cs := by
  unfold dec64 at h
  split at h
  · simp only [Option.bind_eq_some_iff] at h
    obtain ⟨y0, h0, y1, h1, y2, h2, y3, h3, hx⟩ := h
    injection hx with hx; subst hx
    rw [dInt_back h0, dStr_back h1, dInt_back h2, dInt_back h3]
  · cases h
noncomputable def dd (e : TypeId) : TT e := by
  unfold TT
  split
  · exact (0 : Int)
  · exact (0 : Int)
  · exact (⟨#[]⟩ : ByteArray)
  · exact (0 : Int)
  · exact (⟨0, ⟨#[]⟩, 0, 0⟩ : GToken)
  · exact ()
noncomputable def el : (e : TypeId) → ElD TT e
  | 3 => ⟨(0 : Int), fun (x : Int) => [.lit (.int .i64 x)], dec3, 1, 8, true, fun _ => rfl, fun _ _ h => dec3_back h, (fun _ (x : Int) v h => by simp only [List.mem_cons, List.not_mem_nil, or_false] at h; exact ⟨_, h, rfl⟩)⟩
  | 5 => ⟨(0 : Int), fun (x : Int) => [.lit (.int .u8 x)], dec5, 1, 1, true, fun _ => rfl, fun _ _ h => dec5_back h, (fun _ (x : Int) v h => by simp only [List.mem_cons, List.not_mem_nil, or_false] at h; exact ⟨_, h, rfl⟩)⟩
  | 9 => ⟨(⟨#[]⟩ : ByteArray), fun (x : ByteArray) => [.lit (.string x)], dec9, 1, 16, true, fun _ => rfl, fun _ _ h => dec9_back h, (fun _ (x : ByteArray) v h => by simp only [List.mem_cons, List.not_mem_nil, or_false] at h; exact ⟨_, h, rfl⟩)⟩
  | 59 => ⟨(0 : Int), fun (x : Int) => [.lit (.int .u32 x)], dec59, 1, 4, true, fun _ => rfl, fun _ _ h => dec59_back h, (fun _ (x : Int) v h => by simp only [List.mem_cons, List.not_mem_nil, or_false] at h; exact ⟨_, h, rfl⟩)⟩
  | 64 => ⟨(⟨0, ⟨#[]⟩, 0, 0⟩ : GToken), fun (x : GToken) => [.lit (.int .i64 x.Kind), .lit (.string x.Data), .lit (.int .i64 x.From), .lit (.int .i64 x.Count)], dec64, 4, 40, true, fun _ => rfl, fun _ _ h => dec64_back h, (fun _ (x : GToken) v h => by simp only [List.mem_cons, List.not_mem_nil, or_false] at h; rcases h with h | h | h | h <;> exact ⟨_, h, rfl⟩)⟩
  | e => elNone e (dd e)
noncomputable def row : (t : TypeId) → TRow Go.Proofs.Try.prog el t
  | 2 => ⟨some (false, 1), some [.lit (.int .i64 0)], none, [], some .i64, false, false, (by intro g n h; injection h with h; injection h with h1 h2; subst h1; subst h2; exact ⟨_, _, rfl, rfl, rfl, rfl, by simp, by decide⟩), (by intro z h; injection h with h; subst h; exact ⟨_, _, rfl, rfl, by simp [ZR, Value.cells, Value.oneCell']⟩), (fun _ h => by cases h), (fun _ _ _ h => by simp at h), (fun _ _ h => absurd rfl h), (fun h => by cases h), (fun h => by cases h), (by intro k h; injection h with h; subst h; rfl)⟩
  | 3 => ⟨some (false, 1), some [.lit (.int .i64 0)], none, [], some .i64, false, false, (by intro g n h; injection h with h; injection h with h1 h2; subst h1; subst h2; exact ⟨_, _, rfl, rfl, rfl, rfl, by simp, by decide⟩), (by intro z h; injection h with h; subst h; exact ⟨_, _, rfl, rfl, by simp [ZR, Value.cells, Value.oneCell']⟩), (fun _ h => by cases h), (fun _ _ _ h => by simp at h), (fun _ _ h => absurd rfl h), (fun h => by cases h), (fun h => by cases h), (by intro k h; injection h with h; subst h; rfl)⟩
  | 4 => ⟨some (false, 1), some [.lit (.bool false)], none, [], none, true, false, (by intro g n h; injection h with h; injection h with h1 h2; subst h1; subst h2; exact ⟨_, _, rfl, rfl, rfl, rfl, by simp, by decide⟩), (by intro z h; injection h with h; subst h; exact ⟨_, _, rfl, rfl, by simp [ZR, Value.cells, Value.oneCell']⟩), (fun _ h => by cases h), (fun _ _ _ h => by simp at h), (fun _ _ h => absurd rfl h), (fun h => by cases h), (fun _ => rfl), (fun _ h => by cases h)⟩
  | 5 => ⟨some (false, 1), some [.lit (.int .u8 0)], none, [], some .u8, false, false, (by intro g n h; injection h with h; injection h with h1 h2; subst h1; subst h2; exact ⟨_, _, rfl, rfl, rfl, rfl, by simp, by decide⟩), (by intro z h; injection h with h; subst h; exact ⟨_, _, rfl, rfl, by simp [ZR, Value.cells, Value.oneCell']⟩), (fun _ h => by cases h), (fun _ _ _ h => by simp at h), (fun _ _ h => absurd rfl h), (fun h => by cases h), (fun h => by cases h), (by intro k h; injection h with h; subst h; rfl)⟩
  | 6 => ⟨some (false, 1), some [.lit (.int .u8 0)], none, [], some .u8, false, false, (by intro g n h; injection h with h; injection h with h1 h2; subst h1; subst h2; exact ⟨_, _, rfl, rfl, rfl, rfl, by simp, by decide⟩), (by intro z h; injection h with h; subst h; exact ⟨_, _, rfl, rfl, by simp [ZR, Value.cells, Value.oneCell']⟩), (fun _ h => by cases h), (fun _ _ _ h => by simp at h), (fun _ _ h => absurd rfl h), (fun h => by cases h), (fun h => by cases h), (by intro k h; injection h with h; subst h; rfl)⟩
  | 7 => ⟨some (true, 4), some [.lit (.int .i64 0), .lit (.int .i64 0), .lit (.bool false), .lit (.int .u8 0)], none, [(0, 1), (1, 1), (2, 1), (3, 1)], none, false, false, (by intro g n h; injection h with h; injection h with h1 h2; subst h1; subst h2; exact ⟨_, _, rfl, rfl, rfl, rfl, by simp, by decide⟩), (by intro z h; injection h with h; subst h; exact ⟨_, _, rfl, rfl, by simp [ZR, Value.cells, Value.oneCell']⟩), (fun _ h => by cases h), (by intro f o n h; rcases f with _ | _ | _ | _ | f <;> first | (simp only [List.getElem?_cons_zero, List.getElem?_cons_succ, Option.some.injEq, Prod.mk.injEq] at h; obtain ⟨h1, h2⟩ := h; subst h1; subst h2; exact ⟨_, _, rfl, rfl, rfl, _, rfl, rfl, by decide⟩) | (simp at h; done)), (by intro z hz _; injection hz with hz; subst hz; exact ⟨_, _, fun i => (#[(0, 1), (1, 1), (2, 1), (3, 1)] : Array (Nat × Nat))[i]?, rfl, rfl, (fun i o n h => ⟨by show (#[(0, 1), (1, 1), (2, 1), (3, 1)] : Array (Nat × Nat))[i]? = some (o, n); rw [← Array.getElem?_toList]; exact h, (by decide : ∀ x ∈ ([(0, 1), (1, 1), (2, 1), (3, 1)] : List (Nat × Nat)), x.1 + x.2 ≤ 4) (o, n) (List.mem_of_getElem? h)⟩), fun parts => rfl⟩), (fun h => by cases h), (fun h => by cases h), (fun _ h => by cases h)⟩
  | 8 => ⟨some (true, 4), some [.lit (.int .i64 0), .lit (.int .i64 0), .lit (.bool false), .lit (.int .u8 0)], none, [(0, 1), (1, 1), (2, 1), (3, 1)], none, false, false, (by intro g n h; injection h with h; injection h with h1 h2; subst h1; subst h2; exact ⟨_, _, rfl, rfl, rfl, rfl, by simp, by decide⟩), (by intro z h; injection h with h; subst h; exact ⟨_, _, rfl, rfl, by simp [ZR, Value.cells, Value.oneCell']⟩), (fun _ h => by cases h), (by intro f o n h; rcases f with _ | _ | _ | _ | f <;> first | (simp only [List.getElem?_cons_zero, List.getElem?_cons_succ, Option.some.injEq, Prod.mk.injEq] at h; obtain ⟨h1, h2⟩ := h; subst h1; subst h2; exact ⟨_, _, rfl, rfl, rfl, _, rfl, rfl, by decide⟩) | (simp at h; done)), (by intro z hz _; injection hz with hz; subst hz; exact ⟨_, _, fun i => (#[(0, 1), (1, 1), (2, 1), (3, 1)] : Array (Nat × Nat))[i]?, rfl, rfl, (fun i o n h => ⟨by show (#[(0, 1), (1, 1), (2, 1), (3, 1)] : Array (Nat × Nat))[i]? = some (o, n); rw [← Array.getElem?_toList]; exact h, (by decide : ∀ x ∈ ([(0, 1), (1, 1), (2, 1), (3, 1)] : List (Nat × Nat)), x.1 + x.2 ≤ 4) (o, n) (List.mem_of_getElem? h)⟩), fun parts => rfl⟩), (fun h => by cases h), (fun h => by cases h), (fun _ h => by cases h)⟩
  | 9 => ⟨some (false, 1), some [.lit (.string ⟨#[]⟩)], none, [], none, false, true, (by intro g n h; injection h with h; injection h with h1 h2; subst h1; subst h2; exact ⟨_, _, rfl, rfl, rfl, rfl, by simp, by decide⟩), (by intro z h; injection h with h; subst h; exact ⟨_, _, rfl, rfl, by simp [ZR, Value.cells, Value.oneCell']⟩), (fun _ h => by cases h), (fun _ _ _ h => by simp at h), (fun _ _ h => absurd rfl h), (fun _ => rfl), (fun h => by cases h), (fun _ h => by cases h)⟩
  | 10 => ⟨some (false, 1), some [.lit (.string ⟨#[]⟩)], none, [], none, false, true, (by intro g n h; injection h with h; injection h with h1 h2; subst h1; subst h2; exact ⟨_, _, rfl, rfl, rfl, rfl, by simp, by decide⟩), (by intro z h; injection h with h; subst h; exact ⟨_, _, rfl, rfl, by simp [ZR, Value.cells, Value.oneCell']⟩), (fun _ h => by cases h), (fun _ _ _ h => by simp at h), (fun _ _ h => absurd rfl h), (fun _ => rfl), (fun h => by cases h), (fun _ h => by cases h)⟩
  | 11 => ⟨some (false, 1), some [.lit (.string ⟨#[]⟩)], none, [], none, false, true, (by intro g n h; injection h with h; injection h with h1 h2; subst h1; subst h2; exact ⟨_, _, rfl, rfl, rfl, rfl, by simp, by decide⟩), (by intro z h; injection h with h; subst h; exact ⟨_, _, rfl, rfl, by simp [ZR, Value.cells, Value.oneCell']⟩), (fun _ h => by cases h), (fun _ _ _ h => by simp at h), (fun _ _ h => absurd rfl h), (fun _ => rfl), (fun h => by cases h), (fun _ h => by cases h)⟩
  | 12 => ⟨some (false, 1), some [.lit (.int .u64 0)], none, [], some .u64, false, false, (by intro g n h; injection h with h; injection h with h1 h2; subst h1; subst h2; exact ⟨_, _, rfl, rfl, rfl, rfl, by simp, by decide⟩), (by intro z h; injection h with h; subst h; exact ⟨_, _, rfl, rfl, by simp [ZR, Value.cells, Value.oneCell']⟩), (fun _ h => by cases h), (fun _ _ _ h => by simp at h), (fun _ _ h => absurd rfl h), (fun h => by cases h), (fun h => by cases h), (by intro k h; injection h with h; subst h; rfl)⟩
  | 13 => ⟨some (true, 2), some [.lit (.string ⟨#[]⟩), .lit (.int .u64 0)], none, [(0, 1), (1, 1)], none, false, false, (by intro g n h; injection h with h; injection h with h1 h2; subst h1; subst h2; exact ⟨_, _, rfl, rfl, rfl, rfl, by simp, by decide⟩), (by intro z h; injection h with h; subst h; exact ⟨_, _, rfl, rfl, by simp [ZR, Value.cells, Value.oneCell']⟩), (fun _ h => by cases h), (by intro f o n h; rcases f with _ | _ | f <;> first | (simp only [List.getElem?_cons_zero, List.getElem?_cons_succ, Option.some.injEq, Prod.mk.injEq] at h; obtain ⟨h1, h2⟩ := h; subst h1; subst h2; exact ⟨_, _, rfl, rfl, rfl, _, rfl, rfl, by decide⟩) | (simp at h; done)), (by intro z hz _; injection hz with hz; subst hz; exact ⟨_, _, fun i => (#[(0, 1), (1, 1)] : Array (Nat × Nat))[i]?, rfl, rfl, (fun i o n h => ⟨by show (#[(0, 1), (1, 1)] : Array (Nat × Nat))[i]? = some (o, n); rw [← Array.getElem?_toList]; exact h, (by decide : ∀ x ∈ ([(0, 1), (1, 1)] : List (Nat × Nat)), x.1 + x.2 ≤ 2) (o, n) (List.mem_of_getElem? h)⟩), fun parts => rfl⟩), (fun h => by cases h), (fun h => by cases h), (fun _ h => by cases h)⟩
  | 14 => ⟨some (true, 2), some [.lit (.string ⟨#[]⟩), .lit (.int .u64 0)], none, [(0, 1), (1, 1)], none, false, false, (by intro g n h; injection h with h; injection h with h1 h2; subst h1; subst h2; exact ⟨_, _, rfl, rfl, rfl, rfl, by simp, by decide⟩), (by intro z h; injection h with h; subst h; exact ⟨_, _, rfl, rfl, by simp [ZR, Value.cells, Value.oneCell']⟩), (fun _ h => by cases h), (by intro f o n h; rcases f with _ | _ | f <;> first | (simp only [List.getElem?_cons_zero, List.getElem?_cons_succ, Option.some.injEq, Prod.mk.injEq] at h; obtain ⟨h1, h2⟩ := h; subst h1; subst h2; exact ⟨_, _, rfl, rfl, rfl, _, rfl, rfl, by decide⟩) | (simp at h; done)), (by intro z hz _; injection hz with hz; subst hz; exact ⟨_, _, fun i => (#[(0, 1), (1, 1)] : Array (Nat × Nat))[i]?, rfl, rfl, (fun i o n h => ⟨by show (#[(0, 1), (1, 1)] : Array (Nat × Nat))[i]? = some (o, n); rw [← Array.getElem?_toList]; exact h, (by decide : ∀ x ∈ ([(0, 1), (1, 1)] : List (Nat × Nat)), x.1 + x.2 ≤ 2) (o, n) (List.mem_of_getElem? h)⟩), fun parts => rfl⟩), (fun h => by cases h), (fun h => by cases h), (fun _ h => by cases h)⟩
  | 21 => ⟨some (false, 1), some [.lit (.int .i32 0)], none, [], some .i32, false, false, (by intro g n h; injection h with h; injection h with h1 h2; subst h1; subst h2; exact ⟨_, _, rfl, rfl, rfl, rfl, by simp, by decide⟩), (by intro z h; injection h with h; subst h; exact ⟨_, _, rfl, rfl, by simp [ZR, Value.cells, Value.oneCell']⟩), (fun _ h => by cases h), (fun _ _ _ h => by simp at h), (fun _ _ h => absurd rfl h), (fun h => by cases h), (fun h => by cases h), (by intro k h; injection h with h; subst h; rfl)⟩
  | 22 => ⟨some (false, 1), some [.own 5 []], some 5, [], none, false, false, (by intro g n h; injection h with h; injection h with h1 h2; subst h1; subst h2; exact ⟨_, _, rfl, rfl, rfl, rfl, by simp, by decide⟩), (by intro z h; injection h with h; subst h; exact ⟨_, _, rfl, rfl, by simp [ZR, Value.cells, Value.oneCell']⟩), (by intro e h; injection h with h; subst h; exact ⟨rfl, _, _, rfl, rfl, rfl, rfl, rfl, by decide, by decide⟩), (fun _ _ _ h => by simp at h), (fun _ _ h => absurd rfl h), (fun h => by cases h), (fun h => by cases h), (fun _ h => by cases h)⟩
  | 23 => ⟨some (false, 1), some [.own 59 []], some 59, [], none, false, false, (by intro g n h; injection h with h; injection h with h1 h2; subst h1; subst h2; exact ⟨_, _, rfl, rfl, rfl, rfl, by simp, by decide⟩), (by intro z h; injection h with h; subst h; exact ⟨_, _, rfl, rfl, by simp [ZR, Value.cells, Value.oneCell']⟩), (by intro e h; injection h with h; subst h; exact ⟨rfl, _, _, rfl, rfl, rfl, rfl, rfl, by decide, by decide⟩), (fun _ _ _ h => by simp at h), (fun _ _ h => absurd rfl h), (fun h => by cases h), (fun h => by cases h), (fun _ h => by cases h)⟩
  | 24 => ⟨some (false, 1), some [.own 9 []], some 9, [], none, false, false, (by intro g n h; injection h with h; injection h with h1 h2; subst h1; subst h2; exact ⟨_, _, rfl, rfl, rfl, rfl, by simp, by decide⟩), (by intro z h; injection h with h; subst h; exact ⟨_, _, rfl, rfl, by simp [ZR, Value.cells, Value.oneCell']⟩), (by intro e h; injection h with h; subst h; exact ⟨rfl, _, _, rfl, rfl, rfl, rfl, rfl, by decide, by decide⟩), (fun _ _ _ h => by simp at h), (fun _ _ h => absurd rfl h), (fun h => by cases h), (fun h => by cases h), (fun _ h => by cases h)⟩
  | 25 => ⟨some (true, 4), some [.lit (.int .i64 0), .lit (.int .i64 0), .own 59 [], .own 9 []], none, [(0, 1), (1, 1), (2, 1), (3, 1)], none, false, false, (by intro g n h; injection h with h; injection h with h1 h2; subst h1; subst h2; exact ⟨_, _, rfl, rfl, rfl, rfl, by simp, by decide⟩), (by intro z h; injection h with h; subst h; exact ⟨_, _, rfl, rfl, by simp [ZR, Value.cells, Value.oneCell']⟩), (fun _ h => by cases h), (by intro f o n h; rcases f with _ | _ | _ | _ | f <;> first | (simp only [List.getElem?_cons_zero, List.getElem?_cons_succ, Option.some.injEq, Prod.mk.injEq] at h; obtain ⟨h1, h2⟩ := h; subst h1; subst h2; exact ⟨_, _, rfl, rfl, rfl, _, rfl, rfl, by decide⟩) | (simp at h; done)), (by intro z hz _; injection hz with hz; subst hz; exact ⟨_, _, fun i => (#[(0, 1), (1, 1), (2, 1), (3, 1)] : Array (Nat × Nat))[i]?, rfl, rfl, (fun i o n h => ⟨by show (#[(0, 1), (1, 1), (2, 1), (3, 1)] : Array (Nat × Nat))[i]? = some (o, n); rw [← Array.getElem?_toList]; exact h, (by decide : ∀ x ∈ ([(0, 1), (1, 1), (2, 1), (3, 1)] : List (Nat × Nat)), x.1 + x.2 ≤ 4) (o, n) (List.mem_of_getElem? h)⟩), fun parts => rfl⟩), (fun h => by cases h), (fun h => by cases h), (fun _ h => by cases h)⟩
  | 26 => ⟨some (true, 4), some [.lit (.int .i64 0), .lit (.int .i64 0), .own 59 [], .own 9 []], none, [(0, 1), (1, 1), (2, 1), (3, 1)], none, false, false, (by intro g n h; injection h with h; injection h with h1 h2; subst h1; subst h2; exact ⟨_, _, rfl, rfl, rfl, rfl, by simp, by decide⟩), (by intro z h; injection h with h; subst h; exact ⟨_, _, rfl, rfl, by simp [ZR, Value.cells, Value.oneCell']⟩), (fun _ h => by cases h), (by intro f o n h; rcases f with _ | _ | _ | _ | f <;> first | (simp only [List.getElem?_cons_zero, List.getElem?_cons_succ, Option.some.injEq, Prod.mk.injEq] at h; obtain ⟨h1, h2⟩ := h; subst h1; subst h2; exact ⟨_, _, rfl, rfl, rfl, _, rfl, rfl, by decide⟩) | (simp at h; done)), (by intro z hz _; injection hz with hz; subst hz; exact ⟨_, _, fun i => (#[(0, 1), (1, 1), (2, 1), (3, 1)] : Array (Nat × Nat))[i]?, rfl, rfl, (fun i o n h => ⟨by show (#[(0, 1), (1, 1), (2, 1), (3, 1)] : Array (Nat × Nat))[i]? = some (o, n); rw [← Array.getElem?_toList]; exact h, (by decide : ∀ x ∈ ([(0, 1), (1, 1), (2, 1), (3, 1)] : List (Nat × Nat)), x.1 + x.2 ≤ 4) (o, n) (List.mem_of_getElem? h)⟩), fun parts => rfl⟩), (fun h => by cases h), (fun h => by cases h), (fun _ h => by cases h)⟩
  | 27 => ⟨some (false, 1), some [.own 64 []], some 64, [], none, false, false, (by intro g n h; injection h with h; injection h with h1 h2; subst h1; subst h2; exact ⟨_, _, rfl, rfl, rfl, rfl, by simp, by decide⟩), (by intro z h; injection h with h; subst h; exact ⟨_, _, rfl, rfl, by simp [ZR, Value.cells, Value.oneCell']⟩), (by intro e h; injection h with h; subst h; exact ⟨rfl, _, _, rfl, rfl, rfl, rfl, rfl, by decide, by decide⟩), (fun _ _ _ h => by simp at h), (fun _ _ h => absurd rfl h), (fun h => by cases h), (fun h => by cases h), (fun _ h => by cases h)⟩
  | 28 => ⟨some (true, 8), some [.lit (.int .i64 0), .lit (.int .i64 0), .lit (.int .i64 0), .lit (.int .i64 0), .own 59 [], .own 9 [], .own 64 [], .lit (.string ⟨#[]⟩)], none, [(0, 1), (1, 1), (2, 4), (6, 1), (7, 1)], none, false, false, (by intro g n h; injection h with h; injection h with h1 h2; subst h1; subst h2; exact ⟨_, _, rfl, rfl, rfl, rfl, by simp, by decide⟩), (by intro z h; injection h with h; subst h; exact ⟨_, _, rfl, rfl, by simp [ZR, Value.cells, Value.oneCell']⟩), (fun _ h => by cases h), (by intro f o n h; rcases f with _ | _ | _ | _ | _ | f <;> first | (simp only [List.getElem?_cons_zero, List.getElem?_cons_succ, Option.some.injEq, Prod.mk.injEq] at h; obtain ⟨h1, h2⟩ := h; subst h1; subst h2; exact ⟨_, _, rfl, rfl, rfl, _, rfl, rfl, by decide⟩) | (simp at h; done)), (by intro z hz _; injection hz with hz; subst hz; exact ⟨_, _, fun i => (#[(0, 1), (1, 1), (2, 4), (6, 1), (7, 1)] : Array (Nat × Nat))[i]?, rfl, rfl, (fun i o n h => ⟨by show (#[(0, 1), (1, 1), (2, 4), (6, 1), (7, 1)] : Array (Nat × Nat))[i]? = some (o, n); rw [← Array.getElem?_toList]; exact h, (by decide : ∀ x ∈ ([(0, 1), (1, 1), (2, 4), (6, 1), (7, 1)] : List (Nat × Nat)), x.1 + x.2 ≤ 8) (o, n) (List.mem_of_getElem? h)⟩), fun parts => rfl⟩), (fun h => by cases h), (fun h => by cases h), (fun _ h => by cases h)⟩
  | 29 => ⟨some (true, 8), some [.lit (.int .i64 0), .lit (.int .i64 0), .lit (.int .i64 0), .lit (.int .i64 0), .own 59 [], .own 9 [], .own 64 [], .lit (.string ⟨#[]⟩)], none, [(0, 1), (1, 1), (2, 4), (6, 1), (7, 1)], none, false, false, (by intro g n h; injection h with h; injection h with h1 h2; subst h1; subst h2; exact ⟨_, _, rfl, rfl, rfl, rfl, by simp, by decide⟩), (by intro z h; injection h with h; subst h; exact ⟨_, _, rfl, rfl, by simp [ZR, Value.cells, Value.oneCell']⟩), (fun _ h => by cases h), (by intro f o n h; rcases f with _ | _ | _ | _ | _ | f <;> first | (simp only [List.getElem?_cons_zero, List.getElem?_cons_succ, Option.some.injEq, Prod.mk.injEq] at h; obtain ⟨h1, h2⟩ := h; subst h1; subst h2; exact ⟨_, _, rfl, rfl, rfl, _, rfl, rfl, by decide⟩) | (simp at h; done)), (by intro z hz _; injection hz with hz; subst hz; exact ⟨_, _, fun i => (#[(0, 1), (1, 1), (2, 4), (6, 1), (7, 1)] : Array (Nat × Nat))[i]?, rfl, rfl, (fun i o n h => ⟨by show (#[(0, 1), (1, 1), (2, 4), (6, 1), (7, 1)] : Array (Nat × Nat))[i]? = some (o, n); rw [← Array.getElem?_toList]; exact h, (by decide : ∀ x ∈ ([(0, 1), (1, 1), (2, 4), (6, 1), (7, 1)] : List (Nat × Nat)), x.1 + x.2 ≤ 8) (o, n) (List.mem_of_getElem? h)⟩), fun parts => rfl⟩), (fun h => by cases h), (fun h => by cases h), (fun _ h => by cases h)⟩
  | 46 => ⟨some (true, 2), some [.lit (.string ⟨#[]⟩), .lit (.bool false)], none, [(0, 1), (1, 1)], none, false, false, (by intro g n h; injection h with h; injection h with h1 h2; subst h1; subst h2; exact ⟨_, _, rfl, rfl, rfl, rfl, by simp, by decide⟩), (by intro z h; injection h with h; subst h; exact ⟨_, _, rfl, rfl, by simp [ZR, Value.cells, Value.oneCell']⟩), (fun _ h => by cases h), (by intro f o n h; rcases f with _ | _ | f <;> first | (simp only [List.getElem?_cons_zero, List.getElem?_cons_succ, Option.some.injEq, Prod.mk.injEq] at h; obtain ⟨h1, h2⟩ := h; subst h1; subst h2; exact ⟨_, _, rfl, rfl, rfl, _, rfl, rfl, by decide⟩) | (simp at h; done)), (by intro z hz _; injection hz with hz; subst hz; exact ⟨_, _, fun i => (#[(0, 1), (1, 1)] : Array (Nat × Nat))[i]?, rfl, rfl, (fun i o n h => ⟨by show (#[(0, 1), (1, 1)] : Array (Nat × Nat))[i]? = some (o, n); rw [← Array.getElem?_toList]; exact h, (by decide : ∀ x ∈ ([(0, 1), (1, 1)] : List (Nat × Nat)), x.1 + x.2 ≤ 2) (o, n) (List.mem_of_getElem? h)⟩), fun parts => rfl⟩), (fun h => by cases h), (fun h => by cases h), (fun _ h => by cases h)⟩
  | 47 => ⟨some (true, 2), some [.lit (.string ⟨#[]⟩), .lit (.bool false)], none, [(0, 1), (1, 1)], none, false, false, (by intro g n h; injection h with h; injection h with h1 h2; subst h1; subst h2; exact ⟨_, _, rfl, rfl, rfl, rfl, by simp, by decide⟩), (by intro z h; injection h with h; subst h; exact ⟨_, _, rfl, rfl, by simp [ZR, Value.cells, Value.oneCell']⟩), (fun _ h => by cases h), (by intro f o n h; rcases f with _ | _ | f <;> first | (simp only [List.getElem?_cons_zero, List.getElem?_cons_succ, Option.some.injEq, Prod.mk.injEq] at h; obtain ⟨h1, h2⟩ := h; subst h1; subst h2; exact ⟨_, _, rfl, rfl, rfl, _, rfl, rfl, by decide⟩) | (simp at h; done)), (by intro z hz _; injection hz with hz; subst hz; exact ⟨_, _, fun i => (#[(0, 1), (1, 1)] : Array (Nat × Nat))[i]?, rfl, rfl, (fun i o n h => ⟨by show (#[(0, 1), (1, 1)] : Array (Nat × Nat))[i]? = some (o, n); rw [← Array.getElem?_toList]; exact h, (by decide : ∀ x ∈ ([(0, 1), (1, 1)] : List (Nat × Nat)), x.1 + x.2 ≤ 2) (o, n) (List.mem_of_getElem? h)⟩), fun parts => rfl⟩), (fun h => by cases h), (fun h => by cases h), (fun _ h => by cases h)⟩
  | 58 => ⟨some (false, 1), some [.own 3 []], some 3, [], none, false, false, (by intro g n h; injection h with h; injection h with h1 h2; subst h1; subst h2; exact ⟨_, _, rfl, rfl, rfl, rfl, by simp, by decide⟩), (by intro z h; injection h with h; subst h; exact ⟨_, _, rfl, rfl, by simp [ZR, Value.cells, Value.oneCell']⟩), (by intro e h; injection h with h; subst h; exact ⟨rfl, _, _, rfl, rfl, rfl, rfl, rfl, by decide, by decide⟩), (fun _ _ _ h => by simp at h), (fun _ _ h => absurd rfl h), (fun h => by cases h), (fun h => by cases h), (fun _ h => by cases h)⟩
  | 59 => ⟨some (false, 1), some [.lit (.int .u32 0)], none, [], some .u32, false, false, (by intro g n h; injection h with h; injection h with h1 h2; subst h1; subst h2; exact ⟨_, _, rfl, rfl, rfl, rfl, by simp, by decide⟩), (by intro z h; injection h with h; subst h; exact ⟨_, _, rfl, rfl, by simp [ZR, Value.cells, Value.oneCell']⟩), (fun _ h => by cases h), (fun _ _ _ h => by simp at h), (fun _ _ h => absurd rfl h), (fun h => by cases h), (fun h => by cases h), (by intro k h; injection h with h; subst h; rfl)⟩
  | 63 => ⟨some (true, 4), some [.lit (.int .i64 0), .lit (.string ⟨#[]⟩), .lit (.int .i64 0), .lit (.int .i64 0)], none, [(0, 1), (1, 1), (2, 1), (3, 1)], none, false, false, (by intro g n h; injection h with h; injection h with h1 h2; subst h1; subst h2; exact ⟨_, _, rfl, rfl, rfl, rfl, by simp, by decide⟩), (by intro z h; injection h with h; subst h; exact ⟨_, _, rfl, rfl, by simp [ZR, Value.cells, Value.oneCell']⟩), (fun _ h => by cases h), (by intro f o n h; rcases f with _ | _ | _ | _ | f <;> first | (simp only [List.getElem?_cons_zero, List.getElem?_cons_succ, Option.some.injEq, Prod.mk.injEq] at h; obtain ⟨h1, h2⟩ := h; subst h1; subst h2; exact ⟨_, _, rfl, rfl, rfl, _, rfl, rfl, by decide⟩) | (simp at h; done)), (by intro z hz _; injection hz with hz; subst hz; exact ⟨_, _, fun i => (#[(0, 1), (1, 1), (2, 1), (3, 1)] : Array (Nat × Nat))[i]?, rfl, rfl, (fun i o n h => ⟨by show (#[(0, 1), (1, 1), (2, 1), (3, 1)] : Array (Nat × Nat))[i]? = some (o, n); rw [← Array.getElem?_toList]; exact h, (by decide : ∀ x ∈ ([(0, 1), (1, 1), (2, 1), (3, 1)] : List (Nat × Nat)), x.1 + x.2 ≤ 4) (o, n) (List.mem_of_getElem? h)⟩), fun parts => rfl⟩), (fun h => by cases h), (fun h => by cases h), (fun _ h => by cases h)⟩
  | 64 => ⟨some (true, 4), some [.lit (.int .i64 0), .lit (.string ⟨#[]⟩), .lit (.int .i64 0), .lit (.int .i64 0)], none, [(0, 1), (1, 1), (2, 1), (3, 1)], none, false, false, (by intro g n h; injection h with h; injection h with h1 h2; subst h1; subst h2; exact ⟨_, _, rfl, rfl, rfl, rfl, by simp, by decide⟩), (by intro z h; injection h with h; subst h; exact ⟨_, _, rfl, rfl, by simp [ZR, Value.cells, Value.oneCell']⟩), (fun _ h => by cases h), (by intro f o n h; rcases f with _ | _ | _ | _ | f <;> first | (simp only [List.getElem?_cons_zero, List.getElem?_cons_succ, Option.some.injEq, Prod.mk.injEq] at h; obtain ⟨h1, h2⟩ := h; subst h1; subst h2; exact ⟨_, _, rfl, rfl, rfl, _, rfl, rfl, by decide⟩) | (simp at h; done)), (by intro z hz _; injection hz with hz; subst hz; exact ⟨_, _, fun i => (#[(0, 1), (1, 1), (2, 1), (3, 1)] : Array (Nat × Nat))[i]?, rfl, rfl, (fun i o n h => ⟨by show (#[(0, 1), (1, 1), (2, 1), (3, 1)] : Array (Nat × Nat))[i]? = some (o, n); rw [← Array.getElem?_toList]; exact h, (by decide : ∀ x ∈ ([(0, 1), (1, 1), (2, 1), (3, 1)] : List (Nat × Nat)), x.1 + x.2 ≤ 4) (o, n) (List.mem_of_getElem? h)⟩), fun parts => rfl⟩), (fun h => by cases h), (fun h => by cases h), (fun _ h => by cases h)⟩
  | 93 => ⟨some (false, 1), some [.lit (.int .u64 0)], none, [], some .u64, false, false, (by intro g n h; injection h with h; injection h with h1 h2; subst h1; subst h2; exact ⟨_, _, rfl, rfl, rfl, rfl, by simp, by decide⟩), (by intro z h; injection h with h; subst h; exact ⟨_, _, rfl, rfl, by simp [ZR, Value.cells, Value.oneCell']⟩), (fun _ h => by cases h), (fun _ _ _ h => by simp at h), (fun _ _ h => absurd rfl h), (fun h => by cases h), (fun h => by cases h), (by intro k h; injection h with h; subst h; rfl)⟩
  | 105 => ⟨some (false, 1), some [.lit (.int .u8 0)], none, [], some .u8, false, false, (by intro g n h; injection h with h; injection h with h1 h2; subst h1; subst h2; exact ⟨_, _, rfl, rfl, rfl, rfl, by simp, by decide⟩), (by intro z h; injection h with h; subst h; exact ⟨_, _, rfl, rfl, by simp [ZR, Value.cells, Value.oneCell']⟩), (fun _ h => by cases h), (fun _ _ _ h => by simp at h), (fun _ _ h => absurd rfl h), (fun h => by cases h), (fun h => by cases h), (by intro k h; injection h with h; subst h; rfl)⟩
  | 106 => ⟨some (false, 1), some [.lit (.int .u8 0)], none, [], some .u8, false, false, (by intro g n h; injection h with h; injection h with h1 h2; subst h1; subst h2; exact ⟨_, _, rfl, rfl, rfl, rfl, by simp, by decide⟩), (by intro z h; injection h with h; subst h; exact ⟨_, _, rfl, rfl, by simp [ZR, Value.cells, Value.oneCell']⟩), (fun _ h => by cases h), (fun _ _ _ h => by simp at h), (fun _ _ h => absurd rfl h), (fun h => by cases h), (fun h => by cases h), (by intro k h; injection h with h; subst h; rfl)⟩
  | 108 => ⟨some (false, 1), some [.lit (.int .i32 0)], none, [], some .i32, false, false, (by intro g n h; injection h with h; injection h with h1 h2; subst h1; subst h2; exact ⟨_, _, rfl, rfl, rfl, rfl, by simp, by decide⟩), (by intro z h; injection h with h; subst h; exact ⟨_, _, rfl, rfl, by simp [ZR, Value.cells, Value.oneCell']⟩), (fun _ h => by cases h), (fun _ _ _ h => by simp at h), (fun _ _ h => absurd rfl h), (fun h => by cases h), (fun h => by cases h), (by intro k h; injection h with h; subst h; rfl)⟩
  | 109 => ⟨some (false, 1), some [.lit (.int .i32 0)], none, [], some .i32, false, false, (by intro g n h; injection h with h; injection h with h1 h2; subst h1; subst h2; exact ⟨_, _, rfl, rfl, rfl, rfl, by simp, by decide⟩), (by intro z h; injection h with h; subst h; exact ⟨_, _, rfl, rfl, by simp [ZR, Value.cells, Value.oneCell']⟩), (fun _ h => by cases h), (fun _ _ _ h => by simp at h), (fun _ _ h => absurd rfl h), (fun h => by cases h), (fun h => by cases h), (by intro k h; injection h with h; subst h; rfl)⟩
  | t => rowNone _ _ t
def bytesAs (e : TypeId) (l : List (TT e)) : Option (List Int) := if h : e = 5 then some (h ▸ l : List (TT 5)) else none
theorem bytesAs_spec {e : TypeId} {l' : List (TT e)} {l : List Int} (h : bytesAs e l' = some l) : ∃ he : e = 5, l = (he ▸ l' : List (TT 5)) := by
  unfold bytesAs at h
  split at h
  · rename_i he
    injection h with h
    exact ⟨he, h.symm⟩
  · cases h
def toB (v : V TT) : Option (List Int) := match v with | .imm e l => bytesAs e l | .own e l => bytesAs e l | _ => none
noncomputable def tab : Tab where
  T := TT
  dflt := fun e => (el e).dflt
  enc := fun e => (el e).enc
  dec := fun e => (el e).dec
  size := fun e => (el e).size
  bytes := fun e => (el e).bytes
  elem := fun t => (row t).elem
  lay := fun t => (row t).lay
  zero := fun t => (row t).zero
  flds := fun t => (row t).flds
  ikind := fun t => (row t).ikind
  isBool := fun t => (row t).isBool
  isStr := fun t => (row t).isStr
  plain := fun e => (el e).plain
  toBytes := fun src dst v => if src = 22 ∧ dst = 9 then toB v else none
  ofBytes := fun e l => match e with | 5 => some (l : List Int) | _ => none
  bldT := 86
  byteT := 5
  bldOp := fun f => match f with | 61 => some .wbyte | 60 => some .wstr | 62 => some .str | _ => none
  gives := fun f => match f with | 9 => true | 10 => true | 24 => true | 25 => true | 46 => true | 47 => true | _ => false
theorem tabP : TabP Go.Proofs.Try.prog tab where
  mixed := by decide
  enc_len := fun e x => (el e).len x
  dec_enc := fun e cs x h => (el e).back cs x h
  plain_ok := fun e h x v => (el e).pl h x v
  lay_ok := fun t => (row t).lay_ok
  zero_ok := fun t => (row t).zero_ok
  elem_ok := fun t => (row t).elem_ok
  fld_ok := fun t => (row t).fld_ok
  bld_ok := fun t => (row t).bld_ok
  to_ok := by
    intro src dst v l h
    replace h : (if src = 22 ∧ dst = 9 then toB v else none) = some l := h
    by_cases hc : src = 22 ∧ dst = 9
    · rw [if_pos hc] at h
      obtain ⟨rfl, rfl⟩ := hc
      replace h : toB v = some l := h
      cases v with
      | imm e l' =>
        obtain ⟨rfl, rfl⟩ := bytesAs_spec h
        exact ⟨5, _, rfl, rfl, rfl, .inr rfl, rfl, rfl, fun j x hx => ⟨x, hx, rfl⟩⟩
      | own e l' =>
        obtain ⟨rfl, rfl⟩ := bytesAs_spec h
        exact ⟨5, _, rfl, rfl, rfl, .inl rfl, rfl, rfl, fun j x hx => ⟨x, hx, rfl⟩⟩
      | _ => cases h
    · rw [if_neg hc] at h; cases h
  of_ok := by
    intro e bs l h
    simp only [tab] at h
    split at h
    · injection h with h; subst h
      exact ⟨rfl, rfl, rfl, fun j x hx => ⟨x, hx, rfl⟩⟩
    · cases h
  str_ok := fun t => (row t).str_ok
  bool_ok := fun t => (row t).bool_ok
  ikind_ok := fun t => (row t).ikind_ok
  bldZ := Go.Proofs.YtjebhkpabdogcabW.XBld.bldZ rfl
  bldF := by
    intro f kd h
    simp only [tab] at h
    split at h
    · injection h with h; subst h; exact Go.Proofs.YtjebhkpabdogcabW.XBld.bldC_wbyte rfl rfl
    · injection h with h; subst h; exact Go.Proofs.YtjebhkpabdogcabW.XBld.bldC_wstr rfl rfl
    · injection h with h; subst h; exact Go.Proofs.YtjebhkpabdogcabW.XBld.bldC_str rfl rfl
    · cases h
end Go.I
