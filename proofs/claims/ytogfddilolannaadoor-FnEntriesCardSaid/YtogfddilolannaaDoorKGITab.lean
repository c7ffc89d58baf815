/- The types of the program, as the interpreter is told of them; each is as the program has it. No condition. -/
import Derived.Test.YtogfddilolannaaDoorKC
import Derived.Test.YtogfddilolannaaDoorProg
import Derived.Test.YtogfddilolannaaDoorKXBldC
set_option linter.unusedVariables false
set_option linter.unusedSimpArgs false
set_option maxRecDepth 100000
set_option maxHeartbeats 4000000
namespace Go.I
open Go.Proofs
structure GBoundsError where
  X : Int
  Y : Int
  Signed : Bool
  Code : Int
structure GErrorAddressString where
  Msg : ByteArray
  Addr : Int
structure GNode where
  Path : ByteArray
  Kind : Int
  Mode : Int
  Time : Int
  Data : ByteArray
  Target : ByteArray
  Group : Int
structure GEntry where
  Path : ByteArray
  Kind : Int
  Mode : Int
  Time : Int
  Size : Int
  Target : ByteArray
  Group : Int
structure GL12Cur where
  B : List Int
  Bad : Bool
structure GReader where
  Text : ByteArray
  Bad : Bool
structure GWords where
  List : List ByteArray
  Bad : Bool
structure GL01Cur where
  B : List Int
  I : Int
  H : Int
structure GAcceptRange where
  Lo : Int
  Hi : Int
structure GErrorString where
  S : ByteArray
def TT : TypeId → Type
  | 3 => Int
  | 5 => Int
  | 9 => ByteArray
  | 23 => GNode
  | 26 => GNode
  | 42 => GEntry
  | 62 => GL12Cur
  | 67 => GReader
  | 96 => GWords
  | 107 => GL01Cur
  | 179 => GErrorString
  | _ => Unit
def dec3 (cs : List (V TT)) : Option (TT 3) := match cs with
  | [v0] => (dInt .i64 v0).bind fun v0 => some (v0 : Int)
  | _ => none
theorem dec3_back {cs : List (V TT)} {x : TT 3} (h : dec3 cs = some x) : [.lit (.int .i64 (x : Int))] = cs := by
  unfold dec3 at h
  split at h
  · simp only [Option.bind_eq_some_iff] at h
    obtain ⟨y0, h0, hx⟩ := h
    injection hx with hx; subst hx
    rw [dInt_back h0]
  · cases h
def dec5 (cs : List (V TT)) : Option (TT 5) := match cs with
  | [v0] => (dInt .u8 v0).bind fun v0 => some (v0 : Int)
  | _ => none
theorem dec5_back {cs : List (V TT)} {x : TT 5} (h : dec5 cs = some x) : [.lit (.int .u8 (x : Int))] = cs := by
  unfold dec5 at h
  split at h
  · simp only [Option.bind_eq_some_iff] at h
    obtain ⟨y0, h0, hx⟩ := h
    injection hx with hx; subst hx
    rw [dInt_back h0]
  · cases h
def dec9 (cs : List (V TT)) : Option (TT 9) := match cs with
  | [v0] => (dStr v0).bind fun v0 => some (v0 : ByteArray)
  | _ => none
theorem dec9_back {cs : List (V TT)} {x : TT 9} (h : dec9 cs = some x) : [.lit (.string (x : ByteArray))] = cs := by
  unfold dec9 at h
  split at h
  · simp only [Option.bind_eq_some_iff] at h
    obtain ⟨y0, h0, hx⟩ := h
    injection hx with hx; subst hx
    rw [dStr_back h0]
  · cases h
def dec23 (cs : List (V TT)) : Option (TT 23) := match cs with
  | [v0, v1, v2, v3, v4, v5, v6] => (dStr v0).bind fun v0 => (dInt .i64 v1).bind fun v1 => (dInt .i64 v2).bind fun v2 => (dInt .i64 v3).bind fun v3 => (dStr v4).bind fun v4 => (dStr v5).bind fun v5 => (dInt .i64 v6).bind fun v6 => some (⟨v0, v1, v2, v3, v4, v5, v6⟩ : GNode)
  | _ => none
theorem dec23_back {cs : List (V TT)} {x : TT 23} (h : dec23 cs = some x) : [.lit (.string (x : GNode).Path), .lit (.int .i64 (x : GNode).Kind), .lit (.int .i64 (x : GNode).Mode), .lit (.int .i64 (x : GNode).Time), .lit (.string (x : GNode).Data), .lit (.string (x : GNode).Target), .lit (.int .i64 (x : GNode).Group)] = cs := by
  unfold dec23 at h
  split at h
  · simp only [Option.bind_eq_some_iff] at h
    obtain ⟨y0, h0, y1, h1, y2, h2, y3, h3, y4, h4, y5, h5, y6, h6, hx⟩ := h
    injection hx with hx; subst hx
    rw [dStr_back h0, dInt_back h1, dInt_back h2, dInt_back h3, dStr_back h4, dStr_back h5, dInt_back h6]
  · cases h
def dec26 (cs : List (V TT)) : Option (TT 26) := match cs with
  | [v0, v1, v2, v3, v4, v5, v6] => (dStr v0).bind fun v0 => (dInt .i64 v1).bind fun v1 => (dInt .i64 v2).bind fun v2 => (dInt .i64 v3).bind fun v3 => (dStr v4).bind fun v4 => (dStr v5).bind fun v5 => (dInt .i64 v6).bind fun v6 => some (⟨v0, v1, v2, v3, v4, v5, v6⟩ : GNode)
  | _ => none
theorem dec26_back {cs : List (V TT)} {x : TT 26} (h : dec26 cs = some x) : [.lit (.string (x : GNode).Path), .lit (.int .i64 (x : GNode).Kind), .lit (.int .i64 (x : GNode).Mode), .lit (.int .i64 (x : GNode).Time), .lit (.string (x : GNode).Data), .lit (.string (x : GNode).Target), .lit (.int .i64 (x : GNode).Group)] = cs := by
  unfold dec26 at h
  split at h
  · simp only [Option.bind_eq_some_iff] at h
    obtain ⟨y0, h0, y1, h1, y2, h2, y3, h3, y4, h4, y5, h5, y6, h6, hx⟩ := h
    injection hx with hx; subst hx
    rw [dStr_back h0, dInt_back h1, dInt_back h2, dInt_back h3, dStr_back h4, dStr_back h5, dInt_back h6]
  · cases h
def dec42 (cs : List (V TT)) : Option (TT 42) := match cs with
  | [v0, v1, v2, v3, v4, v5, v6] => (dStr v0).bind fun v0 => (dInt .i64 v1).bind fun v1 => (dInt .i64 v2).bind fun v2 => (dInt .i64 v3).bind fun v3 => (dInt .i64 v4).bind fun v4 => (dStr v5).bind fun v5 => (dInt .i64 v6).bind fun v6 => some (⟨v0, v1, v2, v3, v4, v5, v6⟩ : GEntry)
  | _ => none
theorem dec42_back {cs : List (V TT)} {x : TT 42} (h : dec42 cs = some x) : [.lit (.string (x : GEntry).Path), .lit (.int .i64 (x : GEntry).Kind), .lit (.int .i64 (x : GEntry).Mode), .lit (.int .i64 (x : GEntry).Time), .lit (.int .i64 (x : GEntry).Size), .lit (.string (x : GEntry).Target), .lit (.int .i64 (x : GEntry).Group)] = cs := by
  unfold dec42 at h
  split at h
  · simp only [Option.bind_eq_some_iff] at h
    obtain ⟨y0, h0, y1, h1, y2, h2, y3, h3, y4, h4, y5, h5, y6, h6, hx⟩ := h
    injection hx with hx; subst hx
    rw [dStr_back h0, dInt_back h1, dInt_back h2, dInt_back h3, dInt_back h4, dStr_back h5, dInt_back h6]
  · cases h
def dec62 (cs : List (V TT)) : Option (TT 62) := match cs with
  | [v0, v1] => (dOwn 5 v0).bind fun v0 => (dBool v1).bind fun v1 => some (⟨v0, v1⟩ : GL12Cur)
  | _ => none
theorem dec62_back {cs : List (V TT)} {x : TT 62} (h : dec62 cs = some x) : [.own 5 (x : GL12Cur).B, .lit (.bool (x : GL12Cur).Bad)] = cs := by
  unfold dec62 at h
  split at h
  · simp only [Option.bind_eq_some_iff] at h
    obtain ⟨y0, h0, y1, h1, hx⟩ := h
    injection hx with hx; subst hx
    rw [dOwn_back h0, dBool_back h1]
  · cases h
def dec67 (cs : List (V TT)) : Option (TT 67) := match cs with
  | [v0, v1] => (dStr v0).bind fun v0 => (dBool v1).bind fun v1 => some (⟨v0, v1⟩ : GReader)
  | _ => none
theorem dec67_back {cs : List (V TT)} {x : TT 67} (h : dec67 cs = some x) : [.lit (.string (x : GReader).Text), .lit (.bool (x : GReader).Bad)] = cs := by
  unfold dec67 at h
  split at h
  · simp only [Option.bind_eq_some_iff] at h
    obtain ⟨y0, h0, y1, h1, hx⟩ := h
    injection hx with hx; subst hx
    rw [dStr_back h0, dBool_back h1]
  · cases h
def dec96 (cs : List (V TT)) : Option (TT 96) := match cs with
  | [v0, v1] => (dOwn 9 v0).bind fun v0 => (dBool v1).bind fun v1 => some (⟨v0, v1⟩ : GWords)
  | _ => none
theorem dec96_back {cs : List (V TT)} {x : TT 96} (h : dec96 cs = some x) : [.own 9 (x : GWords).List, .lit (.bool (x : GWords).Bad)] = cs := by
  unfold dec96 at h
  split at h
  · simp only [Option.bind_eq_some_iff] at h
    obtain ⟨y0, h0, y1, h1, hx⟩ := h
    injection hx with hx; subst hx
    rw [dOwn_back h0, dBool_back h1]
  · cases h
def dec107 (cs : List (V TT)) : Option (TT 107) := match cs with
  | [v0, v1, v2] => (dOwn 5 v0).bind fun v0 => (dInt .i64 v1).bind fun v1 => (dInt .i64 v2).bind fun v2 => some (⟨v0, v1, v2⟩ : GL01Cur)
  | _ => none
theorem dec107_back {cs : List (V TT)} {x : TT 107} (h : dec107 cs = some x) : [.own 5 (x : GL01Cur).B, .lit (.int .i64 (x : GL01Cur).I), .lit (.int .i64 (x : GL01Cur).H)] = cs := by
  unfold dec107 at h
  split at h
  · simp only [Option.bind_eq_some_iff] at h
    obtain ⟨y0, h0, y1, h1, y2, h2, hx⟩ := h
    injection hx with hx; subst hx
    rw [dOwn_back h0, dInt_back h1, dInt_back h2]
  · cases h
def dec179 (cs : List (V TT)) : Option (TT 179) := match cs with
  | [v0] => (dStr v0).bind fun v0 => some (⟨v0⟩ : GErrorString)
  | _ => none
theorem dec179_back {cs : List (V TT)} {x : TT 179} (h : dec179 cs = some x) : [.lit (.string (x : GErrorString).S)] = cs := by
  unfold dec179 at h
  split at h
  · simp only [Option.bind_eq_some_iff] at h
    obtain ⟨y0, h0, hx⟩ := h
    injection hx with hx; subst hx
    rw [dStr_back h0]
  · cases h
def upd23 (off : Nat) (v : V TT) : Option (TT 23 → TT 23) := match off, v with
  | 0, .lit (.string y) => some (fun (z : GNode) => (⟨y, z.Kind, z.Mode, z.Time, z.Data, z.Target, z.Group⟩ : GNode))
  | 1, .lit (.int .i64 y) => some (fun (z : GNode) => (⟨z.Path, y, z.Mode, z.Time, z.Data, z.Target, z.Group⟩ : GNode))
  | 2, .lit (.int .i64 y) => some (fun (z : GNode) => (⟨z.Path, z.Kind, y, z.Time, z.Data, z.Target, z.Group⟩ : GNode))
  | 3, .lit (.int .i64 y) => some (fun (z : GNode) => (⟨z.Path, z.Kind, z.Mode, y, z.Data, z.Target, z.Group⟩ : GNode))
  | 4, .lit (.string y) => some (fun (z : GNode) => (⟨z.Path, z.Kind, z.Mode, z.Time, y, z.Target, z.Group⟩ : GNode))
  | 5, .lit (.string y) => some (fun (z : GNode) => (⟨z.Path, z.Kind, z.Mode, z.Time, z.Data, y, z.Group⟩ : GNode))
  | 6, .lit (.int .i64 y) => some (fun (z : GNode) => (⟨z.Path, z.Kind, z.Mode, z.Time, z.Data, z.Target, y⟩ : GNode))
  | _, _ => none
theorem upd23_ok (off : Nat) (v : V TT) (f : TT 23 → TT 23) (h : upd23 off v = some f) (z : TT 23) : dec23 (setAt [.lit (.string (z : GNode).Path), .lit (.int .i64 (z : GNode).Kind), .lit (.int .i64 (z : GNode).Mode), .lit (.int .i64 (z : GNode).Time), .lit (.string (z : GNode).Data), .lit (.string (z : GNode).Target), .lit (.int .i64 (z : GNode).Group)] off v) = some (f z) := by
  unfold upd23 at h
  split at h
  · injection h with h; subst h; rfl
  · injection h with h; subst h; rfl
  · injection h with h; subst h; rfl
  · injection h with h; subst h; rfl
  · injection h with h; subst h; rfl
  · injection h with h; subst h; rfl
  · injection h with h; subst h; rfl
  · cases h
def upd26 (off : Nat) (v : V TT) : Option (TT 26 → TT 26) := match off, v with
  | 0, .lit (.string y) => some (fun (z : GNode) => (⟨y, z.Kind, z.Mode, z.Time, z.Data, z.Target, z.Group⟩ : GNode))
  | 1, .lit (.int .i64 y) => some (fun (z : GNode) => (⟨z.Path, y, z.Mode, z.Time, z.Data, z.Target, z.Group⟩ : GNode))
  | 2, .lit (.int .i64 y) => some (fun (z : GNode) => (⟨z.Path, z.Kind, y, z.Time, z.Data, z.Target, z.Group⟩ : GNode))
  | 3, .lit (.int .i64 y) => some (fun (z : GNode) => (⟨z.Path, z.Kind, z.Mode, y, z.Data, z.Target, z.Group⟩ : GNode))
  | 4, .lit (.string y) => some (fun (z : GNode) => (⟨z.Path, z.Kind, z.Mode, z.Time, y, z.Target, z.Group⟩ : GNode))
  | 5, .lit (.string y) => some (fun (z : GNode) => (⟨z.Path, z.Kind, z.Mode, z.Time, z.Data, y, z.Group⟩ : GNode))
  | 6, .lit (.int .i64 y) => some (fun (z : GNode) => (⟨z.Path, z.Kind, z.Mode, z.Time, z.Data, z.Target, y⟩ : GNode))
  | _, _ => none
theorem upd26_ok (off : Nat) (v : V TT) (f : TT 26 → TT 26) (h : upd26 off v = some f) (z : TT 26) : dec26 (setAt [.lit (.string (z : GNode).Path), .lit (.int .i64 (z : GNode).Kind), .lit (.int .i64 (z : GNode).Mode), .lit (.int .i64 (z : GNode).Time), .lit (.string (z : GNode).Data), .lit (.string (z : GNode).Target), .lit (.int .i64 (z : GNode).Group)] off v) = some (f z) := by
  unfold upd26 at h
  split at h
  · injection h with h; subst h; rfl
  · injection h with h; subst h; rfl
  · injection h with h; subst h; rfl
  · injection h with h; subst h; rfl
  · injection h with h; subst h; rfl
  · injection h with h; subst h; rfl
  · injection h with h; subst h; rfl
  · cases h
def upd42 (off : Nat) (v : V TT) : Option (TT 42 → TT 42) := match off, v with
  | 0, .lit (.string y) => some (fun (z : GEntry) => (⟨y, z.Kind, z.Mode, z.Time, z.Size, z.Target, z.Group⟩ : GEntry))
  | 1, .lit (.int .i64 y) => some (fun (z : GEntry) => (⟨z.Path, y, z.Mode, z.Time, z.Size, z.Target, z.Group⟩ : GEntry))
  | 2, .lit (.int .i64 y) => some (fun (z : GEntry) => (⟨z.Path, z.Kind, y, z.Time, z.Size, z.Target, z.Group⟩ : GEntry))
  | 3, .lit (.int .i64 y) => some (fun (z : GEntry) => (⟨z.Path, z.Kind, z.Mode, y, z.Size, z.Target, z.Group⟩ : GEntry))
  | 4, .lit (.int .i64 y) => some (fun (z : GEntry) => (⟨z.Path, z.Kind, z.Mode, z.Time, y, z.Target, z.Group⟩ : GEntry))
  | 5, .lit (.string y) => some (fun (z : GEntry) => (⟨z.Path, z.Kind, z.Mode, z.Time, z.Size, y, z.Group⟩ : GEntry))
  | 6, .lit (.int .i64 y) => some (fun (z : GEntry) => (⟨z.Path, z.Kind, z.Mode, z.Time, z.Size, z.Target, y⟩ : GEntry))
  | _, _ => none
theorem upd42_ok (off : Nat) (v : V TT) (f : TT 42 → TT 42) (h : upd42 off v = some f) (z : TT 42) : dec42 (setAt [.lit (.string (z : GEntry).Path), .lit (.int .i64 (z : GEntry).Kind), .lit (.int .i64 (z : GEntry).Mode), .lit (.int .i64 (z : GEntry).Time), .lit (.int .i64 (z : GEntry).Size), .lit (.string (z : GEntry).Target), .lit (.int .i64 (z : GEntry).Group)] off v) = some (f z) := by
  unfold upd42 at h
  split at h
  · injection h with h; subst h; rfl
  · injection h with h; subst h; rfl
  · injection h with h; subst h; rfl
  · injection h with h; subst h; rfl
  · injection h with h; subst h; rfl
  · injection h with h; subst h; rfl
  · injection h with h; subst h; rfl
  · cases h
def upd62 (off : Nat) (v : V TT) : Option (TT 62 → TT 62) := match off, v with
  | 1, .lit (.bool y) => some (fun (z : GL12Cur) => (⟨z.B, y⟩ : GL12Cur))
  | _, _ => none
theorem upd62_ok (off : Nat) (v : V TT) (f : TT 62 → TT 62) (h : upd62 off v = some f) (z : TT 62) : dec62 (setAt [.own 5 (z : GL12Cur).B, .lit (.bool (z : GL12Cur).Bad)] off v) = some (f z) := by
  unfold upd62 at h
  split at h
  · injection h with h; subst h; rfl
  · cases h
def upd67 (off : Nat) (v : V TT) : Option (TT 67 → TT 67) := match off, v with
  | 0, .lit (.string y) => some (fun (z : GReader) => (⟨y, z.Bad⟩ : GReader))
  | 1, .lit (.bool y) => some (fun (z : GReader) => (⟨z.Text, y⟩ : GReader))
  | _, _ => none
theorem upd67_ok (off : Nat) (v : V TT) (f : TT 67 → TT 67) (h : upd67 off v = some f) (z : TT 67) : dec67 (setAt [.lit (.string (z : GReader).Text), .lit (.bool (z : GReader).Bad)] off v) = some (f z) := by
  unfold upd67 at h
  split at h
  · injection h with h; subst h; rfl
  · injection h with h; subst h; rfl
  · cases h
def upd96 (off : Nat) (v : V TT) : Option (TT 96 → TT 96) := match off, v with
  | 1, .lit (.bool y) => some (fun (z : GWords) => (⟨z.List, y⟩ : GWords))
  | _, _ => none
theorem upd96_ok (off : Nat) (v : V TT) (f : TT 96 → TT 96) (h : upd96 off v = some f) (z : TT 96) : dec96 (setAt [.own 9 (z : GWords).List, .lit (.bool (z : GWords).Bad)] off v) = some (f z) := by
  unfold upd96 at h
  split at h
  · injection h with h; subst h; rfl
  · cases h
def upd107 (off : Nat) (v : V TT) : Option (TT 107 → TT 107) := match off, v with
  | 1, .lit (.int .i64 y) => some (fun (z : GL01Cur) => (⟨z.B, y, z.H⟩ : GL01Cur))
  | 2, .lit (.int .i64 y) => some (fun (z : GL01Cur) => (⟨z.B, z.I, y⟩ : GL01Cur))
  | _, _ => none
theorem upd107_ok (off : Nat) (v : V TT) (f : TT 107 → TT 107) (h : upd107 off v = some f) (z : TT 107) : dec107 (setAt [.own 5 (z : GL01Cur).B, .lit (.int .i64 (z : GL01Cur).I), .lit (.int .i64 (z : GL01Cur).H)] off v) = some (f z) := by
  unfold upd107 at h
  split at h
  · injection h with h; subst h; rfl
  · injection h with h; subst h; rfl
  · cases h
noncomputable def dd (e : TypeId) : TT e := by
  unfold TT
  split
  · exact (0 : Int)
  · exact (0 : Int)
  · exact (⟨#[]⟩ : ByteArray)
  · exact (⟨⟨#[]⟩, 0, 0, 0, ⟨#[]⟩, ⟨#[]⟩, 0⟩ : GNode)
  · exact (⟨⟨#[]⟩, 0, 0, 0, ⟨#[]⟩, ⟨#[]⟩, 0⟩ : GNode)
  · exact (⟨⟨#[]⟩, 0, 0, 0, 0, ⟨#[]⟩, 0⟩ : GEntry)
  · exact (⟨[], false⟩ : GL12Cur)
  · exact (⟨⟨#[]⟩, false⟩ : GReader)
  · exact (⟨[], false⟩ : GWords)
  · exact (⟨[], 0, 0⟩ : GL01Cur)
  · exact (⟨⟨#[]⟩⟩ : GErrorString)
  · exact ()
noncomputable def el : (e : TypeId) → ElD TT e
  | 3 => ⟨(0 : Int), fun (x : Int) => [.lit (.int .i64 x)], dec3, 1, 8, true, fun _ => rfl, fun _ _ h => dec3_back h, (fun _ (x : Int) v h => by simp only [List.mem_cons, List.not_mem_nil, or_false] at h; exact ⟨_, h, rfl⟩), fun _ _ => none, (fun _ _ _ h => by cases h)⟩
  | 5 => ⟨(0 : Int), fun (x : Int) => [.lit (.int .u8 x)], dec5, 1, 1, true, fun _ => rfl, fun _ _ h => dec5_back h, (fun _ (x : Int) v h => by simp only [List.mem_cons, List.not_mem_nil, or_false] at h; exact ⟨_, h, rfl⟩), fun _ _ => none, (fun _ _ _ h => by cases h)⟩
  | 9 => ⟨(⟨#[]⟩ : ByteArray), fun (x : ByteArray) => [.lit (.string x)], dec9, 1, 16, true, fun _ => rfl, fun _ _ h => dec9_back h, (fun _ (x : ByteArray) v h => by simp only [List.mem_cons, List.not_mem_nil, or_false] at h; exact ⟨_, h, rfl⟩), fun _ _ => none, (fun _ _ _ h => by cases h)⟩
  | 23 => ⟨(⟨⟨#[]⟩, 0, 0, 0, ⟨#[]⟩, ⟨#[]⟩, 0⟩ : GNode), fun (x : GNode) => [.lit (.string x.Path), .lit (.int .i64 x.Kind), .lit (.int .i64 x.Mode), .lit (.int .i64 x.Time), .lit (.string x.Data), .lit (.string x.Target), .lit (.int .i64 x.Group)], dec23, 7, 80, true, fun _ => rfl, fun _ _ h => dec23_back h, (fun _ (x : GNode) v h => by simp only [List.mem_cons, List.not_mem_nil, or_false] at h; rcases h with h | h | h | h | h | h | h <;> exact ⟨_, h, rfl⟩), upd23, upd23_ok⟩
  | 26 => ⟨(⟨⟨#[]⟩, 0, 0, 0, ⟨#[]⟩, ⟨#[]⟩, 0⟩ : GNode), fun (x : GNode) => [.lit (.string x.Path), .lit (.int .i64 x.Kind), .lit (.int .i64 x.Mode), .lit (.int .i64 x.Time), .lit (.string x.Data), .lit (.string x.Target), .lit (.int .i64 x.Group)], dec26, 7, 80, true, fun _ => rfl, fun _ _ h => dec26_back h, (fun _ (x : GNode) v h => by simp only [List.mem_cons, List.not_mem_nil, or_false] at h; rcases h with h | h | h | h | h | h | h <;> exact ⟨_, h, rfl⟩), upd26, upd26_ok⟩
  | 42 => ⟨(⟨⟨#[]⟩, 0, 0, 0, 0, ⟨#[]⟩, 0⟩ : GEntry), fun (x : GEntry) => [.lit (.string x.Path), .lit (.int .i64 x.Kind), .lit (.int .i64 x.Mode), .lit (.int .i64 x.Time), .lit (.int .i64 x.Size), .lit (.string x.Target), .lit (.int .i64 x.Group)], dec42, 7, 72, true, fun _ => rfl, fun _ _ h => dec42_back h, (fun _ (x : GEntry) v h => by simp only [List.mem_cons, List.not_mem_nil, or_false] at h; rcases h with h | h | h | h | h | h | h <;> exact ⟨_, h, rfl⟩), upd42, upd42_ok⟩
  | 62 => ⟨(⟨[], false⟩ : GL12Cur), fun (x : GL12Cur) => [.own 5 x.B, .lit (.bool x.Bad)], dec62, 2, 32, false, fun _ => rfl, fun _ _ h => dec62_back h, (fun h => by cases h), upd62, upd62_ok⟩
  | 67 => ⟨(⟨⟨#[]⟩, false⟩ : GReader), fun (x : GReader) => [.lit (.string x.Text), .lit (.bool x.Bad)], dec67, 2, 24, true, fun _ => rfl, fun _ _ h => dec67_back h, (fun _ (x : GReader) v h => by simp only [List.mem_cons, List.not_mem_nil, or_false] at h; rcases h with h | h <;> exact ⟨_, h, rfl⟩), upd67, upd67_ok⟩
  | 96 => ⟨(⟨[], false⟩ : GWords), fun (x : GWords) => [.own 9 x.List, .lit (.bool x.Bad)], dec96, 2, 32, false, fun _ => rfl, fun _ _ h => dec96_back h, (fun h => by cases h), upd96, upd96_ok⟩
  | 107 => ⟨(⟨[], 0, 0⟩ : GL01Cur), fun (x : GL01Cur) => [.own 5 x.B, .lit (.int .i64 x.I), .lit (.int .i64 x.H)], dec107, 3, 40, false, fun _ => rfl, fun _ _ h => dec107_back h, (fun h => by cases h), upd107, upd107_ok⟩
  | 179 => ⟨(⟨⟨#[]⟩⟩ : GErrorString), fun (x : GErrorString) => [.lit (.string x.S)], dec179, 1, 16, true, fun _ => rfl, fun _ _ h => dec179_back h, (fun _ (x : GErrorString) v h => by simp only [List.mem_cons, List.not_mem_nil, or_false] at h; exact ⟨_, h, rfl⟩), fun _ _ => none, (fun _ _ _ h => by cases h)⟩
  | e => elNone e (dd e)
noncomputable def row : (t : TypeId) → TRow Go.Proofs.Tryd.prog el t
  | 2 => ⟨some (false, 1), some [.lit (.int .i64 0)], none, [], some .i64, false, false, (by intro g n h; injection h with h; injection h with h1 h2; subst h1; subst h2; exact ⟨_, _, rfl, rfl, rfl, rfl, by simp, by decide⟩), (by intro z h; injection h with h; subst h; exact ⟨_, _, rfl, rfl, by simp [ZR, Value.cells, Value.oneCell']⟩), (fun _ h => by cases h), (fun _ _ _ h => by simp at h), (fun _ _ h => absurd rfl h), (fun h => by cases h), (fun h => by cases h), (by intro k h; injection h with h; subst h; rfl), none, (fun _ h => by cases h)⟩
  | 3 => ⟨some (false, 1), some [.lit (.int .i64 0)], none, [], some .i64, false, false, (by intro g n h; injection h with h; injection h with h1 h2; subst h1; subst h2; exact ⟨_, _, rfl, rfl, rfl, rfl, by simp, by decide⟩), (by intro z h; injection h with h; subst h; exact ⟨_, _, rfl, rfl, by simp [ZR, Value.cells, Value.oneCell']⟩), (fun _ h => by cases h), (fun _ _ _ h => by simp at h), (fun _ _ h => absurd rfl h), (fun h => by cases h), (fun h => by cases h), (by intro k h; injection h with h; subst h; rfl), none, (fun _ h => by cases h)⟩
  | 4 => ⟨some (false, 1), some [.lit (.bool false)], none, [], none, true, false, (by intro g n h; injection h with h; injection h with h1 h2; subst h1; subst h2; exact ⟨_, _, rfl, rfl, rfl, rfl, by simp, by decide⟩), (by intro z h; injection h with h; subst h; exact ⟨_, _, rfl, rfl, by simp [ZR, Value.cells, Value.oneCell']⟩), (fun _ h => by cases h), (fun _ _ _ h => by simp at h), (fun _ _ h => absurd rfl h), (fun h => by cases h), (fun _ => rfl), (fun _ h => by cases h), none, (fun _ h => by cases h)⟩
  | 5 => ⟨some (false, 1), some [.lit (.int .u8 0)], none, [], some .u8, false, false, (by intro g n h; injection h with h; injection h with h1 h2; subst h1; subst h2; exact ⟨_, _, rfl, rfl, rfl, rfl, by simp, by decide⟩), (by intro z h; injection h with h; subst h; exact ⟨_, _, rfl, rfl, by simp [ZR, Value.cells, Value.oneCell']⟩), (fun _ h => by cases h), (fun _ _ _ h => by simp at h), (fun _ _ h => absurd rfl h), (fun h => by cases h), (fun h => by cases h), (by intro k h; injection h with h; subst h; rfl), none, (fun _ h => by cases h)⟩
  | 6 => ⟨some (false, 1), some [.lit (.int .u8 0)], none, [], some .u8, false, false, (by intro g n h; injection h with h; injection h with h1 h2; subst h1; subst h2; exact ⟨_, _, rfl, rfl, rfl, rfl, by simp, by decide⟩), (by intro z h; injection h with h; subst h; exact ⟨_, _, rfl, rfl, by simp [ZR, Value.cells, Value.oneCell']⟩), (fun _ h => by cases h), (fun _ _ _ h => by simp at h), (fun _ _ h => absurd rfl h), (fun h => by cases h), (fun h => by cases h), (by intro k h; injection h with h; subst h; rfl), none, (fun _ h => by cases h)⟩
  | 7 => ⟨some (true, 4), some [.lit (.int .i64 0), .lit (.int .i64 0), .lit (.bool false), .lit (.int .u8 0)], none, [(0, 1), (1, 1), (2, 1), (3, 1)], none, false, false, (by intro g n h; injection h with h; injection h with h1 h2; subst h1; subst h2; exact ⟨_, _, rfl, rfl, rfl, rfl, by simp, by decide⟩), (by intro z h; injection h with h; subst h; exact ⟨_, _, rfl, rfl, by simp [ZR, Value.cells, Value.oneCell']⟩), (fun _ h => by cases h), (by intro f o n h; rcases f with _ | _ | _ | _ | f <;> first | (simp only [List.getElem?_cons_zero, List.getElem?_cons_succ, Option.some.injEq, Prod.mk.injEq] at h; obtain ⟨h1, h2⟩ := h; subst h1; subst h2; exact ⟨_, _, rfl, rfl, rfl, _, rfl, rfl, by decide⟩) | (simp at h; done)), (by intro z hz _; injection hz with hz; subst hz; exact ⟨_, _, fun i => (#[(0, 1), (1, 1), (2, 1), (3, 1)] : Array (Nat × Nat))[i]?, rfl, rfl, (fun i o n h => ⟨by show (#[(0, 1), (1, 1), (2, 1), (3, 1)] : Array (Nat × Nat))[i]? = some (o, n); rw [← Array.getElem?_toList]; exact h, (by decide : ∀ x ∈ ([(0, 1), (1, 1), (2, 1), (3, 1)] : List (Nat × Nat)), x.1 + x.2 ≤ 4) (o, n) (List.mem_of_getElem? h)⟩), fun parts => rfl⟩), (fun h => by cases h), (fun h => by cases h), (fun _ h => by cases h), none, (fun _ h => by cases h)⟩
  | 8 => ⟨some (true, 4), some [.lit (.int .i64 0), .lit (.int .i64 0), .lit (.bool false), .lit (.int .u8 0)], none, [(0, 1), (1, 1), (2, 1), (3, 1)], none, false, false, (by intro g n h; injection h with h; injection h with h1 h2; subst h1; subst h2; exact ⟨_, _, rfl, rfl, rfl, rfl, by simp, by decide⟩), (by intro z h; injection h with h; subst h; exact ⟨_, _, rfl, rfl, by simp [ZR, Value.cells, Value.oneCell']⟩), (fun _ h => by cases h), (by intro f o n h; rcases f with _ | _ | _ | _ | f <;> first | (simp only [List.getElem?_cons_zero, List.getElem?_cons_succ, Option.some.injEq, Prod.mk.injEq] at h; obtain ⟨h1, h2⟩ := h; subst h1; subst h2; exact ⟨_, _, rfl, rfl, rfl, _, rfl, rfl, by decide⟩) | (simp at h; done)), (by intro z hz _; injection hz with hz; subst hz; exact ⟨_, _, fun i => (#[(0, 1), (1, 1), (2, 1), (3, 1)] : Array (Nat × Nat))[i]?, rfl, rfl, (fun i o n h => ⟨by show (#[(0, 1), (1, 1), (2, 1), (3, 1)] : Array (Nat × Nat))[i]? = some (o, n); rw [← Array.getElem?_toList]; exact h, (by decide : ∀ x ∈ ([(0, 1), (1, 1), (2, 1), (3, 1)] : List (Nat × Nat)), x.1 + x.2 ≤ 4) (o, n) (List.mem_of_getElem? h)⟩), fun parts => rfl⟩), (fun h => by cases h), (fun h => by cases h), (fun _ h => by cases h), none, (fun _ h => by cases h)⟩
  | 9 => ⟨some (false, 1), some [.lit (.string ⟨#[]⟩)], none, [], none, false, true, (by intro g n h; injection h with h; injection h with h1 h2; subst h1; subst h2; exact ⟨_, _, rfl, rfl, rfl, rfl, by simp, by decide⟩), (by intro z h; injection h with h; subst h; exact ⟨_, _, rfl, rfl, by simp [ZR, Value.cells, Value.oneCell']⟩), (fun _ h => by cases h), (fun _ _ _ h => by simp at h), (fun _ _ h => absurd rfl h), (fun _ => rfl), (fun h => by cases h), (fun _ h => by cases h), none, (fun _ h => by cases h)⟩
  | 10 => ⟨some (false, 1), some [.lit (.string ⟨#[]⟩)], none, [], none, false, true, (by intro g n h; injection h with h; injection h with h1 h2; subst h1; subst h2; exact ⟨_, _, rfl, rfl, rfl, rfl, by simp, by decide⟩), (by intro z h; injection h with h; subst h; exact ⟨_, _, rfl, rfl, by simp [ZR, Value.cells, Value.oneCell']⟩), (fun _ h => by cases h), (fun _ _ _ h => by simp at h), (fun _ _ h => absurd rfl h), (fun _ => rfl), (fun h => by cases h), (fun _ h => by cases h), none, (fun _ h => by cases h)⟩
  | 11 => ⟨some (false, 1), some [.lit (.string ⟨#[]⟩)], none, [], none, false, true, (by intro g n h; injection h with h; injection h with h1 h2; subst h1; subst h2; exact ⟨_, _, rfl, rfl, rfl, rfl, by simp, by decide⟩), (by intro z h; injection h with h; subst h; exact ⟨_, _, rfl, rfl, by simp [ZR, Value.cells, Value.oneCell']⟩), (fun _ h => by cases h), (fun _ _ _ h => by simp at h), (fun _ _ h => absurd rfl h), (fun _ => rfl), (fun h => by cases h), (fun _ h => by cases h), none, (fun _ h => by cases h)⟩
  | 12 => ⟨some (false, 1), some [.lit (.int .u64 0)], none, [], some .u64, false, false, (by intro g n h; injection h with h; injection h with h1 h2; subst h1; subst h2; exact ⟨_, _, rfl, rfl, rfl, rfl, by simp, by decide⟩), (by intro z h; injection h with h; subst h; exact ⟨_, _, rfl, rfl, by simp [ZR, Value.cells, Value.oneCell']⟩), (fun _ h => by cases h), (fun _ _ _ h => by simp at h), (fun _ _ h => absurd rfl h), (fun h => by cases h), (fun h => by cases h), (by intro k h; injection h with h; subst h; rfl), none, (fun _ h => by cases h)⟩
  | 13 => ⟨some (true, 2), some [.lit (.string ⟨#[]⟩), .lit (.int .u64 0)], none, [(0, 1), (1, 1)], none, false, false, (by intro g n h; injection h with h; injection h with h1 h2; subst h1; subst h2; exact ⟨_, _, rfl, rfl, rfl, rfl, by simp, by decide⟩), (by intro z h; injection h with h; subst h; exact ⟨_, _, rfl, rfl, by simp [ZR, Value.cells, Value.oneCell']⟩), (fun _ h => by cases h), (by intro f o n h; rcases f with _ | _ | f <;> first | (simp only [List.getElem?_cons_zero, List.getElem?_cons_succ, Option.some.injEq, Prod.mk.injEq] at h; obtain ⟨h1, h2⟩ := h; subst h1; subst h2; exact ⟨_, _, rfl, rfl, rfl, _, rfl, rfl, by decide⟩) | (simp at h; done)), (by intro z hz _; injection hz with hz; subst hz; exact ⟨_, _, fun i => (#[(0, 1), (1, 1)] : Array (Nat × Nat))[i]?, rfl, rfl, (fun i o n h => ⟨by show (#[(0, 1), (1, 1)] : Array (Nat × Nat))[i]? = some (o, n); rw [← Array.getElem?_toList]; exact h, (by decide : ∀ x ∈ ([(0, 1), (1, 1)] : List (Nat × Nat)), x.1 + x.2 ≤ 2) (o, n) (List.mem_of_getElem? h)⟩), fun parts => rfl⟩), (fun h => by cases h), (fun h => by cases h), (fun _ h => by cases h), none, (fun _ h => by cases h)⟩
  | 14 => ⟨some (true, 2), some [.lit (.string ⟨#[]⟩), .lit (.int .u64 0)], none, [(0, 1), (1, 1)], none, false, false, (by intro g n h; injection h with h; injection h with h1 h2; subst h1; subst h2; exact ⟨_, _, rfl, rfl, rfl, rfl, by simp, by decide⟩), (by intro z h; injection h with h; subst h; exact ⟨_, _, rfl, rfl, by simp [ZR, Value.cells, Value.oneCell']⟩), (fun _ h => by cases h), (by intro f o n h; rcases f with _ | _ | f <;> first | (simp only [List.getElem?_cons_zero, List.getElem?_cons_succ, Option.some.injEq, Prod.mk.injEq] at h; obtain ⟨h1, h2⟩ := h; subst h1; subst h2; exact ⟨_, _, rfl, rfl, rfl, _, rfl, rfl, by decide⟩) | (simp at h; done)), (by intro z hz _; injection hz with hz; subst hz; exact ⟨_, _, fun i => (#[(0, 1), (1, 1)] : Array (Nat × Nat))[i]?, rfl, rfl, (fun i o n h => ⟨by show (#[(0, 1), (1, 1)] : Array (Nat × Nat))[i]? = some (o, n); rw [← Array.getElem?_toList]; exact h, (by decide : ∀ x ∈ ([(0, 1), (1, 1)] : List (Nat × Nat)), x.1 + x.2 ≤ 2) (o, n) (List.mem_of_getElem? h)⟩), fun parts => rfl⟩), (fun h => by cases h), (fun h => by cases h), (fun _ h => by cases h), none, (fun _ h => by cases h)⟩
  | 21 => ⟨some (false, 1), some [.lit (.int .i32 0)], none, [], some .i32, false, false, (by intro g n h; injection h with h; injection h with h1 h2; subst h1; subst h2; exact ⟨_, _, rfl, rfl, rfl, rfl, by simp, by decide⟩), (by intro z h; injection h with h; subst h; exact ⟨_, _, rfl, rfl, by simp [ZR, Value.cells, Value.oneCell']⟩), (fun _ h => by cases h), (fun _ _ _ h => by simp at h), (fun _ _ h => absurd rfl h), (fun h => by cases h), (fun h => by cases h), (by intro k h; injection h with h; subst h; rfl), none, (fun _ h => by cases h)⟩
  | 22 => ⟨some (true, 7), some [.lit (.string ⟨#[]⟩), .lit (.int .i64 0), .lit (.int .i64 0), .lit (.int .i64 0), .lit (.string ⟨#[]⟩), .lit (.string ⟨#[]⟩), .lit (.int .i64 0)], none, [(0, 1), (1, 1), (2, 1), (3, 1), (4, 1), (5, 1), (6, 1)], none, false, false, (by intro g n h; injection h with h; injection h with h1 h2; subst h1; subst h2; exact ⟨_, _, rfl, rfl, rfl, rfl, by simp, by decide⟩), (by intro z h; injection h with h; subst h; exact ⟨_, _, rfl, rfl, by simp [ZR, Value.cells, Value.oneCell']⟩), (fun _ h => by cases h), (by intro f o n h; rcases f with _ | _ | _ | _ | _ | _ | _ | f <;> first | (simp only [List.getElem?_cons_zero, List.getElem?_cons_succ, Option.some.injEq, Prod.mk.injEq] at h; obtain ⟨h1, h2⟩ := h; subst h1; subst h2; exact ⟨_, _, rfl, rfl, rfl, _, rfl, rfl, by decide⟩) | (simp at h; done)), (by intro z hz _; injection hz with hz; subst hz; exact ⟨_, _, fun i => (#[(0, 1), (1, 1), (2, 1), (3, 1), (4, 1), (5, 1), (6, 1)] : Array (Nat × Nat))[i]?, rfl, rfl, (fun i o n h => ⟨by show (#[(0, 1), (1, 1), (2, 1), (3, 1), (4, 1), (5, 1), (6, 1)] : Array (Nat × Nat))[i]? = some (o, n); rw [← Array.getElem?_toList]; exact h, (by decide : ∀ x ∈ ([(0, 1), (1, 1), (2, 1), (3, 1), (4, 1), (5, 1), (6, 1)] : List (Nat × Nat)), x.1 + x.2 ≤ 7) (o, n) (List.mem_of_getElem? h)⟩), fun parts => rfl⟩), (fun h => by cases h), (fun h => by cases h), (fun _ h => by cases h), none, (fun _ h => by cases h)⟩
  | 23 => ⟨some (true, 7), some [.lit (.string ⟨#[]⟩), .lit (.int .i64 0), .lit (.int .i64 0), .lit (.int .i64 0), .lit (.string ⟨#[]⟩), .lit (.string ⟨#[]⟩), .lit (.int .i64 0)], none, [(0, 1), (1, 1), (2, 1), (3, 1), (4, 1), (5, 1), (6, 1)], none, false, false, (by intro g n h; injection h with h; injection h with h1 h2; subst h1; subst h2; exact ⟨_, _, rfl, rfl, rfl, rfl, by simp, by decide⟩), (by intro z h; injection h with h; subst h; exact ⟨_, _, rfl, rfl, by simp [ZR, Value.cells, Value.oneCell']⟩), (fun _ h => by cases h), (by intro f o n h; rcases f with _ | _ | _ | _ | _ | _ | _ | f <;> first | (simp only [List.getElem?_cons_zero, List.getElem?_cons_succ, Option.some.injEq, Prod.mk.injEq] at h; obtain ⟨h1, h2⟩ := h; subst h1; subst h2; exact ⟨_, _, rfl, rfl, rfl, _, rfl, rfl, by decide⟩) | (simp at h; done)), (by intro z hz _; injection hz with hz; subst hz; exact ⟨_, _, fun i => (#[(0, 1), (1, 1), (2, 1), (3, 1), (4, 1), (5, 1), (6, 1)] : Array (Nat × Nat))[i]?, rfl, rfl, (fun i o n h => ⟨by show (#[(0, 1), (1, 1), (2, 1), (3, 1), (4, 1), (5, 1), (6, 1)] : Array (Nat × Nat))[i]? = some (o, n); rw [← Array.getElem?_toList]; exact h, (by decide : ∀ x ∈ ([(0, 1), (1, 1), (2, 1), (3, 1), (4, 1), (5, 1), (6, 1)] : List (Nat × Nat)), x.1 + x.2 ≤ 7) (o, n) (List.mem_of_getElem? h)⟩), fun parts => rfl⟩), (fun h => by cases h), (fun h => by cases h), (fun _ h => by cases h), some [none, some .i64, some .i64, some .i64, none, none, some .i64], (by intro ks h; injection h with h; subst h; exact ⟨by kernel_rfl, by kernel_rfl, _, rfl, ⟨by decide, rfl, rfl, ⟨by decide, rfl, rfl, ⟨by decide, rfl, rfl, ⟨by decide, rfl, rfl, ⟨by decide, rfl, rfl, ⟨by decide, rfl, rfl, ⟨by decide, rfl, rfl, trivial⟩⟩⟩⟩⟩⟩⟩⟩)⟩
  | 26 => ⟨some (true, 7), some [.lit (.string ⟨#[]⟩), .lit (.int .i64 0), .lit (.int .i64 0), .lit (.int .i64 0), .lit (.string ⟨#[]⟩), .lit (.string ⟨#[]⟩), .lit (.int .i64 0)], none, [(0, 1), (1, 1), (2, 1), (3, 1), (4, 1), (5, 1), (6, 1)], none, false, false, (by intro g n h; injection h with h; injection h with h1 h2; subst h1; subst h2; exact ⟨_, _, rfl, rfl, rfl, rfl, by simp, by decide⟩), (by intro z h; injection h with h; subst h; exact ⟨_, _, rfl, rfl, by simp [ZR, Value.cells, Value.oneCell']⟩), (fun _ h => by cases h), (by intro f o n h; rcases f with _ | _ | _ | _ | _ | _ | _ | f <;> first | (simp only [List.getElem?_cons_zero, List.getElem?_cons_succ, Option.some.injEq, Prod.mk.injEq] at h; obtain ⟨h1, h2⟩ := h; subst h1; subst h2; exact ⟨_, _, rfl, rfl, rfl, _, rfl, rfl, by decide⟩) | (simp at h; done)), (by intro z hz _; injection hz with hz; subst hz; exact ⟨_, _, fun i => (#[(0, 1), (1, 1), (2, 1), (3, 1), (4, 1), (5, 1), (6, 1)] : Array (Nat × Nat))[i]?, rfl, rfl, (fun i o n h => ⟨by show (#[(0, 1), (1, 1), (2, 1), (3, 1), (4, 1), (5, 1), (6, 1)] : Array (Nat × Nat))[i]? = some (o, n); rw [← Array.getElem?_toList]; exact h, (by decide : ∀ x ∈ ([(0, 1), (1, 1), (2, 1), (3, 1), (4, 1), (5, 1), (6, 1)] : List (Nat × Nat)), x.1 + x.2 ≤ 7) (o, n) (List.mem_of_getElem? h)⟩), fun parts => rfl⟩), (fun h => by cases h), (fun h => by cases h), (fun _ h => by cases h), some [none, some .i64, some .i64, some .i64, none, none, some .i64], (by intro ks h; injection h with h; subst h; exact ⟨by kernel_rfl, by kernel_rfl, _, rfl, ⟨by decide, rfl, rfl, ⟨by decide, rfl, rfl, ⟨by decide, rfl, rfl, ⟨by decide, rfl, rfl, ⟨by decide, rfl, rfl, ⟨by decide, rfl, rfl, ⟨by decide, rfl, rfl, trivial⟩⟩⟩⟩⟩⟩⟩⟩)⟩
  | 29 => ⟨some (false, 1), some [.own 5 []], some 5, [], none, false, false, (by intro g n h; injection h with h; injection h with h1 h2; subst h1; subst h2; exact ⟨_, _, rfl, rfl, rfl, rfl, by simp, by decide⟩), (by intro z h; injection h with h; subst h; exact ⟨_, _, rfl, rfl, by simp [ZR, Value.cells, Value.oneCell']⟩), (by intro e h; injection h with h; subst h; exact ⟨rfl, _, _, rfl, rfl, rfl, rfl, rfl, by decide, by decide⟩), (fun _ _ _ h => by simp at h), (fun _ _ h => absurd rfl h), (fun h => by cases h), (fun h => by cases h), (fun _ h => by cases h), none, (fun _ h => by cases h)⟩
  | 30 => ⟨some (false, 1), some [.own 42 []], some 42, [], none, false, false, (by intro g n h; injection h with h; injection h with h1 h2; subst h1; subst h2; exact ⟨_, _, rfl, rfl, rfl, rfl, by simp, by decide⟩), (by intro z h; injection h with h; subst h; exact ⟨_, _, rfl, rfl, by simp [ZR, Value.cells, Value.oneCell']⟩), (by intro e h; injection h with h; subst h; exact ⟨rfl, _, _, rfl, rfl, rfl, rfl, rfl, by decide, by decide⟩), (fun _ _ _ h => by simp at h), (fun _ _ h => absurd rfl h), (fun h => by cases h), (fun h => by cases h), (fun _ h => by cases h), none, (fun _ h => by cases h)⟩
  | 39 => ⟨some (false, 1), some [.own 26 []], some 26, [], none, false, false, (by intro g n h; injection h with h; injection h with h1 h2; subst h1; subst h2; exact ⟨_, _, rfl, rfl, rfl, rfl, by simp, by decide⟩), (by intro z h; injection h with h; subst h; exact ⟨_, _, rfl, rfl, by simp [ZR, Value.cells, Value.oneCell']⟩), (by intro e h; injection h with h; subst h; exact ⟨rfl, _, _, rfl, rfl, rfl, rfl, rfl, by decide, by decide⟩), (fun _ _ _ h => by simp at h), (fun _ _ h => absurd rfl h), (fun h => by cases h), (fun h => by cases h), (fun _ h => by cases h), none, (fun _ h => by cases h)⟩
  | 41 => ⟨some (true, 7), some [.lit (.string ⟨#[]⟩), .lit (.int .i64 0), .lit (.int .i64 0), .lit (.int .i64 0), .lit (.int .i64 0), .lit (.string ⟨#[]⟩), .lit (.int .i64 0)], none, [(0, 1), (1, 1), (2, 1), (3, 1), (4, 1), (5, 1), (6, 1)], none, false, false, (by intro g n h; injection h with h; injection h with h1 h2; subst h1; subst h2; exact ⟨_, _, rfl, rfl, rfl, rfl, by simp, by decide⟩), (by intro z h; injection h with h; subst h; exact ⟨_, _, rfl, rfl, by simp [ZR, Value.cells, Value.oneCell']⟩), (fun _ h => by cases h), (by intro f o n h; rcases f with _ | _ | _ | _ | _ | _ | _ | f <;> first | (simp only [List.getElem?_cons_zero, List.getElem?_cons_succ, Option.some.injEq, Prod.mk.injEq] at h; obtain ⟨h1, h2⟩ := h; subst h1; subst h2; exact ⟨_, _, rfl, rfl, rfl, _, rfl, rfl, by decide⟩) | (simp at h; done)), (by intro z hz _; injection hz with hz; subst hz; exact ⟨_, _, fun i => (#[(0, 1), (1, 1), (2, 1), (3, 1), (4, 1), (5, 1), (6, 1)] : Array (Nat × Nat))[i]?, rfl, rfl, (fun i o n h => ⟨by show (#[(0, 1), (1, 1), (2, 1), (3, 1), (4, 1), (5, 1), (6, 1)] : Array (Nat × Nat))[i]? = some (o, n); rw [← Array.getElem?_toList]; exact h, (by decide : ∀ x ∈ ([(0, 1), (1, 1), (2, 1), (3, 1), (4, 1), (5, 1), (6, 1)] : List (Nat × Nat)), x.1 + x.2 ≤ 7) (o, n) (List.mem_of_getElem? h)⟩), fun parts => rfl⟩), (fun h => by cases h), (fun h => by cases h), (fun _ h => by cases h), none, (fun _ h => by cases h)⟩
  | 42 => ⟨some (true, 7), some [.lit (.string ⟨#[]⟩), .lit (.int .i64 0), .lit (.int .i64 0), .lit (.int .i64 0), .lit (.int .i64 0), .lit (.string ⟨#[]⟩), .lit (.int .i64 0)], none, [(0, 1), (1, 1), (2, 1), (3, 1), (4, 1), (5, 1), (6, 1)], none, false, false, (by intro g n h; injection h with h; injection h with h1 h2; subst h1; subst h2; exact ⟨_, _, rfl, rfl, rfl, rfl, by simp, by decide⟩), (by intro z h; injection h with h; subst h; exact ⟨_, _, rfl, rfl, by simp [ZR, Value.cells, Value.oneCell']⟩), (fun _ h => by cases h), (by intro f o n h; rcases f with _ | _ | _ | _ | _ | _ | _ | f <;> first | (simp only [List.getElem?_cons_zero, List.getElem?_cons_succ, Option.some.injEq, Prod.mk.injEq] at h; obtain ⟨h1, h2⟩ := h; subst h1; subst h2; exact ⟨_, _, rfl, rfl, rfl, _, rfl, rfl, by decide⟩) | (simp at h; done)), (by intro z hz _; injection hz with hz; subst hz; exact ⟨_, _, fun i => (#[(0, 1), (1, 1), (2, 1), (3, 1), (4, 1), (5, 1), (6, 1)] : Array (Nat × Nat))[i]?, rfl, rfl, (fun i o n h => ⟨by show (#[(0, 1), (1, 1), (2, 1), (3, 1), (4, 1), (5, 1), (6, 1)] : Array (Nat × Nat))[i]? = some (o, n); rw [← Array.getElem?_toList]; exact h, (by decide : ∀ x ∈ ([(0, 1), (1, 1), (2, 1), (3, 1), (4, 1), (5, 1), (6, 1)] : List (Nat × Nat)), x.1 + x.2 ≤ 7) (o, n) (List.mem_of_getElem? h)⟩), fun parts => rfl⟩), (fun h => by cases h), (fun h => by cases h), (fun _ h => by cases h), some [none, some .i64, some .i64, some .i64, some .i64, none, some .i64], (by intro ks h; injection h with h; subst h; exact ⟨by kernel_rfl, by kernel_rfl, _, rfl, ⟨by decide, rfl, rfl, ⟨by decide, rfl, rfl, ⟨by decide, rfl, rfl, ⟨by decide, rfl, rfl, ⟨by decide, rfl, rfl, ⟨by decide, rfl, rfl, ⟨by decide, rfl, rfl, trivial⟩⟩⟩⟩⟩⟩⟩⟩)⟩
  | 46 => ⟨some (false, 1), some [.own 23 []], some 23, [], none, false, false, (by intro g n h; injection h with h; injection h with h1 h2; subst h1; subst h2; exact ⟨_, _, rfl, rfl, rfl, rfl, by simp, by decide⟩), (by intro z h; injection h with h; subst h; exact ⟨_, _, rfl, rfl, by simp [ZR, Value.cells, Value.oneCell']⟩), (by intro e h; injection h with h; subst h; exact ⟨rfl, _, _, rfl, rfl, rfl, rfl, rfl, by decide, by decide⟩), (fun _ _ _ h => by simp at h), (fun _ _ h => absurd rfl h), (fun h => by cases h), (fun h => by cases h), (fun _ h => by cases h), none, (fun _ h => by cases h)⟩
  | 61 => ⟨some (true, 2), some [.own 5 [], .lit (.bool false)], none, [(0, 1), (1, 1)], none, false, false, (by intro g n h; injection h with h; injection h with h1 h2; subst h1; subst h2; exact ⟨_, _, rfl, rfl, rfl, rfl, by simp, by decide⟩), (by intro z h; injection h with h; subst h; exact ⟨_, _, rfl, rfl, by simp [ZR, Value.cells, Value.oneCell']⟩), (fun _ h => by cases h), (by intro f o n h; rcases f with _ | _ | f <;> first | (simp only [List.getElem?_cons_zero, List.getElem?_cons_succ, Option.some.injEq, Prod.mk.injEq] at h; obtain ⟨h1, h2⟩ := h; subst h1; subst h2; exact ⟨_, _, rfl, rfl, rfl, _, rfl, rfl, by decide⟩) | (simp at h; done)), (by intro z hz _; injection hz with hz; subst hz; exact ⟨_, _, fun i => (#[(0, 1), (1, 1)] : Array (Nat × Nat))[i]?, rfl, rfl, (fun i o n h => ⟨by show (#[(0, 1), (1, 1)] : Array (Nat × Nat))[i]? = some (o, n); rw [← Array.getElem?_toList]; exact h, (by decide : ∀ x ∈ ([(0, 1), (1, 1)] : List (Nat × Nat)), x.1 + x.2 ≤ 2) (o, n) (List.mem_of_getElem? h)⟩), fun parts => rfl⟩), (fun h => by cases h), (fun h => by cases h), (fun _ h => by cases h), none, (fun _ h => by cases h)⟩
  | 62 => ⟨some (true, 2), some [.own 5 [], .lit (.bool false)], none, [(0, 1), (1, 1)], none, false, false, (by intro g n h; injection h with h; injection h with h1 h2; subst h1; subst h2; exact ⟨_, _, rfl, rfl, rfl, rfl, by simp, by decide⟩), (by intro z h; injection h with h; subst h; exact ⟨_, _, rfl, rfl, by simp [ZR, Value.cells, Value.oneCell']⟩), (fun _ h => by cases h), (by intro f o n h; rcases f with _ | _ | f <;> first | (simp only [List.getElem?_cons_zero, List.getElem?_cons_succ, Option.some.injEq, Prod.mk.injEq] at h; obtain ⟨h1, h2⟩ := h; subst h1; subst h2; exact ⟨_, _, rfl, rfl, rfl, _, rfl, rfl, by decide⟩) | (simp at h; done)), (by intro z hz _; injection hz with hz; subst hz; exact ⟨_, _, fun i => (#[(0, 1), (1, 1)] : Array (Nat × Nat))[i]?, rfl, rfl, (fun i o n h => ⟨by show (#[(0, 1), (1, 1)] : Array (Nat × Nat))[i]? = some (o, n); rw [← Array.getElem?_toList]; exact h, (by decide : ∀ x ∈ ([(0, 1), (1, 1)] : List (Nat × Nat)), x.1 + x.2 ≤ 2) (o, n) (List.mem_of_getElem? h)⟩), fun parts => rfl⟩), (fun h => by cases h), (fun h => by cases h), (fun _ h => by cases h), none, (fun _ h => by cases h)⟩
  | 66 => ⟨some (true, 2), some [.lit (.string ⟨#[]⟩), .lit (.bool false)], none, [(0, 1), (1, 1)], none, false, false, (by intro g n h; injection h with h; injection h with h1 h2; subst h1; subst h2; exact ⟨_, _, rfl, rfl, rfl, rfl, by simp, by decide⟩), (by intro z h; injection h with h; subst h; exact ⟨_, _, rfl, rfl, by simp [ZR, Value.cells, Value.oneCell']⟩), (fun _ h => by cases h), (by intro f o n h; rcases f with _ | _ | f <;> first | (simp only [List.getElem?_cons_zero, List.getElem?_cons_succ, Option.some.injEq, Prod.mk.injEq] at h; obtain ⟨h1, h2⟩ := h; subst h1; subst h2; exact ⟨_, _, rfl, rfl, rfl, _, rfl, rfl, by decide⟩) | (simp at h; done)), (by intro z hz _; injection hz with hz; subst hz; exact ⟨_, _, fun i => (#[(0, 1), (1, 1)] : Array (Nat × Nat))[i]?, rfl, rfl, (fun i o n h => ⟨by show (#[(0, 1), (1, 1)] : Array (Nat × Nat))[i]? = some (o, n); rw [← Array.getElem?_toList]; exact h, (by decide : ∀ x ∈ ([(0, 1), (1, 1)] : List (Nat × Nat)), x.1 + x.2 ≤ 2) (o, n) (List.mem_of_getElem? h)⟩), fun parts => rfl⟩), (fun h => by cases h), (fun h => by cases h), (fun _ h => by cases h), none, (fun _ h => by cases h)⟩
  | 67 => ⟨some (true, 2), some [.lit (.string ⟨#[]⟩), .lit (.bool false)], none, [(0, 1), (1, 1)], none, false, false, (by intro g n h; injection h with h; injection h with h1 h2; subst h1; subst h2; exact ⟨_, _, rfl, rfl, rfl, rfl, by simp, by decide⟩), (by intro z h; injection h with h; subst h; exact ⟨_, _, rfl, rfl, by simp [ZR, Value.cells, Value.oneCell']⟩), (fun _ h => by cases h), (by intro f o n h; rcases f with _ | _ | f <;> first | (simp only [List.getElem?_cons_zero, List.getElem?_cons_succ, Option.some.injEq, Prod.mk.injEq] at h; obtain ⟨h1, h2⟩ := h; subst h1; subst h2; exact ⟨_, _, rfl, rfl, rfl, _, rfl, rfl, by decide⟩) | (simp at h; done)), (by intro z hz _; injection hz with hz; subst hz; exact ⟨_, _, fun i => (#[(0, 1), (1, 1)] : Array (Nat × Nat))[i]?, rfl, rfl, (fun i o n h => ⟨by show (#[(0, 1), (1, 1)] : Array (Nat × Nat))[i]? = some (o, n); rw [← Array.getElem?_toList]; exact h, (by decide : ∀ x ∈ ([(0, 1), (1, 1)] : List (Nat × Nat)), x.1 + x.2 ≤ 2) (o, n) (List.mem_of_getElem? h)⟩), fun parts => rfl⟩), (fun h => by cases h), (fun h => by cases h), (fun _ h => by cases h), none, (fun _ h => by cases h)⟩
  | 88 => ⟨some (false, 1), some [.own 9 []], some 9, [], none, false, false, (by intro g n h; injection h with h; injection h with h1 h2; subst h1; subst h2; exact ⟨_, _, rfl, rfl, rfl, rfl, by simp, by decide⟩), (by intro z h; injection h with h; subst h; exact ⟨_, _, rfl, rfl, by simp [ZR, Value.cells, Value.oneCell']⟩), (by intro e h; injection h with h; subst h; exact ⟨rfl, _, _, rfl, rfl, rfl, rfl, rfl, by decide, by decide⟩), (fun _ _ _ h => by simp at h), (fun _ _ h => absurd rfl h), (fun h => by cases h), (fun h => by cases h), (fun _ h => by cases h), none, (fun _ h => by cases h)⟩
  | 90 => ⟨some (false, 1), some [.own 3 []], some 3, [], none, false, false, (by intro g n h; injection h with h; injection h with h1 h2; subst h1; subst h2; exact ⟨_, _, rfl, rfl, rfl, rfl, by simp, by decide⟩), (by intro z h; injection h with h; subst h; exact ⟨_, _, rfl, rfl, by simp [ZR, Value.cells, Value.oneCell']⟩), (by intro e h; injection h with h; subst h; exact ⟨rfl, _, _, rfl, rfl, rfl, rfl, rfl, by decide, by decide⟩), (fun _ _ _ h => by simp at h), (fun _ _ h => absurd rfl h), (fun h => by cases h), (fun h => by cases h), (fun _ h => by cases h), none, (fun _ h => by cases h)⟩
  | 95 => ⟨some (true, 2), some [.own 9 [], .lit (.bool false)], none, [(0, 1), (1, 1)], none, false, false, (by intro g n h; injection h with h; injection h with h1 h2; subst h1; subst h2; exact ⟨_, _, rfl, rfl, rfl, rfl, by simp, by decide⟩), (by intro z h; injection h with h; subst h; exact ⟨_, _, rfl, rfl, by simp [ZR, Value.cells, Value.oneCell']⟩), (fun _ h => by cases h), (by intro f o n h; rcases f with _ | _ | f <;> first | (simp only [List.getElem?_cons_zero, List.getElem?_cons_succ, Option.some.injEq, Prod.mk.injEq] at h; obtain ⟨h1, h2⟩ := h; subst h1; subst h2; exact ⟨_, _, rfl, rfl, rfl, _, rfl, rfl, by decide⟩) | (simp at h; done)), (by intro z hz _; injection hz with hz; subst hz; exact ⟨_, _, fun i => (#[(0, 1), (1, 1)] : Array (Nat × Nat))[i]?, rfl, rfl, (fun i o n h => ⟨by show (#[(0, 1), (1, 1)] : Array (Nat × Nat))[i]? = some (o, n); rw [← Array.getElem?_toList]; exact h, (by decide : ∀ x ∈ ([(0, 1), (1, 1)] : List (Nat × Nat)), x.1 + x.2 ≤ 2) (o, n) (List.mem_of_getElem? h)⟩), fun parts => rfl⟩), (fun h => by cases h), (fun h => by cases h), (fun _ h => by cases h), none, (fun _ h => by cases h)⟩
  | 96 => ⟨some (true, 2), some [.own 9 [], .lit (.bool false)], none, [(0, 1), (1, 1)], none, false, false, (by intro g n h; injection h with h; injection h with h1 h2; subst h1; subst h2; exact ⟨_, _, rfl, rfl, rfl, rfl, by simp, by decide⟩), (by intro z h; injection h with h; subst h; exact ⟨_, _, rfl, rfl, by simp [ZR, Value.cells, Value.oneCell']⟩), (fun _ h => by cases h), (by intro f o n h; rcases f with _ | _ | f <;> first | (simp only [List.getElem?_cons_zero, List.getElem?_cons_succ, Option.some.injEq, Prod.mk.injEq] at h; obtain ⟨h1, h2⟩ := h; subst h1; subst h2; exact ⟨_, _, rfl, rfl, rfl, _, rfl, rfl, by decide⟩) | (simp at h; done)), (by intro z hz _; injection hz with hz; subst hz; exact ⟨_, _, fun i => (#[(0, 1), (1, 1)] : Array (Nat × Nat))[i]?, rfl, rfl, (fun i o n h => ⟨by show (#[(0, 1), (1, 1)] : Array (Nat × Nat))[i]? = some (o, n); rw [← Array.getElem?_toList]; exact h, (by decide : ∀ x ∈ ([(0, 1), (1, 1)] : List (Nat × Nat)), x.1 + x.2 ≤ 2) (o, n) (List.mem_of_getElem? h)⟩), fun parts => rfl⟩), (fun h => by cases h), (fun h => by cases h), (fun _ h => by cases h), none, (fun _ h => by cases h)⟩
  | 106 => ⟨some (true, 3), some [.own 5 [], .lit (.int .i64 0), .lit (.int .i64 0)], none, [(0, 1), (1, 1), (2, 1)], none, false, false, (by intro g n h; injection h with h; injection h with h1 h2; subst h1; subst h2; exact ⟨_, _, rfl, rfl, rfl, rfl, by simp, by decide⟩), (by intro z h; injection h with h; subst h; exact ⟨_, _, rfl, rfl, by simp [ZR, Value.cells, Value.oneCell']⟩), (fun _ h => by cases h), (by intro f o n h; rcases f with _ | _ | _ | f <;> first | (simp only [List.getElem?_cons_zero, List.getElem?_cons_succ, Option.some.injEq, Prod.mk.injEq] at h; obtain ⟨h1, h2⟩ := h; subst h1; subst h2; exact ⟨_, _, rfl, rfl, rfl, _, rfl, rfl, by decide⟩) | (simp at h; done)), (by intro z hz _; injection hz with hz; subst hz; exact ⟨_, _, fun i => (#[(0, 1), (1, 1), (2, 1)] : Array (Nat × Nat))[i]?, rfl, rfl, (fun i o n h => ⟨by show (#[(0, 1), (1, 1), (2, 1)] : Array (Nat × Nat))[i]? = some (o, n); rw [← Array.getElem?_toList]; exact h, (by decide : ∀ x ∈ ([(0, 1), (1, 1), (2, 1)] : List (Nat × Nat)), x.1 + x.2 ≤ 3) (o, n) (List.mem_of_getElem? h)⟩), fun parts => rfl⟩), (fun h => by cases h), (fun h => by cases h), (fun _ h => by cases h), none, (fun _ h => by cases h)⟩
  | 107 => ⟨some (true, 3), some [.own 5 [], .lit (.int .i64 0), .lit (.int .i64 0)], none, [(0, 1), (1, 1), (2, 1)], none, false, false, (by intro g n h; injection h with h; injection h with h1 h2; subst h1; subst h2; exact ⟨_, _, rfl, rfl, rfl, rfl, by simp, by decide⟩), (by intro z h; injection h with h; subst h; exact ⟨_, _, rfl, rfl, by simp [ZR, Value.cells, Value.oneCell']⟩), (fun _ h => by cases h), (by intro f o n h; rcases f with _ | _ | _ | f <;> first | (simp only [List.getElem?_cons_zero, List.getElem?_cons_succ, Option.some.injEq, Prod.mk.injEq] at h; obtain ⟨h1, h2⟩ := h; subst h1; subst h2; exact ⟨_, _, rfl, rfl, rfl, _, rfl, rfl, by decide⟩) | (simp at h; done)), (by intro z hz _; injection hz with hz; subst hz; exact ⟨_, _, fun i => (#[(0, 1), (1, 1), (2, 1)] : Array (Nat × Nat))[i]?, rfl, rfl, (fun i o n h => ⟨by show (#[(0, 1), (1, 1), (2, 1)] : Array (Nat × Nat))[i]? = some (o, n); rw [← Array.getElem?_toList]; exact h, (by decide : ∀ x ∈ ([(0, 1), (1, 1), (2, 1)] : List (Nat × Nat)), x.1 + x.2 ≤ 3) (o, n) (List.mem_of_getElem? h)⟩), fun parts => rfl⟩), (fun h => by cases h), (fun h => by cases h), (fun _ h => by cases h), none, (fun _ h => by cases h)⟩
  | 127 => ⟨some (false, 1), some [.lit (.int .u64 0)], none, [], some .u64, false, false, (by intro g n h; injection h with h; injection h with h1 h2; subst h1; subst h2; exact ⟨_, _, rfl, rfl, rfl, rfl, by simp, by decide⟩), (by intro z h; injection h with h; subst h; exact ⟨_, _, rfl, rfl, by simp [ZR, Value.cells, Value.oneCell']⟩), (fun _ h => by cases h), (fun _ _ _ h => by simp at h), (fun _ _ h => absurd rfl h), (fun h => by cases h), (fun h => by cases h), (by intro k h; injection h with h; subst h; rfl), none, (fun _ h => by cases h)⟩
  | 147 => ⟨some (false, 1), some [.lit (.int .i64 0)], none, [], some .i64, false, false, (by intro g n h; injection h with h; injection h with h1 h2; subst h1; subst h2; exact ⟨_, _, rfl, rfl, rfl, rfl, by simp, by decide⟩), (by intro z h; injection h with h; subst h; exact ⟨_, _, rfl, rfl, by simp [ZR, Value.cells, Value.oneCell']⟩), (fun _ h => by cases h), (fun _ _ _ h => by simp at h), (fun _ _ h => absurd rfl h), (fun h => by cases h), (fun h => by cases h), (by intro k h; injection h with h; subst h; rfl), none, (fun _ h => by cases h)⟩
  | 153 => ⟨some (false, 1), some [.lit (.int .u32 0)], none, [], some .u32, false, false, (by intro g n h; injection h with h; injection h with h1 h2; subst h1; subst h2; exact ⟨_, _, rfl, rfl, rfl, rfl, by simp, by decide⟩), (by intro z h; injection h with h; subst h; exact ⟨_, _, rfl, rfl, by simp [ZR, Value.cells, Value.oneCell']⟩), (fun _ h => by cases h), (fun _ _ _ h => by simp at h), (fun _ _ h => absurd rfl h), (fun h => by cases h), (fun h => by cases h), (by intro k h; injection h with h; subst h; rfl), none, (fun _ h => by cases h)⟩
  | 157 => ⟨some (false, 1), some [.lit (.int .u64 0)], none, [], some .u64, false, false, (by intro g n h; injection h with h; injection h with h1 h2; subst h1; subst h2; exact ⟨_, _, rfl, rfl, rfl, rfl, by simp, by decide⟩), (by intro z h; injection h with h; subst h; exact ⟨_, _, rfl, rfl, by simp [ZR, Value.cells, Value.oneCell']⟩), (fun _ h => by cases h), (fun _ _ _ h => by simp at h), (fun _ _ h => absurd rfl h), (fun h => by cases h), (fun h => by cases h), (by intro k h; injection h with h; subst h; rfl), none, (fun _ h => by cases h)⟩
  | 163 => ⟨some (true, 2), some [.lit (.int .u8 0), .lit (.int .u8 0)], none, [(0, 1), (1, 1)], none, false, false, (by intro g n h; injection h with h; injection h with h1 h2; subst h1; subst h2; exact ⟨_, _, rfl, rfl, rfl, rfl, by simp, by decide⟩), (by intro z h; injection h with h; subst h; exact ⟨_, _, rfl, rfl, by simp [ZR, Value.cells, Value.oneCell']⟩), (fun _ h => by cases h), (by intro f o n h; rcases f with _ | _ | f <;> first | (simp only [List.getElem?_cons_zero, List.getElem?_cons_succ, Option.some.injEq, Prod.mk.injEq] at h; obtain ⟨h1, h2⟩ := h; subst h1; subst h2; exact ⟨_, _, rfl, rfl, rfl, _, rfl, rfl, by decide⟩) | (simp at h; done)), (by intro z hz _; injection hz with hz; subst hz; exact ⟨_, _, fun i => (#[(0, 1), (1, 1)] : Array (Nat × Nat))[i]?, rfl, rfl, (fun i o n h => ⟨by show (#[(0, 1), (1, 1)] : Array (Nat × Nat))[i]? = some (o, n); rw [← Array.getElem?_toList]; exact h, (by decide : ∀ x ∈ ([(0, 1), (1, 1)] : List (Nat × Nat)), x.1 + x.2 ≤ 2) (o, n) (List.mem_of_getElem? h)⟩), fun parts => rfl⟩), (fun h => by cases h), (fun h => by cases h), (fun _ h => by cases h), none, (fun _ h => by cases h)⟩
  | 164 => ⟨some (true, 2), some [.lit (.int .u8 0), .lit (.int .u8 0)], none, [(0, 1), (1, 1)], none, false, false, (by intro g n h; injection h with h; injection h with h1 h2; subst h1; subst h2; exact ⟨_, _, rfl, rfl, rfl, rfl, by simp, by decide⟩), (by intro z h; injection h with h; subst h; exact ⟨_, _, rfl, rfl, by simp [ZR, Value.cells, Value.oneCell']⟩), (fun _ h => by cases h), (by intro f o n h; rcases f with _ | _ | f <;> first | (simp only [List.getElem?_cons_zero, List.getElem?_cons_succ, Option.some.injEq, Prod.mk.injEq] at h; obtain ⟨h1, h2⟩ := h; subst h1; subst h2; exact ⟨_, _, rfl, rfl, rfl, _, rfl, rfl, by decide⟩) | (simp at h; done)), (by intro z hz _; injection hz with hz; subst hz; exact ⟨_, _, fun i => (#[(0, 1), (1, 1)] : Array (Nat × Nat))[i]?, rfl, rfl, (fun i o n h => ⟨by show (#[(0, 1), (1, 1)] : Array (Nat × Nat))[i]? = some (o, n); rw [← Array.getElem?_toList]; exact h, (by decide : ∀ x ∈ ([(0, 1), (1, 1)] : List (Nat × Nat)), x.1 + x.2 ≤ 2) (o, n) (List.mem_of_getElem? h)⟩), fun parts => rfl⟩), (fun h => by cases h), (fun h => by cases h), (fun _ h => by cases h), none, (fun _ h => by cases h)⟩
  | 178 => ⟨some (true, 1), some [.lit (.string ⟨#[]⟩)], none, [(0, 1)], none, false, false, (by intro g n h; injection h with h; injection h with h1 h2; subst h1; subst h2; exact ⟨_, _, rfl, rfl, rfl, rfl, by simp, by decide⟩), (by intro z h; injection h with h; subst h; exact ⟨_, _, rfl, rfl, by simp [ZR, Value.cells, Value.oneCell']⟩), (fun _ h => by cases h), (by intro f o n h; rcases f with _ | f <;> first | (simp only [List.getElem?_cons_zero, List.getElem?_cons_succ, Option.some.injEq, Prod.mk.injEq] at h; obtain ⟨h1, h2⟩ := h; subst h1; subst h2; exact ⟨_, _, rfl, rfl, rfl, _, rfl, rfl, by decide⟩) | (simp at h; done)), (by intro z hz _; injection hz with hz; subst hz; exact ⟨_, _, fun i => (#[(0, 1)] : Array (Nat × Nat))[i]?, rfl, rfl, (fun i o n h => ⟨by show (#[(0, 1)] : Array (Nat × Nat))[i]? = some (o, n); rw [← Array.getElem?_toList]; exact h, (by decide : ∀ x ∈ ([(0, 1)] : List (Nat × Nat)), x.1 + x.2 ≤ 1) (o, n) (List.mem_of_getElem? h)⟩), fun parts => rfl⟩), (fun h => by cases h), (fun h => by cases h), (fun _ h => by cases h), none, (fun _ h => by cases h)⟩
  | 179 => ⟨some (true, 1), some [.lit (.string ⟨#[]⟩)], none, [(0, 1)], none, false, false, (by intro g n h; injection h with h; injection h with h1 h2; subst h1; subst h2; exact ⟨_, _, rfl, rfl, rfl, rfl, by simp, by decide⟩), (by intro z h; injection h with h; subst h; exact ⟨_, _, rfl, rfl, by simp [ZR, Value.cells, Value.oneCell']⟩), (fun _ h => by cases h), (by intro f o n h; rcases f with _ | f <;> first | (simp only [List.getElem?_cons_zero, List.getElem?_cons_succ, Option.some.injEq, Prod.mk.injEq] at h; obtain ⟨h1, h2⟩ := h; subst h1; subst h2; exact ⟨_, _, rfl, rfl, rfl, _, rfl, rfl, by decide⟩) | (simp at h; done)), (by intro z hz _; injection hz with hz; subst hz; exact ⟨_, _, fun i => (#[(0, 1)] : Array (Nat × Nat))[i]?, rfl, rfl, (fun i o n h => ⟨by show (#[(0, 1)] : Array (Nat × Nat))[i]? = some (o, n); rw [← Array.getElem?_toList]; exact h, (by decide : ∀ x ∈ ([(0, 1)] : List (Nat × Nat)), x.1 + x.2 ≤ 1) (o, n) (List.mem_of_getElem? h)⟩), fun parts => rfl⟩), (fun h => by cases h), (fun h => by cases h), (fun _ h => by cases h), none, (fun _ h => by cases h)⟩
  | 188 => ⟨some (false, 1), some [.lit (.int .u8 0)], none, [], some .u8, false, false, (by intro g n h; injection h with h; injection h with h1 h2; subst h1; subst h2; exact ⟨_, _, rfl, rfl, rfl, rfl, by simp, by decide⟩), (by intro z h; injection h with h; subst h; exact ⟨_, _, rfl, rfl, by simp [ZR, Value.cells, Value.oneCell']⟩), (fun _ h => by cases h), (fun _ _ _ h => by simp at h), (fun _ _ h => absurd rfl h), (fun h => by cases h), (fun h => by cases h), (by intro k h; injection h with h; subst h; rfl), none, (fun _ h => by cases h)⟩
  | 189 => ⟨some (false, 1), some [.lit (.int .u8 0)], none, [], some .u8, false, false, (by intro g n h; injection h with h; injection h with h1 h2; subst h1; subst h2; exact ⟨_, _, rfl, rfl, rfl, rfl, by simp, by decide⟩), (by intro z h; injection h with h; subst h; exact ⟨_, _, rfl, rfl, by simp [ZR, Value.cells, Value.oneCell']⟩), (fun _ h => by cases h), (fun _ _ _ h => by simp at h), (fun _ _ h => absurd rfl h), (fun h => by cases h), (fun h => by cases h), (by intro k h; injection h with h; subst h; rfl), none, (fun _ h => by cases h)⟩
  | 191 => ⟨some (false, 1), some [.lit (.int .i32 0)], none, [], some .i32, false, false, (by intro g n h; injection h with h; injection h with h1 h2; subst h1; subst h2; exact ⟨_, _, rfl, rfl, rfl, rfl, by simp, by decide⟩), (by intro z h; injection h with h; subst h; exact ⟨_, _, rfl, rfl, by simp [ZR, Value.cells, Value.oneCell']⟩), (fun _ h => by cases h), (fun _ _ _ h => by simp at h), (fun _ _ h => absurd rfl h), (fun h => by cases h), (fun h => by cases h), (by intro k h; injection h with h; subst h; rfl), none, (fun _ h => by cases h)⟩
  | 192 => ⟨some (false, 1), some [.lit (.int .i32 0)], none, [], some .i32, false, false, (by intro g n h; injection h with h; injection h with h1 h2; subst h1; subst h2; exact ⟨_, _, rfl, rfl, rfl, rfl, by simp, by decide⟩), (by intro z h; injection h with h; subst h; exact ⟨_, _, rfl, rfl, by simp [ZR, Value.cells, Value.oneCell']⟩), (fun _ h => by cases h), (fun _ _ _ h => by simp at h), (fun _ _ h => absurd rfl h), (fun h => by cases h), (fun h => by cases h), (by intro k h; injection h with h; subst h; rfl), none, (fun _ h => by cases h)⟩
  | t => rowNone _ _ t
def bytesAs (e : TypeId) (l : List (TT e)) : Option (List Int) := if h : e = 5 then some (h ▸ l : List (TT 5)) else none
theorem bytesAs_spec {e : TypeId} {l' : List (TT e)} {l : List Int} (h : bytesAs e l' = some l) : ∃ he : e = 5, l = (he ▸ l' : List (TT 5)) := by
  unfold bytesAs at h
  split at h
  · rename_i he
    injection h with h
    exact ⟨he, h.symm⟩
  · cases h
def toB (v : V TT) : Option (List Int) := match v with | .imm e l => bytesAs e l | .own e l => bytesAs e l | _ => none
noncomputable def tab : Tab where
  T := TT
  dflt := fun e => (el e).dflt
  enc := fun e => (el e).enc
  dec := fun e => (el e).dec
  size := fun e => (el e).size
  bytes := fun e => (el e).bytes
  elem := fun t => (row t).elem
  lay := fun t => (row t).lay
  zero := fun t => (row t).zero
  flds := fun t => (row t).flds
  sq := fun t => (row t).sq
  ikind := fun t => (row t).ikind
  isBool := fun t => (row t).isBool
  isStr := fun t => (row t).isStr
  plain := fun e => (el e).plain
  updF := fun e => (el e).upd
  toBytes := fun src dst v => if src = 29 ∧ dst = 9 then toB v else none
  ofBytes := fun e l => match e with | 5 => some (l : List Int) | _ => none
  bldT := 82
  byteT := 5
  bldOp := fun f => match f with | 109 => some .wbyte | 56 => some .wstr | 58 => some .str | _ => none
  gives := fun f => match f with | 17 => true | 18 => true | _ => false
  ptrE := fun t => match t with | 60 => some 62 | 65 => some 67 | 72 => some 107 | 93 => some 96 | 177 => some 179 | _ => none
theorem tabP : TabP Go.Proofs.Tryd.prog tab where
  mixed := by decide
  enc_len := fun e x => (el e).len x
  dec_enc := fun e cs x h => (el e).back cs x h
  upd_ok := fun e off x f h z => (el e).updOK off x f h z
  glob_keep := fun _ _ _ _ => trivial
  plain_ok := fun e h x v => (el e).pl h x v
  lay_ok := fun t => (row t).lay_ok
  zero_ok := fun t => (row t).zero_ok
  elem_ok := fun t => (row t).elem_ok
  fld_ok := fun t => (row t).fld_ok
  bld_ok := fun t => (row t).bld_ok
  sq_ok := fun t => (row t).sq_ok
  to_ok := by
    intro src dst v l h
    replace h : (if src = 29 ∧ dst = 9 then toB v else none) = some l := h
    by_cases hc : src = 29 ∧ dst = 9
    · rw [if_pos hc] at h
      obtain ⟨rfl, rfl⟩ := hc
      replace h : toB v = some l := h
      cases v with
      | imm e l' =>
        obtain ⟨rfl, rfl⟩ := bytesAs_spec h
        exact ⟨5, _, rfl, rfl, rfl, .inr rfl, rfl, rfl, fun j x hx => ⟨x, hx, rfl⟩⟩
      | own e l' =>
        obtain ⟨rfl, rfl⟩ := bytesAs_spec h
        exact ⟨5, _, rfl, rfl, rfl, .inl rfl, rfl, rfl, fun j x hx => ⟨x, hx, rfl⟩⟩
      | _ => cases h
    · rw [if_neg hc] at h; cases h
  of_ok := by
    intro e bs l h
    simp only [tab] at h
    split at h
    · injection h with h; subst h
      exact ⟨rfl, rfl, rfl, fun j x hx => ⟨x, hx, rfl⟩⟩
    · cases h
  str_ok := fun t => (row t).str_ok
  bool_ok := fun t => (row t).bool_ok
  ikind_ok := fun t => (row t).ikind_ok
  bldZ := Go.Proofs.YtogfddilolannaaDoorW.XBld.bldZ rfl
  bldF := by
    intro f kd h
    simp only [tab] at h
    split at h
    · injection h with h; subst h; exact Go.Proofs.YtogfddilolannaaDoorW.XBld.bldC_wbyte rfl rfl
    · injection h with h; subst h; exact Go.Proofs.YtogfddilolannaaDoorW.XBld.bldC_wstr rfl rfl
    · injection h with h; subst h; exact Go.Proofs.YtogfddilolannaaDoorW.XBld.bldC_str rfl rfl
    · cases h
end Go.I
