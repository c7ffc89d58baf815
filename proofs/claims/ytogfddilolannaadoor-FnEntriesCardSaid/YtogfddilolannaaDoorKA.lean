/- An interpreter of the program's own code over lists in place of memory, and what its state tells of memory. No condition. -/
import GoSem.Core.Code
import GoSem.Step
import Derived.Test.YtogfddilolannaaDoorWWords
import Derived.Lib.FrozenHead
import Derived.Laws.StructEq
import Derived.Laws.Tables
import Derived.Great.BuildSlice
import Derived.ChangeKeysEq
import Derived.Laws.Slices
import Derived.Laws.Cover3
/-! ICore -/
set_option linter.unusedVariables false
namespace Go.I
/-- A place: root r (0: the hand; 2t+2: what tmp t holds; 2t+3: the memory that the operation writing tmp t has made, or that parameter t points to), its leaf k, then element and leaf, again and again. -/
structure Place where
  r : Nat
  k : Nat
  st : List (Int × Nat)
inductive V (T : TypeId → Type) where
  | lit (v : Value)
  | imm (e : TypeId) (l : List (T e))
  | own (e : TypeId) (l : List (T e))
  | at (p : Place)
  | ptr (p : Place)
  | iptr (e : TypeId) (x : T e) (off : Nat)
  | bld (s : ByteArray)
  | pb (i : Bool) (e : TypeId) (x : T e)
  | dead
inductive W (T : TypeId → Type) where
  | one (v : V T)
  | agg (cs : List (V T))
  | tup (vs : List (Bool × List (V T)))
/-- What is done with a strings.Builder. -/
inductive BK where
  | wbyte | wstr | str | len
/-- What is told of the types: elements as Lean data, a variable's layout. -/
structure Tab where
  T : TypeId → Type
  dflt : (e : TypeId) → T e
  enc : (e : TypeId) → T e → List (V T)
  dec : (e : TypeId) → List (V T) → Option (T e)
  size : TypeId → Nat
  bytes : TypeId → Nat
  elem : TypeId → Option TypeId
  lay : TypeId → Option (Bool × Nat)
  zero : TypeId → Option (List (V T))
  flds : TypeId → List (Nat × Nat)
  ikind : TypeId → Option IntKind
  isBool : TypeId → Bool
  isStr : TypeId → Bool
  plain : TypeId → Bool
  toBytes : TypeId → TypeId → V T → Option (List Int)
  ofBytes : (e : TypeId) → List Int → Option (List (T e))
  bldT : TypeId := 0
  byteT : TypeId := 0
  bldOp : FuncId → Option BK := fun _ => none
  gives : FuncId → Bool := fun _ => false
  ptrE : TypeId → Option TypeId := fun _ => none
  updF : (e : TypeId) → Nat → V T → Option (T e → T e) := fun _ _ _ => none
  gb : Nat → Prop := fun _ => False
  glob : World → Prop := fun _ => True
  sq : TypeId → Option (List (Option IntKind)) := fun _ => none
inductive Md where
  | val | own | ptr (n : Nat)
inductive Ex where
  | normal | exit (id : Nat) | ret
/-- What is told of numbers, strings and lists: a letter while a body is walked through. -/
structure Prim where
  wrap : IntKind → Int → Int
  add : Int → Int → Int
  sub : Int → Int → Int
  mul : Int → Int → Int
  quo : Int → Int → Int
  rem : Int → Int → Int
  shl : IntKind → Int → Int → Int
  shr : IntKind → Int → Int → Int
  bits : BinOp → IntKind → Int → Int → Int
  lt : Int → Int → Bool
  le : Int → Int → Bool
  eq : Int → Int → Bool
  mn : Int → Int → Int
  not : Bool → Bool
  beq : Bool → Bool → Bool
  ssize : ByteArray → Int
  scat : ByteArray → ByteArray → ByteArray
  sext : ByteArray → Int → Int → ByteArray
  sget : ByteArray → Int → Int
  seq : ByteArray → ByteArray → Bool
  slt : ByteArray → ByteArray → Bool
  len : {α : Type} → List α → Int
  get : {α : Type} → α → List α → Int → α
  set : {α : Type} → List α → Int → α → List α
  app : {α : Type} → List α → List α → List α
  ext : {α : Type} → List α → Int → Int → List α
  rep : {α : Type} → α → Int → List α
  modf : {α : Type} → List α → Int → (α → α) → List α
  bytesOf : ByteArray → List Int
  strOf : List Int → ByteArray
def std : Prim where
  wrap := IntKind.wrap
  add := fun a b => a + b
  sub := fun a b => a - b
  mul := fun a b => a * b
  quo := Int.tdiv
  rem := Int.tmod
  shl := fun k a b => k.wrap (a * 2 ^ min b.toNat k.bits)
  shr := fun k a b => a.fdiv (2 ^ min b.toNat k.bits)
  bits := fun op k x y => match op with
    | .and => k.wrap (BitVec.ofInt k.bits x &&& BitVec.ofInt k.bits y).toNat
    | .or => k.wrap (BitVec.ofInt k.bits x ||| BitVec.ofInt k.bits y).toNat
    | .xor => k.wrap (BitVec.ofInt k.bits x ^^^ BitVec.ofInt k.bits y).toNat
    | _ => k.wrap (BitVec.ofInt k.bits x &&& ~~~ BitVec.ofInt k.bits y).toNat
  lt := fun a b => decide (a < b)
  le := fun a b => decide (a ≤ b)
  eq := fun a b => a == b
  mn := fun a b => if b < a then b else a
  not := Bool.not
  beq := fun a b => a == b
  ssize := fun s => s.size
  scat := fun s t => s ++ t
  sext := fun s l h => s.extract l.toNat h.toNat
  sget := fun s i => if h : i.toNat < s.size then ((s[i.toNat]'h).toNat : Int) else 0
  seq := fun a b => a.toList == b.toList
  slt := fun a b => Op.bytesLess a.toList b.toList
  len := fun l => l.length
  get := fun d l i => l.getD i.toNat d
  set := fun l i x => l.set i.toNat x
  app := fun a b => a ++ b
  ext := fun l a b => (l.drop a.toNat).take (b.toNat - a.toNat)
  rep := fun x n => List.replicate n.toNat x
  modf := fun l i f => l.modify i.toNat f
  bytesOf := fun s => s.data.toList.map fun b => (b.toNat : Int)
  strOf := fun l => ⟨(l.map fun n => UInt8.ofNat n.toNat).toArray⟩
/-- In which orders a drawn region's first operations are walked: codes (2i + 1: it may come up at another time, too). -/
inductive PT where
  | nil | no
  | op (c : Nat) (t : PT)
  | alt (a b : PT)
def PT.len : PT → Nat
  | .op _ t => t.len + 1
  | .alt a _ => a.len
  | _ => 0
/-- What is told of a body: what dies at loops (2i) and at marks (2i + 1), the orders of drawn regions, the boxes that these write. -/
structure KL where
  f : Nat → List Nat
  d : Nat → PT
  t : Nat → List Nat
  z : Bool
  q : Nat → List Nat
inductive Tree (A R : Type) (St : Type) where
  | ret (r : R)
  | no
  | cond (b : Bool) (x y : Unit → Tree A R St)
  | call (f : FuncId) (args : List A) (k : R → Tree A R St)
  | loop (c : Code) (i : Nat) (s : St) (k : Ex → St → Tree A R St)
  | mark (i : Nat) (s : St) (f : St → Tree A R St)
  | both (x y : Tree A R St)
section
variable {B : Tab}
abbrev VT (B : Tab) := V B.T
abbrev WT (B : Tab) := W B.T
structure S (B : Tab) where
  hd : List (VT B)
  tm : List (WT B)
  bx : List (List (VT B))
  gh : List (VT B)
/-- A call's outcome: what a parameter that is written through holds now, what the boxes hold, the result. -/
abbrev Res (B : Tab) := (List (VT B) × List (List (VT B))) × WT B
abbrev Tr (B : Tab) := Tree (WT B) (Res B) (S B)
def setAt {α : Type} : List α → Nat → α → List α
  | [], _, _ => []
  | _ :: l, 0, x => x :: l
  | y :: l, n + 1, x => y :: setAt l n x
def W.leaves {T} : W T → List (V T)
  | .one v => [v]
  | .agg cs => cs
  | .tup vs => (vs.map (·.2)).flatten
def W.remake {T} : W T → List (V T) → W T
  | .one _, l => .one (l.headD .dead)
  | .agg _, l => .agg l
  | .tup vs, l => .tup (go vs l)
where go : List (Bool × List (V T)) → List (V T) → List (Bool × List (V T))
  | [], _ => []
  | (b, cs) :: vs, l => (b, l.take cs.length) :: go vs (l.drop cs.length)
def S.root (s : S B) : Nat → List (VT B)
  | 0 => s.hd
  | 1 => s.gh
  | r + 2 => if r % 2 = 0 then (s.tm.getD (r / 2) (.agg [])).leaves else s.bx.getD (r / 2) []
def S.setRoot (s : S B) (r : Nat) (l : List (VT B)) : S B :=
  match r with
  | 0 => { s with hd := l }
  | 1 => { s with gh := l }
  | r + 2 => if r % 2 = 0 then { s with tm := setAt s.tm (r / 2) ((s.tm.getD (r / 2) (.agg [])).remake l) } else { s with bx := setAt s.bx (r / 2) l }
variable (O : Prim)
def V.step (v : VT B) (i : Int) (off : Nat) : VT B :=
  match v with
  | .own e l => (B.enc e (O.get (B.dflt e) l i)).getD off .dead
  | _ => .dead
def V.walk (v : VT B) : List (Int × Nat) → VT B
  | [] => v
  | (i, off) :: st => V.walk (V.step O v i off) st
/-- An element's leaf, as deep as told, becomes x. -/
def V.upd (v : VT B) : List (Int × Nat) → VT B → Option (VT B)
  | [], x => some x
  | (i, off) :: st, x =>
    match v with
    | .own e l => (V.upd ((B.enc e (O.get (B.dflt e) l i)).getD off .dead) st x).bind fun y =>
      (B.dec e (setAt (B.enc e (O.get (B.dflt e) l i)) off y)).map fun z => .own e (O.set l i z)
    | _ => none
/-- The same; a part of a row's element by a function of the element. -/
def V.updW (v : VT B) (st : List (Int × Nat)) (x : VT B) : Option (VT B) :=
  match v with
  | .own e l => match st with
    | [(i, off)] => match B.updF e off x with
      | some f => some (.own e (O.modf l i f))
      | none => V.upd O (.own e l) [(i, off)] x
    | st => V.upd O (.own e l) st x
  | v => V.upd O v st x
def S.leaf (s : S B) (r k : Nat) : VT B := (s.root r).getD k .dead
def S.setLeaf (s : S B) (r k : Nat) (v : VT B) : S B := s.setRoot r (setAt (s.root r) k v)
def S.get (s : S B) (p : Place) : VT B := V.walk O (s.leaf p.r p.k) p.st
/-- What is read at a place: a row of one's own is told by its place. -/
def V.alias (v : VT B) (p : Place) : VT B :=
  match v with
  | .own _ _ => .at p
  | .bld _ => .dead
  | .pb _ _ _ => .at p
  | v => v
def V.kill (r k : Nat) (v : VT B) : VT B :=
  match v with
  | .at p => if p.r = r ∧ p.k = k then .dead else v
  | .ptr p => if p.r = r ∧ p.k = k ∧ p.st ≠ [] then .dead else v
  | v => v
/-- Who tells of the elements of the row at leaf k of root r tells of nothing more. -/
def V.killE (r k : Nat) (v : VT B) : VT B :=
  match v with
  | .at p => if p.r = r ∧ p.k = k ∧ p.st ≠ [] then .dead else v
  | .ptr p => if p.r = r ∧ p.k = k ∧ p.st ≠ [] then .dead else v
  | v => v
def V.killP (p : Place) (v : VT B) : VT B :=
  match p.st with
  | [] => V.kill p.r p.k v
  | _ => V.killE p.r p.k v
def W.map {T} (f : V T → V T) : W T → W T
  | .one v => .one (f v)
  | .agg cs => .agg (cs.map f)
  | .tup vs => .tup (vs.map fun x => (x.1, x.2.map f))
def S.map (s : S B) (f : VT B → VT B) : S B := ⟨s.hd.map f, s.tm.map (W.map f), s.bx.map (List.map f), s.gh.map f⟩
/-- Who tells of what lies at leaf k of root r tells of nothing more. -/
def S.kill (s : S B) (r k : Nat) : S B := s.map (V.kill r k)
def V.killR (r : Nat) (v : VT B) : VT B :=
  match v with
  | .at p => if p.r = r then .dead else v
  | .ptr p => if p.r = r then .dead else v
  | v => v
def S.killR (s : S B) (r : Nat) : S B := s.map (V.killR r)
def V.toImm (v : VT B) : VT B :=
  match v with
  | .own e l => .imm e l
  | v => v
def V.isDead (v : VT B) : Bool :=
  match v with
  | .dead => true
  | _ => false
/-- A leaf that is data: what is told of it needs no place. -/
def V.data (v : VT B) : Bool :=
  match v with
  | .lit _ => true
  | .own _ _ => true
  | _ => false
def W.isTup {T} (x : W T) : Bool :=
  match x with
  | .tup _ => true
  | _ => false
def W.isOne {T} (x : W T) : Bool :=
  match x with
  | .one _ => true
  | _ => false
def W.isAgg {T} (x : W T) : Bool :=
  match x with
  | .agg _ => true
  | _ => false
def V.isOwn (v : VT B) : Bool :=
  match v with
  | .own _ _ => true
  | .bld _ => true
  | .pb _ _ _ => true
  | _ => false
/-- Into the hand: what is one's own is moved (from a leaf of a root alone), all else is told once more. -/
def S.grab1 (s : S B) (v : VT B) (m : Bool := false) : Option (S B) :=
  match v with
  | .at ⟨r, k, []⟩ =>
    if r = 0 then none else
    if r = 1 ∧ m = false then some { s with hd := s.hd ++ [v] } else
    match s.leaf r k with
    | .own e l => let s' := (s.kill r k).setLeaf r k .dead; some { s' with hd := s'.hd ++ [.own e l] }
    | .pb i e x => let s' := (s.kill r k).setLeaf r k .dead; some { s' with hd := s'.hd ++ [.pb i e x] }
    | _ => none
  | .at _ => none
  | .dead => none
  | .own _ _ => none
  | .bld _ => none
  | .pb _ _ _ => none
  | v => some { s with hd := s.hd ++ [v] }
def killBy (v u : VT B) : VT B :=
  match v with
  | .at p => V.kill p.r p.k u
  | _ => u
def S.grabF (s : S B) (m : Bool) (f : VT B → VT B) : List (VT B) → Option (S B)
  | [] => some s
  | v :: vs => (s.grab1 (f v) m).bind fun s' => S.grabF s' m (fun u => killBy (f v) (f u)) vs
def S.grab (s : S B) (vs : List (VT B)) (m : Bool := false) : Option (S B) := s.grabF m (fun v => v) vs
def aliasL (r : Nat) : Nat → List (VT B) → List (VT B)
  | _, [] => []
  | k, v :: vs => v.alias ⟨r, k, []⟩ :: aliasL r (k + 1) vs
def constV (B : Tab) (ty : TypeId) (v : Value) : VT B :=
  match v with
  | .slice none 0 0 => match B.elem ty with
    | some e => .own e []
    | none => .dead
  | .agg _ => .dead
  | .tuple _ => .dead
  | v => .lit v
/-- An operand as it is read: rows of one's own by their places. -/
def S.peek (s : S B) (ty : TypeId) (x : Operand) : WT B :=
  match x with
  | .tmp t => (s.tm.getD t (.one .dead)).remake (aliasL (2 * t + 2) 0 (s.tm.getD t (.one .dead)).leaves)
  | .const v => .one (constV B ty v)
  | .global g => .one (.lit (.pointer (some ⟨g, 0, none⟩)))
  | .func f => .one (.lit (.func (.func f) #[] #[]))
/-- An operand into the hand. -/
def S.take (s : S B) (ty : TypeId) (x : Operand) (m : Bool := false) : Option (S B) :=
  match x with
  | .const v => if (constV B ty v).isDead then none else some { s with hd := s.hd ++ [constV B ty v] }
  | x => s.grab (s.peek ty x).leaves m
/-- tmp d becomes w, where nothing of one's own is told of it. -/
def S.def_ (s : S B) (d : Option Nat) (w : WT B) : S B :=
  match d with
  | some d => if (s.tm.getD d (.one .dead)).leaves.any V.isOwn then { s.killR (2 * d + 2) with tm := setAt (s.killR (2 * d + 2)).tm d (w.map (V.killR (2 * d + 2))) } else { s with tm := setAt s.tm d w }
  | none => s
/-- tmp d becomes what the hand holds, in the form of w. -/
def S.lay (s : S B) (d : Option Nat) (w : WT B) : S B :=
  match d with
  | some d => if (s.tm.getD d (.one .dead)).leaves.any V.isOwn
      then { s.killR (2 * d + 2) with tm := setAt (s.killR (2 * d + 2)).tm d (w.remake (s.killR (2 * d + 2)).hd), hd := [] }
      else { s with tm := setAt s.tm d (w.remake s.hd), hd := [] }
  | none => { s with hd := [] }
def S.look (s : S B) (v : VT B) : VT B :=
  match v with
  | .at p => S.get O s p
  | v => v
def V.borrow (s : S B) (v : VT B) : VT B :=
  match S.look O s v with
  | .own e l => .imm e l
  | .pb _ _ _ => .dead
  | v => v
def binB (op : BinOp) (x y : Value) : Option Value :=
  match x, y with
  | .int k a, .int k' b => if k = k' then
      match op with
      | .add => some (.int k (O.wrap k (O.add a b)))
      | .sub => some (.int k (O.wrap k (O.sub a b)))
      | .mul => some (.int k (O.wrap k (O.mul a b)))
      | .and => some (.int k (O.bits .and k a b))
      | .or => some (.int k (O.bits .or k a b))
      | .xor => some (.int k (O.bits .xor k a b))
      | .andNot => some (.int k (O.bits .andNot k a b))
      | .eql => some (.bool (O.eq a b))
      | .neq => some (.bool (O.not (O.eq a b)))
      | .lss => some (.bool (O.lt a b))
      | .leq => some (.bool (O.le a b))
      | .gtr => some (.bool (O.lt b a))
      | .geq => some (.bool (O.le b a))
      | _ => none
      else none
  | .string a, .string b =>
    match op with
    | .eql => some (.bool (O.seq a b))
    | .neq => some (.bool (O.not (O.seq a b)))
    | .lss => some (.bool (O.slt a b))
    | .geq => some (.bool (O.not (O.slt a b)))
    | _ => none
  | _, _ => none
def ofOpt {α : Type} (o : Option α) (k : α → Tr B) : Tr B :=
  match o with
  | some a => k a
  | none => .no
def guardT (b : Bool) (k : Unit → Tr B) : Tr B := .cond b k fun _ => .no
def lenV (t : TypeId) (s : S B) (v : VT B) : Option (VT B) :=
  match S.look O s v with
  | .own _ l => if (B.elem t).isSome then some (.lit (.int .i64 (O.len l))) else none
  | .imm _ l => if (B.elem t).isSome then some (.lit (.int .i64 (O.len l))) else none
  | .lit (.string x) => if B.isStr t then some (.lit (.int .i64 (O.ssize x))) else none
  | _ => none
def layAt {α : Type} : List α → Nat → List α → List α
  | cs, _, [] => cs
  | cs, o, v :: vs => layAt (setAt cs o v) (o + 1) vs
/-- The parts of a composite value (how many leaves each has, where it begins), out of the hand, over what is laid. -/
def fillV {α : Type} : List (Nat × Nat) → List α → List α → List α
  | [], _, cs => cs
  | (n, o) :: ps, h, cs => fillV ps (h.drop n) (layAt cs o (h.take n))
/-- The parts into the hand, each of as many leaves as told. -/
def S.takeP (s : S B) : List (TypeId × Operand × Nat) → Option (S B)
  | [] => some s
  | (t, x, n) :: ps => if (s.peek t x).isTup then none else if (s.peek t x).leaves.length = n then (s.take t x).bind fun s' => S.takeP s' ps else none
def mkRows (B : Tab) (e : TypeId) : Nat → List (VT B) → Option (List (B.T e))
  | 0, _ => some []
  | n + 1, cs => (B.dec e (cs.take (B.size e))).bind fun x => (mkRows B e n (cs.drop (B.size e))).map fun l => x :: l
def zeros {α : Type} (z : List α) : Nat → List α
  | 0 => []
  | n + 1 => z ++ zeros z n
def farL (j : Nat) : List (Int × Nat) → List (Int × Nat)
  | [] => []
  | (i, o) :: st => match st with
    | [] => [(i, o + j)]
    | _ => (i, o) :: farL j st
/-- The place behind p by j leaves. -/
def Place.far (p : Place) (j : Nat) : Place :=
  match p.st with
  | [] => ⟨p.r, p.k + j, []⟩
  | st => ⟨p.r, p.k, farL j st⟩
def loadN (s : S B) (p : Place) : Nat → Nat → List (VT B)
  | _, 0 => []
  | j, n + 1 => (S.get O s (p.far j)).alias (p.far j) :: loadN s p (j + 1) n
/-- A leaf becomes what the hand holds first. -/
def S.put1 (s : S B) (p : Place) : Option (S B) :=
  match s.hd with
  | [] => none
  | v :: h => if p.r = 0 ∨ ¬ p.k < (s.root p.r).length ∨ (p.st ≠ [] ∧ (S.get O s p).isDead = true) ∨ (p.st ≠ [] ∧ v.data = false) then none else
    (V.updW O (s.leaf p.r p.k) p.st (V.killP p v)).map fun y => (({ s with hd := h } : S B).map (V.killP p)).setLeaf p.r p.k y
def S.putN (s : S B) (p : Place) : Nat → Nat → Option (S B)
  | _, 0 => some s
  | j, n + 1 => (S.put1 O s (p.far j)).bind fun s' => S.putN s' p (j + 1) n
def boundOf (s : S B) : Option Operand → Option (Option Int)
  | none => some none
  | some x => match s.peek 0 x with
    | .one (.lit (.int _ n)) => some (some n)
    | _ => none
/-- A leaf that tells of nothing but itself. -/
def V.final (v : VT B) : Bool :=
  match v with
  | .lit _ => true
  | .own _ _ => true
  | .imm _ _ => true
  | .pb _ _ _ => true
  | _ => false
def V.isImm (v : VT B) : Bool :=
  match v with
  | .imm _ _ => true
  | .pb i _ _ => i
  | _ => false
/-- Who points into a box points at the variable alone from now on. -/
def V.killB (r : Nat) (v : VT B) : VT B :=
  match v with
  | .at p => if p.r = r then .dead else v
  | .ptr p => if p.r = r ∧ p.st ≠ [] then .dead else v
  | v => v
/-- What is handed over goes into the hand; its forms. -/
def S.takeA (s : S B) : List Md → List (TypeId × Operand) → Option (S B × List (WT B))
  | _, [] => some (s, [])
  | ms, (t, x) :: ps => match ms.headD .val with
    | .own => if (s.peek t x).isTup then none else (s.take t x true).bind fun s' => (S.takeA s' (ms.drop 1) ps).map fun z => (z.1, s.peek t x :: z.2)
    | _ => (S.takeA s (ms.drop 1) ps).map fun z => (z.1, .tup [] :: z.2)
/-- The arguments as the callee holds them; h: what is left of the hand. -/
def argsOf (s : S B) : List Md → List (WT B) → List (WT B) → List (VT B) → Option (List (WT B))
  | _, [], _, _ => some []
  | ms, w :: ws, fs, h => match ms.headD .val with
    | .own => let f := fs.headD (.tup [])
      if (h.take f.leaves.length).all V.final then (argsOf s (ms.drop 1) ws (fs.drop 1) (h.drop f.leaves.length)).map fun as => f.remake (h.take f.leaves.length) :: as else none
    | .val => if (w.leaves.map (V.borrow O s)).all V.final then (argsOf s (ms.drop 1) ws (fs.drop 1) h).map fun as => w.map (V.borrow O s) :: as else none
    | .ptr n => match w with
      | .one (.ptr ⟨r, 0, []⟩) => if (s.root r).length = n ∧ r % 2 = 1 ∧ (s.root r).all V.final ∧ n ≠ 0 then (argsOf s (ms.drop 1) ws (fs.drop 1) h).map fun as => .agg (s.root r) :: as else none
      | _ => none
/-- The boxes that are handed on for writing. -/
def boxesOf : List Md → List (WT B) → List Nat
  | _, [] => []
  | ms, w :: ws => match ms.headD .val with
    | .ptr _ => match w with
      | .one (.ptr ⟨r, _, _⟩) => r :: boxesOf (ms.drop 1) ws
      | _ => boxesOf (ms.drop 1) ws
    | _ => boxesOf (ms.drop 1) ws
/-- The places of what is lent. -/
def lent : List Md → List (WT B) → List (VT B)
  | _, [] => []
  | ms, w :: ws => match ms.headD .val with
    | .val => w.leaves ++ lent (ms.drop 1) ws
    | _ => lent (ms.drop 1) ws
/-- What is lent lies in no box that is handed on. -/
def apart (rs : List Nat) (v : VT B) : Bool :=
  match v with
  | .at p => !rs.contains p.r && p.r != 0
  | _ => true
def nodup : List Nat → Bool
  | [] => true
  | r :: rs => !rs.contains r && nodup rs
/-- What was lent and may lie in what came back is only read from now on. -/
def S.freeze1 (s : S B) (v : VT B) : Option (S B) :=
  match v with
  | .at ⟨r, k, []⟩ =>
    if r = 0 then none else
    match s.leaf r k with
    | .own e l => some ((s.kill r k).setLeaf r k (.imm e l))
    | .imm e l => some ((s.kill r k).setLeaf r k (.imm e l))
    | _ => none
  | .at _ => none
  | _ => some s
def S.freeze (s : S B) : List (VT B) → Option (S B)
  | [] => some s
  | v :: vs => (s.freeze1 v).bind fun s' => S.freeze s' vs
def V.still (v : VT B) : Bool :=
  match v with
  | .lit _ => true
  | .imm _ _ => true
  | _ => false
def V.toOwn (v : VT B) : VT B :=
  match v with
  | .imm e l => .own e l
  | v => v
/-- The leaves of what a pointer of one's own points to. -/
def unl (i : Bool) (e : TypeId) (x : B.T e) : List (VT B) := match i with
  | true => (B.enc e x).map V.toImm
  | false => B.enc e x
/-- A variable of one's own, pointed to by tmp t alone, becomes a pointer of one's own. -/
def S.pack1 (s : S B) (rv : ResultVar) (ty : TypeId) : S B :=
  match rv with
  | .tmp t => match B.ptrE ty, s.tm.getD t (.one .dead) with
    | some e, .one (.ptr ⟨r, 0, []⟩) => if 3 ≤ r ∧ r % 2 = 1 ∧ (r - 3) / 2 < s.tm.length ∧ t < s.tm.length ∧ (if (s.root r).any V.isImm then (s.root r).all V.still else (s.root r).all V.data) = true then
        (match B.dec e ((s.root r).map V.toOwn) with
        | some x => { s.killR r with tm := setAt (s.killR r).tm t (.one (.pb ((s.root r).any V.isImm) e x)), bx := setAt (s.killR r).bx ((r - 3) / 2) [] }
        | none => s) else s
    | _, _ => s
  | _ => s
def S.packs (s : S B) : List ResultVar → List TypeId → S B
  | rv :: rs, ty :: ts => S.packs (s.pack1 rv ty) rs ts
  | _, _ => s
/-- A pointer of one's own in tmp d becomes a variable, box d, and a pointer to it. -/
def S.unpack (s : S B) (d : Option Nat) : S B :=
  match d with
  | some d => match s.tm.getD d (.one .dead) with
    | .one (.pb i e x) => { (s.killR (2 * d + 3)).killR (2 * d + 2) with tm := setAt ((s.killR (2 * d + 3)).killR (2 * d + 2)).tm d (.one (.ptr ⟨2 * d + 3, 0, []⟩)), bx := setAt ((s.killR (2 * d + 3)).killR (2 * d + 2)).bx d (unl i e x) }
    | _ => s
  | none => s
/-- Behind a call: the boxes hold what has become of them. -/
def S.killBs (s : S B) : List Nat → S B
  | [] => s
  | r :: rs => S.killBs (s.map (V.killB r)) rs
def S.setRoots (s : S B) : List Nat → List (List (VT B)) → S B
  | r :: rs, l :: ls => S.setRoots (s.setRoot r l) rs ls
  | _, _ => s
def ownFirst (modes : List Md) : Bool := match modes with
  | .own :: _ => true
  | _ => false
def W.same {T} (x y : W T) : Bool := (x.isOne && y.isOne) || (x.isAgg && y.isAgg)
/-- The first argument. -/
def firstW (s : S B) : List (TypeId × Operand) → WT B
  | [] => .tup []
  | (t, x) :: _ => s.peek t x
/-- A leaf that was handed over, and written through, comes back to its place (s0: the state ahead of the call). -/
def S.back1 (s0 s : S B) (v : VT B) : Option (S B) :=
  match s.hd with
  | [] => none
  | x :: h => match v with
    | .at ⟨r, k, []⟩ =>
      if (r = 1 ∨ (r ≠ 0 ∧ r % 2 = 0 ∧ (s0.tm.getD ((r - 2) / 2) (.tup [])).same (s.tm.getD ((r - 2) / 2) (.tup [])) = true) ∨ (3 ≤ r ∧ r % 2 = 1)) ∧ k < (s.root r).length then
        some ((({ s with hd := h } : S B).kill r k).setLeaf r k x) else none
    | .at _ => none
    | _ => some { s with hd := h }
def S.backs (s0 : S B) : List (VT B) → S B → Option (S B)
  | [], s => some s
  | v :: vs, s => (S.back1 s0 s v).bind fun s' => S.backs s0 vs s'
/-- Is a row nil? One that has no elements may be, or not. -/
def nilT (s : S B) (v : VT B) (k : Bool → Tr B) : Tr B :=
  match S.look O s v with
  | .own _ l => .cond (O.lt 0 (O.len l)) (fun _ => k false) fun _ => .both (k true) (k false)
  | .imm _ l => .cond (O.lt 0 (O.len l)) (fun _ => k false) fun _ => .both (k true) (k false)
  | _ => .no
/-- Are two leaves of a kind (some k: a number, none: a text) equal? -/
def cmp1 (c : Option IntKind) (x y : VT B) : Option Bool :=
  match c, x, y with
  | some i, .lit (.int i1 a), .lit (.int i2 b) => if i1 = i ∧ i2 = i then some (O.eq a b) else none
  | none, .lit (.string a), .lit (.string b) => some (O.seq a b)
  | _, _, _ => none
/-- Are two structs equal? -/
def cmpT : List (Option IntKind) → List (VT B) → List (VT B) → (Bool → Tr B) → Tr B
  | [], [], [], k => k true
  | c :: ks, x :: xs, y :: ys, k => ofOpt (cmp1 O c x y) fun b => .cond b (fun _ => cmpT ks xs ys k) fun _ => k false
  | _, _, _, _ => .no
/-- The builder that tmp t points to holds x from now on. -/
def S.bldPut (s : S B) (t : Nat) (x : ByteArray) : S B := (s.kill (2 * t + 2) 0).setLeaf (2 * t + 2) 0 (.bld x)
def bldRes (kd : BK) (x : ByteArray) (ys : List (WT B)) : Option (ByteArray × List Bool × WT B × List Value) :=
  match kd, ys with
  | .wbyte, [.one (.lit (.int .u8 n))] => some (O.scat x (O.strOf [n]), [O.le 0 n, O.le n 255, O.lt (O.ssize x) 140737488355328], .one (.lit .nilIface), [.int .u8 n])
  | .wstr, [.one (.lit (.string y))] => some (O.scat x y, [O.le (O.add (O.ssize x) (O.ssize y)) 140737488355328], .tup [(false, [.lit (.int .i64 (O.ssize y))]), (false, [.lit .nilIface])], [.string y])
  | .str, [] => some (x, [], .one (.lit (.string x)), [])
  | .len, [] => some (x, [], .one (.lit (.int .i64 (O.ssize x))), [])
  | _, _ => none
def guardsT : List Bool → Tr B → Tr B
  | [], k => k
  | b :: bs, k => guardT b fun _ => guardsT bs k
def bldStep (kd : BK) (o : Oper) (s : S B) (args : List Operand) (k : S B → Tr B) : Tr B :=
  match args with
  | .tmp t :: ys => match s.tm.getD t (.one .dead) with
    | .one (.bld x) => ofOpt (bldRes O kd x (ys.map (s.peek 0))) fun z => guardsT z.2.1 (k ((s.bldPut t z.1).def_ o.dst z.2.2.1))
    | _ => .no
  | _ => .no
variable (M : FuncId → List Md)
/-- One operation; k goes on. -/
def stepOp (o : Oper) (s : S B) (k : S B → Tr B) : Tr B :=
  match o.op with
  | .move x => k (s.def_ o.dst (s.peek o.type x))
  | .assign x => ofOpt (s.take o.type x) fun s' => k (s'.lay o.dst (s.peek o.type x))
  | .pick c a b =>
    match s.peek 0 c with
    | .one (.lit (.bool t)) => .cond t (fun _ => k (s.def_ o.dst (s.peek o.type a))) fun _ => k (s.def_ o.dst (s.peek o.type b))
    | _ => .no
  | .alloc e => if e = B.bldT ∧ e ≠ 0 then k (({ s with hd := [.bld ⟨#[]⟩] } : S B).lay o.dst (.one .dead)) else match o.dst, B.zero e with
    | some d, some z => let s' := (s.killR (2 * d + 3)).killR (2 * d + 2)
      if z.isEmpty ∨ s.tm.length ≤ d then .no else k ⟨[], setAt s'.tm d (.one (.ptr ⟨2 * d + 3, 0, []⟩)), setAt s'.bx d z, s'.gh⟩
    | _, _ => .no
  | .box e x => match o.dst with
    | some d => if (s.peek e x).isTup then .no else ofOpt (s.take e x) fun s0 => let s' := (s0.killR (2 * d + 3)).killR (2 * d + 2)
      if s'.hd.isEmpty ∨ s'.tm.length ≤ d then .no else k ⟨[], setAt s'.tm d (.one (.ptr ⟨2 * d + 3, 0, []⟩)), setAt s'.bx d s'.hd, s'.gh⟩
    | _ => .no
  | .build t ps => match B.zero t with
    | some z => if (B.flds t).isEmpty then .no else if ps.toList.any fun p => (B.flds t).length ≤ p.1 then .no else
      ofOpt (s.takeP (ps.toList.map fun p => (t, p.2, ((B.flds t).getD p.1 (0, 0)).2))) fun s' =>
      k (({ s' with hd := fillV (ps.toList.map fun p => (((B.flds t).getD p.1 (0, 0)).2, ((B.flds t).getD p.1 (0, 0)).1)) s'.hd z } : S B).lay o.dst (.agg z))
    | none => .no
  | .buildSlice t n ps =>
    match B.elem t with
    | some e => match B.zero e with
      | some z => if n * B.size e > 2 ^ 24 then .no else if ps.toList.any fun p => n ≤ p.1 then .no else
        ofOpt (s.takeP (ps.toList.map fun p => (e, p.2, B.size e))) fun s' =>
        if (fillV (ps.toList.map fun p => (B.size e, p.1 * B.size e)) s'.hd (zeros z n)).any fun v => !v.data then .no else
        ofOpt (mkRows B e n (fillV (ps.toList.map fun p => (B.size e, p.1 * B.size e)) s'.hd (zeros z n))) fun l =>
          k (({ s' with hd := [.own e l] } : S B).lay o.dst (.one .dead))
      | none => .no
    | none => .no
  | .load t x =>
    match B.lay t, s.peek 0 x with
    | some (g, n), .one (.ptr p) => if (loadN O s p 0 n).any V.isDead then .no else k (s.def_ o.dst (if g then .agg (loadN O s p 0 n) else .one ((S.get O s p).alias p)))
    | some (g, n), .one (.iptr e y off) => if off + n ≤ B.size e then k (s.def_ o.dst (if g then .agg ((((B.enc e y).drop off).take n).map V.toImm) else .one ((B.enc e y).getD off .dead).toImm)) else .no
    | _, _ => .no
  | .store t a x =>
    match B.lay t with
    | some (g, n) => if (s.peek t x).isTup then .no else ofOpt (s.take t x) fun s' => match s'.peek 0 a with
      | .one (.ptr p) => if s'.hd.length = n then ofOpt (S.putN O s' p 0 n) fun s'' => k (s''.def_ o.dst (.one .dead)) else .no
      | _ => .no
    | none => .no
  | .nilCheck x => match s.peek 0 x with
    | .one (.ptr p) => k (s.def_ o.dst (.one (.ptr p)))
    | _ => .no
  | .binOp op t x y _ =>
    match s.peek 0 x, s.peek 0 y with
    | .one (.lit a), .one (.lit b) => match op, a, b with
      | .add, .string a, .string b => guardT (O.le (O.add (O.ssize a) (O.ssize b)) 140737488351232) fun _ => k (s.def_ o.dst (.one (.lit (.string (O.scat a b)))))
      | .quo, .int i a, .int j b => if i = j then .cond (O.eq b 0) (fun _ => .no) fun _ => k (s.def_ o.dst (.one (.lit (.int i (O.wrap i (O.quo a b)))))) else .no
      | .rem, .int i a, .int j b => if i = j then .cond (O.eq b 0) (fun _ => .no) fun _ => k (s.def_ o.dst (.one (.lit (.int i (O.rem a b))))) else .no
      | .shl, .int i a, .int _ b => guardT (O.le 0 b) fun _ => k (s.def_ o.dst (.one (.lit (.int i (O.shl i a b)))))
      | .shr, .int i a, .int _ b => guardT (O.le 0 b) fun _ => k (s.def_ o.dst (.one (.lit (.int i (O.shr i a b)))))
      | .eql, .bool a, .bool b => if B.isBool t then k (s.def_ o.dst (.one (.lit (.bool (O.beq a b))))) else .no
      | .neq, .bool a, .bool b => if B.isBool t then k (s.def_ o.dst (.one (.lit (.bool (O.not (O.beq a b)))))) else .no
      | op, a, b => ofOpt (binB O op a b) fun v => k (s.def_ o.dst (.one (.lit v)))
    | .one v, _ => match op, y, B.elem t with
      | .eql, .const (.slice none 0 0), some _ => nilT O s v fun b => k (s.def_ o.dst (.one (.lit (.bool b))))
      | .neq, .const (.slice none 0 0), some _ => nilT O s v fun b => k (s.def_ o.dst (.one (.lit (.bool (!b)))))
      | _, _, _ => .no
    | .agg xs, .agg ys => match B.sq t, op with
      | some ks, .eql => cmpT O ks xs ys fun b => k (s.def_ o.dst (.one (.lit (.bool b))))
      | some ks, .neq => cmpT O ks xs ys fun b => k (s.def_ o.dst (.one (.lit (.bool (!b)))))
      | _, _ => .no
    | _, _ => .no
  | .unOp op _ x =>
    match op, s.peek 0 x with
    | .not, .one (.lit (.bool b)) => k (s.def_ o.dst (.one (.lit (.bool (O.not b)))))
    | .neg, .one (.lit (.int i n)) => k (s.def_ o.dst (.one (.lit (.int i (O.wrap i (O.sub 0 n))))))
    | _, _ => .no
  | .convert src dst x =>
    match s.peek 0 x with
    | .one (.lit (.int _ n)) => match B.ikind src, B.ikind dst with
      | some _, some i => k (s.def_ o.dst (.one (.lit (.int i (O.wrap i n)))))
      | _, _ => .no
    | .one (.lit (.string x)) => if B.isStr src then match B.elem dst with
      | some e => match B.ofBytes e (O.bytesOf x) with
        | some l => guardT (O.le (O.ssize x) 140737488351232) fun _ => k (s.def_ o.dst (.one (.imm e l)))
        | none => .no
      | none => .no else .no
    | .one v => match B.toBytes src dst (S.look O s v) with
      | some l => k (s.def_ o.dst (.one (.lit (.string (O.strOf l)))))
      | none => .no
    | _ => .no
  | .slice t x lo hi none =>
    match s.peek 0 x, boundOf s lo, boundOf s hi with
    | .one (.lit (.string x)), some a, some b => if B.isStr t then
      guardT (O.le 0 (a.getD 0)) fun _ => guardT (O.le (a.getD 0) (b.getD (O.ssize x))) fun _ => guardT (O.le (b.getD (O.ssize x)) (O.ssize x)) fun _ =>
        k (s.def_ o.dst (.one (.lit (.string (O.sext x (a.getD 0) (b.getD (O.ssize x))))))) else .no
    | .one (.imm e l), some a, some b => if B.elem t = some e then
      guardT (O.le 0 (a.getD 0)) fun _ => guardT (O.le (a.getD 0) (b.getD (O.len l))) fun _ => guardT (O.le (b.getD (O.len l)) (O.len l)) fun _ =>
        k (s.def_ o.dst (.one (.imm e (O.ext l (a.getD 0) (b.getD (O.len l)))))) else .no
    | .one (.at q), some a, some b => match q with
      | ⟨r, k0, []⟩ => match s.leaf r k0 with
        | .own e l => if B.elem t = some e then ofOpt (s.freeze1 (.at ⟨r, k0, []⟩)) fun s1 =>
          guardT (O.le 0 (a.getD 0)) fun _ => guardT (O.le (a.getD 0) (b.getD (O.len l))) fun _ => guardT (O.le (b.getD (O.len l)) (O.len l)) fun _ =>
            k (s1.def_ o.dst (.one (.imm e (O.ext l (a.getD 0) (b.getD (O.len l)))))) else .no
        | _ => .no
      | _ => .no
    | _, _, _ => .no
  | .indexAddr t x i =>
    match s.peek 0 x, s.peek 0 i with
    | .one (.at p), .one (.lit (.int _ n)) => match S.get O s p with
      | .own e l => if B.elem t = some e then guardT (O.le 0 n) fun _ => guardT (O.lt n (O.len l)) fun _ => k (s.def_ o.dst (.one (.ptr ⟨p.r, p.k, p.st ++ [(n, 0)]⟩))) else .no
      | _ => .no
    | .one (.imm e l), .one (.lit (.int _ n)) => if B.elem t = some e then guardT (O.le 0 n) fun _ => guardT (O.lt n (O.len l)) fun _ => k (s.def_ o.dst (.one (.iptr e (O.get (B.dflt e) l n) 0))) else .no
    | _, _ => .no
  | .fieldAddr t x f =>
    match s.peek 0 x, (B.flds t)[f]? with
    | .one (.ptr p), some (o', _) => if !p.st.isEmpty && (S.get O s (p.far o')).isDead then .no else k (s.def_ o.dst (.one (.ptr (p.far o'))))
    | .one (.iptr e y off), some (o', _) => k (s.def_ o.dst (.one (.iptr e y (off + o'))))
    | _, _ => .no
  | .makeSlice t x y =>
    match s.peek 0 x, s.peek 0 y with
    | .one (.lit (.int _ l)), .one (.lit (.int _ c)) => match B.elem t with
      | some e => match B.zero e with
        | some z => if z.any fun v => !v.data then .no else ofOpt (B.dec e z) fun x =>
          guardT (O.le 0 l) fun _ => guardT (O.le l c) fun _ => guardT (O.le (O.mul c (B.bytes e)) 281474976710656) fun _ => k (({ s with hd := [.own e (O.rep x l)] } : S B).lay o.dst (.one .dead))
        | none => .no
      | none => .no
    | _, _ => .no
  | .extract x i =>
    match s.peek 0 x with
    | .tup vs => match vs[i]? with
      | some (b, cs) => if b || cs.length == 1 then ofOpt (s.grab cs) fun s' => k (s'.lay o.dst (if b then .agg cs else .one .dead)) else .no
      | none => .no
    | _ => .no
  | .index t x i =>
    match s.peek 0 x, s.peek 0 i with
    | .one (.lit (.string x)), .one (.lit (.int _ n)) => if B.isStr t then guardT (O.le 0 n) fun _ => guardT (O.lt n (O.ssize x)) fun _ => k (s.def_ o.dst (.one (.lit (.int .u8 (O.sget x n))))) else .no
    | _, _ => .no
  | .call { callee := .builtin .len, args, argTypes } =>
    match args.toList, argTypes.toList with
    | [x], [t] => match s.peek 0 x with
      | .one v => ofOpt (lenV O t s v) fun y => k (s.def_ o.dst (.one y))
      | _ => .no
    | _, _ => .no
  | .call { callee := .builtin .min, args, argTypes } =>
    match args.toList with
    | [x, y] => match s.peek 0 x, s.peek 0 y with
      | .one (.lit (.int i a)), .one (.lit (.int _ b)) => k (s.def_ o.dst (.one (.lit (.int i (O.mn a b)))))
      | _, _ => .no
    | _ => .no
  | .call { callee := .builtin .append, args, argTypes } =>
    match args.toList, argTypes.toList with
    | [x, y], t :: t2 :: _ => match B.elem t with
      | some e => if t2 = t then ofOpt (s.take t x) fun s1 => ofOpt (s1.take t y) fun s2 => if !((s.peek t x).isOne && (s1.peek t y).isOne) then .no else match s2.hd with
        | [.own e1 xs, .own e2 ys] => if h : e2 = e1 then if e1 = e then guardT (O.le (O.mul (O.add (O.len xs) (O.len ys)) (B.bytes e)) 140737488351232) fun _ =>
            k (({ s2 with hd := [.own e1 (O.app xs (h ▸ ys))] } : S B).lay o.dst (.one .dead)) else .no else .no
        | [.own e1 xs, .imm e2 ys] => if h : e2 = e1 then if e1 = e then if B.plain e1 then guardT (O.le (O.mul (O.add (O.len xs) (O.len ys)) (B.bytes e)) 140737488351232) fun _ =>
            k (({ s2 with hd := [.own e1 (O.app xs (h ▸ ys))] } : S B).lay o.dst (.one .dead)) else .no else .no else .no
        | _ => .no
        else .no
      | none => .no
    | _, _ => .no
  | .call { callee := .value fx, args, argTypes } =>
    match s.peek 0 fx with
    | .one (.lit (.func (.func f) first cap)) =>
      if first.size = 0 ∧ cap.size = 0 then
      match B.bldOp f with
      | some kd => bldStep O kd o s args.toList k
      | none =>
      if args.size ≠ argTypes.size ∨ args.size < (M f).length then .no else
      ofOpt (s.takeA (M f) (argTypes.toList.zip args.toList)) fun z =>
        let ws := (argTypes.toList.zip args.toList).map fun p => z.1.peek p.1 p.2
        ofOpt (argsOf O z.1 (M f) ws z.2 z.1.hd) fun as =>
        if (nodup (boxesOf (M f) ws) && (lent (M f) ws).all (apart (boxesOf (M f) ws))) && (!B.gives f || (ownFirst (M f) && (boxesOf (M f) ws).isEmpty && (as.headD (.tup [])).same (firstW s (argTypes.toList.zip args.toList)))) then
        .call f as fun r => ofOpt (if r.1.2.any (·.any V.isImm) || (r.1.1 ++ r.2.leaves).any V.isImm then S.freeze z.1 (lent (M f) ws) else some z.1) fun s2 =>
            ofOpt (S.backs s (if B.gives f then (firstW s (argTypes.toList.zip args.toList)).leaves else []) ({ (s2.killBs (boxesOf (M f) ws)).setRoots (boxesOf (M f) ws) r.1.2 with hd := r.1.1 ++ r.2.leaves } : S B)) fun s3 =>
            k ((s3.lay o.dst r.2).unpack o.dst)
        else .no
      else .no
    | _ => .no
  | _ => .no
def dstOf (ops : List Oper) (j : Nat) : Option Nat := match ops[j]? with
  | some o => o.dst
  | none => none
def S.setTm (s : S B) (d : Nat) (w : WT B) : S B := { s with tm := setAt s.tm d w }
def stepOps (all : List Oper) : List Oper → S B → (S B → Tr B) → Tr B
  | [], s, k => k s
  | o :: os, s, k =>
    match o.guard with
    | none => stepOp O M o s fun s' => stepOps all os s' k
    | some (j, want) =>
      match dstOf all j with
      | some d => match s.tm.getD d (.one .dead) with
        | .one (.lit (.bool b)) => .cond b
            (fun _ => match want with
              | true => stepOp O M o (s.setTm d (.one (.lit (.bool true)))) fun s' => stepOps all os s' k
              | false => stepOps all os ((s.setTm d (.one (.lit (.bool true)))).def_ o.dst (.tup [])) k)
            (fun _ => match want with
              | true => stepOps all os ((s.setTm d (.one (.lit (.bool false)))).def_ o.dst (.tup [])) k
              | false => stepOp O M o (s.setTm d (.one (.lit (.bool false)))) fun s' => stepOps all os s' k)
        | .tup [] => stepOps all os (s.def_ o.dst (.tup [])) k
        | _ => .no
      | none => .no
/-- Box d is told of no more. -/
def S.dropB (s : S B) (d : Nat) : S B := if d < s.tm.length then { s.killR (2 * d + 3) with bx := setAt (s.killR (2 * d + 3)).bx d [] } else s
/-- Is anything of one's own among the tmps (in ascending order)? -/
def ownIn : List Nat → Nat → List (WT B) → Bool
  | [], _, _ => false
  | _, _, [] => false
  | k :: ks, i, w :: tm => if k = i then w.leaves.any V.isOwn || ownIn ks (i + 1) tm else ownIn (k :: ks) (i + 1) tm
def wipe : List Nat → Nat → List (WT B) → List (WT B)
  | [], _, tm => tm
  | _, _, [] => []
  | k :: ks, i, w :: tm => if k = i then .one .dead :: wipe ks (i + 1) tm else w :: wipe (k :: ks) (i + 1) tm
def S.wipe (s : S B) (ks : List Nat) : S B := match ownIn ks 0 s.tm with
  | true => ks.foldl (fun s t => s.def_ (some t) (.one .dead)) s
  | false => { s with tm := I.wipe ks 0 s.tm }
/-- Tmps (in ascending order), and boxes (from 1000000 on), that are told of no more. -/
def S.forget (s : S B) (ks : List Nat) : S B := ks.foldl (fun s t => if t < 1000000 then s else s.dropB (t - 1000000)) (s.wipe ks)
variable (kl : KL)
/-- The boxes that an operation hands on for writing. -/
def touchOf (o : Oper) (s : S B) : List Nat :=
  match o.op with
  | .call { callee := .value fx, args, argTypes } =>
    match s.peek 0 fx with
    | .one (.lit (.func (.func f) _ _)) => match s.takeA (M f) (argTypes.toList.zip args.toList) with
      | some z => boxesOf (M f) ((argTypes.toList.zip args.toList).map fun p => z.1.peek p.1 p.2)
      | none => []
    | _ => []
  | _ => []
def cvOK (v : WT B) : Bool := match v with
  | .one (.lit (.int _ _)) => true
  | .one (.imm _ _) => true
  | _ => false
/-- May an operation of a drawn region come up as told? T: the boxes that are written; fl: it may come up at another time. -/
def hchk (T : List Nat) (fl : Bool) (o : Oper) (s : S B) : Bool :=
  match o.op with
  | .load _ x => if fl then (match s.peek 0 x with
    | .one (.ptr p) => p.st.isEmpty && !T.contains p.r
    | .one (.iptr _ _ _) => true
    | _ => false) else true
  | .convert _ _ x => if fl then cvOK (s.peek 0 x) else true
  | .store _ _ _ => false
  | _ => (touchOf M o s).all fun r => T.contains r
def stepOpD (T : List Nat) (fl : Bool) (o : Oper) (s : S B) (k : S B → Tr B) : Tr B := match hchk M T fl o s with
  | true => stepOp O M o s k
  | false => .no
def stepOpsD (T : List Nat) (all : List Oper) : PT → S B → (S B → Tr B) → Tr B
  | .nil, s, k => k s
  | .no, _, _ => .no
  | .alt x y, s, k => .both (stepOpsD T all x s k) (stepOpsD T all y s k)
  | .op c os, s, k =>
    match all[c / 2]? with
    | none => .no
    | some o =>
    match o.guard with
    | none => stepOpD O M T (c % 2 == 1) o s fun s' => stepOpsD T all os s' k
    | some (j, want) =>
      match dstOf all j with
      | some d => match s.tm.getD d (.one .dead) with
        | .one (.lit (.bool b)) => .cond b
            (fun _ => match want with
              | true => stepOpD O M T (c % 2 == 1) o (s.setTm d (.one (.lit (.bool true)))) fun s' => stepOpsD T all os s' k
              | false => stepOpsD T all os ((s.setTm d (.one (.lit (.bool true)))).def_ o.dst (.tup [])) k)
            (fun _ => match want with
              | true => stepOpsD T all os ((s.setTm d (.one (.lit (.bool false)))).def_ o.dst (.tup [])) k
              | false => stepOpD O M T (c % 2 == 1) o (s.setTm d (.one (.lit (.bool false)))) fun s' => stepOpsD T all os s' k)
        | .tup [] => stepOpsD T all os (s.def_ o.dst (.tup [])) k
        | _ => .no
      | none => .no
/-- A result that is a row of one's own is only read from now on. -/
def S.frz1 (s : S B) (rv : ResultVar) : S B := match rv with
  | .tmp t => match s.tm.getD t (.one .dead) with
    | .one (.own _ _) => (s.freeze1 (.at ⟨2 * t + 2, 0, []⟩)).getD s
    | _ => s
  | _ => s
def S.frzs (s : S B) : List ResultVar → S B
  | [] => s
  | rv :: rs => S.frzs (s.frz1 rv) rs
def S.frzB (s : S B) (z : Bool) (rs : List ResultVar) : S B := match z with
  | true => s.frzs rs
  | false => s
/-- Rows of one's own that are only read from a region on. -/
def S.frzT (s : S B) (ts : List Nat) : S B := match ts with
  | [] => s
  | ts => s.frzs (ts.map ResultVar.tmp)
def regionT (id : Nat) (ops : Array Oper) (d : Bool) (s0 : S B) (k : S B → Tr B) : Tr B := let s := s0.frzT (kl.q id); match d with
  | false => stepOps O M ops.toList ops.toList s k
  | true => stepOpsD O M (kl.t id) ops.toList (kl.d id) s fun s' => stepOps O M ops.toList (ops.toList.drop (kl.d id).len) s' k
def exec : Code → Nat → S B → (Ex → S B → Tr B) → Tr B
  | .skip, _, s, k => k .normal s
  | .region id ops d, _, s, k => match kl.f (2 * id + 1) with
    | [] => regionT O M kl id ops d s (k .normal)
    | _ :: ks => .mark id (s.forget ks) fun s => regionT O M kl id ops d s (k .normal)
  | .seq a b, i, s, k => exec a i s fun e s' => match e with
    | .normal => exec b i s' k
    | e => k e s'
  | .cond c x y, i, s, k =>
    match s.peek 0 c with
    | .one (.lit (.bool b)) => .cond b (fun _ => exec x i s k) fun _ => exec y i s k
    | _ => .no
  | .block id c, _, s, k => exec c id s fun e s' => match e with
    | .exit j => if j = id then k .normal s' else k e s'
    | e => k e s'
  | .loop c, i, s, k => .loop c i (s.forget (kl.f (2 * i))) k
  | .exit id, _, s, k => k (.exit id) s
  | .ret, _, s, k => k .ret s
  | _, _, _, _ => .no
/-- The state at a call's begin: L tmps; what parameter i points to is box L + i. -/
def enterT (L : Nat) : Nat → List Md → List (WT B) → List (WT B)
  | _, _, [] => []
  | i, ms, w :: ws => (match ms.headD .val with
    | .ptr _ => .one (.ptr ⟨2 * (L + i) + 3, 0, []⟩)
    | _ => w) :: enterT L (i + 1) (ms.drop 1) ws
def enterB : List Md → List (WT B) → List (List (VT B))
  | _, [] => []
  | ms, w :: ws => (match ms.headD .val with
    | .ptr _ => w.leaves
    | _ => []) :: enterB (ms.drop 1) ws
def deads {α : Type} (x : α) : Nat → List α
  | 0 => []
  | n + 1 => x :: deads x n
/-- The results into the hand, one behind the other; their forms. -/
def resL (s : S B) : List ResultVar → Option (List (Bool × Nat) × S B)
  | [] => some ([], s)
  | .tmp t :: rs => if (s.peek 0 (.tmp t)).isTup then none else
    (s.take 0 (.tmp t)).bind fun s' => (resL s' rs).map fun z => (((s.peek 0 (.tmp t)).isAgg, (s.peek 0 (.tmp t)).leaves.length) :: z.1, z.2)
  | .cell a t :: rs => match s.peek 0 (.tmp a), B.lay t with
    | .one (.ptr p), some (g, n) => if (loadN O s p 0 n).any V.isDead then none else (s.grab (loadN O s p 0 n)).bind fun s' => (resL s' rs).map fun z => ((g, n) :: z.1, z.2)
    | _, _ => none
def cutL : List (Bool × Nat) → List (VT B) → List (Bool × List (VT B))
  | [], _ => []
  | (b, n) :: fs, l => (b, l.take n) :: cutL fs (l.drop n)
/-- What has become of what was handed on for writing. -/
def outsL (s : S B) (L : Nat) : Nat → List Md → Option (List (List (VT B)))
  | _, [] => some []
  | i, m :: ms => match m with
    | .ptr _ => if (s.root (2 * (L + i) + 3)).all V.final then (outsL s L (i + 1) ms).map fun l => s.root (2 * (L + i) + 3) :: l else none
    | _ => outsL s L (i + 1) ms
def resW (fs : List (Bool × Nat)) (h : List (VT B)) : WT B :=
  match fs with
  | [(b, _)] => if b then .agg h else .one (h.headD .dead)
  | fs => .tup (cutL fs h)
def leave (fn : Func) (mu : Bool) (modes : List Md) (s : S B) : Tr B :=
  ofOpt (resL O (s.packs fn.results.toList fn.resultTypes.toList) fn.results.toList) fun y => ofOpt (outsL y.2 fn.ntmps 0 modes) fun os =>
    if ((if mu then y.2.gh else []) ++ y.2.hd).all V.final then .ret ((if mu then y.2.gh else [], os), resW y.1 y.2.hd) else .no
/-- The first parameter's rows lie apart, and are told by their places there: whoever writes to them writes to the caller's. -/
def S.ghost (s : S B) : S B :=
  match s.tm with
  | [] => s
  | x :: l => { s with tm := x.remake (aliasL 1 0 x.leaves) :: l, gh := x.leaves }
def den (fn : Func) (body : Code) (mu : Bool) (modes : List Md) (as : List (WT B)) : Tr B :=
  if as.length ≤ fn.ntmps ∧ (!mu || (ownFirst modes && !as.isEmpty)) = true then
  exec O M kl body 0 (let s : S B := ⟨[], enterT fn.ntmps 0 modes as ++ deads (.one .dead) (fn.ntmps - as.length), deads [] fn.ntmps ++ enterB modes as, []⟩; if mu then s.ghost else s) fun e s => match e with
    | .normal => leave O fn mu modes (s.frzB kl.z fn.results.toList)
    | .ret => leave O fn mu modes (s.frzB kl.z fn.results.toList)
    | .exit _ => .no
  else .no
end
end Go.I

/-! IRules -/
set_option linter.unusedVariables false
namespace Go.I
section
variable {B : Tab}
/-- What is told of a function: its body, or (besides) what may come of a call by other means. -/
structure Fi (B : Tab) where
  fn : Func
  body : Code
  kills : KL
  con : List (WT B) → Res B → Prop
/-- What a tree comes to, in at most so many rounds and calls. -/
inductive G (O : Prim) (M : FuncId → List Md) (F : FuncId → Option (Fi B)) : Nat → KL → Tr B → Res B → Prop where
  | ret {n kl r} : G O M F n kl (.ret r) r
  | condT {n kl x y r} (h : G O M F n kl (x ()) r) : G O M F n kl (.cond true x y) r
  | condF {n kl x y r} (h : G O M F n kl (y ()) r) : G O M F n kl (.cond false x y) r
  | call {n kl f as k fi r1 r} (hf : F f = some fi) (h1 : G O M F n fi.kills (den O M fi.kills fi.fn fi.body (B.gives f) (M f) as) r1) (h2 : G O M F n kl (k r1) r) : G O M F (n + 1) kl (.call f as k) r
  | ext {n kl f as k fi r1 r} (hf : F f = some fi) (h1 : fi.con as r1) (h2 : G O M F n kl (k r1) r) : G O M F (n + 1) kl (.call f as k) r
  | both {n kl x y r} (h1 : G O M F n kl x r) (h2 : G O M F n kl y r) : G O M F n kl (.both x y) r
  | mark {n kl i s f r} (h : G O M F n kl (f s) r) : G O M F (n + 1) kl (.mark i s f) r
  | loop {n kl c i s k r} (h : G O M F n kl (exec O M kl c i s fun e s' => match e with
      | .normal => .loop c i (s'.forget (kl.f (2 * i))) k
      | e => k e s') r) : G O M F (n + 1) kl (.loop c i s k) r
variable {O : Prim} {M : FuncId → List Md} {F : FuncId → Option (Fi B)}
theorem G.succ {n kl} {t : Tr B} {r} (h : G O M F n kl t r) : G O M F (n + 1) kl t r := by
  induction h with
  | ret => exact .ret
  | condT _ ih => exact .condT ih
  | condF _ ih => exact .condF ih
  | call hf _ _ ih1 ih2 => exact .call hf ih1 ih2
  | ext hf h1 _ ih => exact .ext hf h1 ih
  | both _ _ ih1 ih2 => exact .both ih1 ih2
  | mark _ ih => exact .mark ih
  | loop _ ih => exact .loop ih
theorem G.le {n m kl} {t : Tr B} {r} (h : G O M F n kl t r) (hm : n ≤ m) : G O M F m kl t r := by
  obtain ⟨d, rfl⟩ := Nat.exists_eq_add_of_le hm
  induction d with
  | zero => exact h
  | succ d ih => exact G.succ (ih (by omega))
/-- A tree comes to what x is, where x is something. -/
def Le (F : FuncId → Option (Fi B)) (O : Prim) (M : FuncId → List Md) (kl : KL) {α : Type} (e : α → Res B) (x : Option α) (t : Tr B) : Prop := ∀ r, x = some r → ∃ n, G O M F n kl t (e r)
section
variable {kl : KL} {α : Type} {e : α → Res B} {x y : Option α}
theorem Le.eq {t t' : Tr B} (h : t = t') (h' : Le F O M kl e x t') : Le F O M kl e x t := h ▸ h'
theorem Le.none {t : Tr B} : Le F O M kl e none t := by rintro r ⟨⟩
theorem Le.ret {a : α} : Le F O M kl e (some a) (.ret (e a)) := by rintro r ⟨⟩; exact ⟨0, .ret⟩
theorem Le.ret' {a : α} {r : Res B} (h : e a = r) : Le F O M kl e (some a) (.ret r) := h ▸ Le.ret
theorem Le.condT {b : Bool} {X Y : Unit → Tr B} (hb : b = true) (h : Le F O M kl e x (X ())) : Le F O M kl e x (.cond b X Y) := by
  subst hb; intro r hr; obtain ⟨n, hn⟩ := h r hr; exact ⟨n, .condT hn⟩
theorem Le.condF {b : Bool} {X Y : Unit → Tr B} (hb : b = false) (h : Le F O M kl e x (Y ())) : Le F O M kl e x (.cond b X Y) := by
  subst hb; intro r hr; obtain ⟨n, hn⟩ := h r hr; exact ⟨n, .condF hn⟩
theorem Le.cond {b : Bool} {X Y : Unit → Tr B} (hx : b = true → Le F O M kl e x (X ())) (hy : b = false → Le F O M kl e y (Y ())) : Le F O M kl e (if b = true then x else y) (.cond b X Y) := by
  cases b
  · exact .condF rfl (hy rfl)
  · exact .condT rfl (hx rfl)
theorem Le.split {b : Bool} {X Y : Unit → Tr B} (hx : b = true → Le F O M kl e x (X ())) (hy : b = false → Le F O M kl e x (Y ())) : Le F O M kl e x (.cond b X Y) := by
  cases b
  · exact .condF rfl (hy rfl)
  · exact .condT rfl (hx rfl)
theorem Le.call {β : Type} {f : FuncId} {as : List (WT B)} {k : Res B → Tr B} {fi : Fi B} {eb : β → Res B} {z : Option β} {g : β → Option α} (hf : F f = some fi)
    (h1 : Le F O M fi.kills eb z (den O M fi.kills fi.fn fi.body (B.gives f) (M f) as)) (h2 : ∀ b, z = some b → Le F O M kl e (g b) (k (eb b))) : Le F O M kl e (z.bind g) (.call f as k) := by
  intro r hr
  obtain ⟨b, hb, hg⟩ := Option.bind_eq_some_iff.1 hr
  obtain ⟨n1, h1⟩ := h1 b hb
  obtain ⟨n2, h2⟩ := h2 b hb r hg
  exact ⟨max n1 n2 + 1, .call hf (h1.le (by omega)) (h2.le (by omega))⟩
theorem Le.ext {β : Type} {f : FuncId} {as : List (WT B)} {k : Res B → Tr B} {fi : Fi B} {eb : β → Res B} {z : Option β} {g : β → Option α} (hf : F f = some fi)
    (h1 : ∀ b, z = some b → fi.con as (eb b)) (h2 : ∀ b, z = some b → Le F O M kl e (g b) (k (eb b))) : Le F O M kl e (z.bind g) (.call f as k) := by
  intro r hr
  obtain ⟨b, hb, hg⟩ := Option.bind_eq_some_iff.1 hr
  obtain ⟨n2, h2⟩ := h2 b hb r hg
  exact ⟨n2 + 1, .ext hf (h1 b hb) h2⟩
theorem Le.iteX {c : Prop} [Decidable c] {t : Tr B} (hx : c → Le F O M kl e x t) (hy : ¬ c → Le F O M kl e y t) : Le F O M kl e (if c then x else y) t := by
  by_cases h : c
  · rw [if_pos h]; exact hx h
  · rw [if_neg h]; exact hy h
theorem Le.both {t1 t2 : Tr B} (h1 : Le F O M kl e x t1) (h2 : Le F O M kl e x t2) : Le F O M kl e x (.both t1 t2) := by
  intro r hr
  obtain ⟨n1, h1⟩ := h1 r hr
  obtain ⟨n2, h2⟩ := h2 r hr
  exact ⟨max n1 n2, .both (h1.le (by omega)) (h2.le (by omega))⟩
theorem Le.mark {i : Nat} {s s' : S B} {f : S B → Tr B} (h : Le F O M kl e x (f s)) (hs : s' = s) : Le F O M kl e x (.mark i s' f) := by
  subst hs
  intro r hr
  obtain ⟨n, h⟩ := h r hr
  exact ⟨n + 1, .mark h⟩
theorem Le.loop1 {c : Code} {i : Nat} {s : S B} {k : Ex → S B → Tr B} (h : Le F O M kl e x (exec O M kl c i s fun e s' => match e with
      | .normal => .loop c i (s'.forget (kl.f (2 * i))) k
      | e => k e s')) : Le F O M kl e x (.loop c i s k) := by
  intro r hr
  obtain ⟨n, h⟩ := h r hr
  exact ⟨n + 1, .loop h⟩
theorem Le.loopU {ι : Type} {c : Code} {i : Nat} {s : S B} {k : Ex → S B → Tr B} (upd : ι → S B → S B) (f : Nat → ι → Option α) (n : Nat) (v0 : ι) (hu : upd v0 s = s) (h0 : ∀ v, f 0 v = .none)
    (hs : ∀ n, (∀ v, Le F O M kl e (f n v) (.loop c i (upd v s) k)) → ∀ v, Le F O M kl e (f (n + 1) v) (exec O M kl c i (upd v s) fun e s' => match e with
      | .normal => .loop c i (s'.forget (kl.f (2 * i))) k
      | e => k e s')) : Le F O M kl e (f n v0) (.loop c i s k) := by
  have key : ∀ n v, Le F O M kl e (f n v) (.loop c i (upd v s) k) := by
    intro n
    induction n with
    | zero => intro v; rw [h0]; exact .none
    | succ n ih => exact fun v => .loop1 (hs n ih v)
  exact hu ▸ key n v0
theorem Le.loopEq {c : Code} {i : Nat} {s s' : S B} {k : Ex → S B → Tr B} (h : Le F O M kl e x (.loop c i s k)) (hs : s' = s) : Le F O M kl e x (.loop c i s' k) := hs ▸ h
def S.upd (s : S B) (t : Nat) (w : WT B) : S B := { s with tm := setAt s.tm t w }
def S.updB (s : S B) (t : Nat) (l : List (VT B)) : S B := { s with bx := setAt s.bx t l }
end
end
end Go.I

/-! ISem1 -/
set_option linter.unusedVariables false
set_option linter.unusedSimpArgs false
namespace Go.I
open Go.RowKit Go.Proofs.YtogfddilolannaaDoorW.PrintWords
section
variable {B : Tab}
/-- What the table says of its own kinds. -/
structure TabE (B : Tab) : Prop where
  enc_len : ∀ e x, (B.enc e x).length = B.size e
  dec_enc : ∀ e cs x, B.dec e cs = some x → B.enc e x = cs
  upd_ok : ∀ e off x f, B.updF e off x = some f → ∀ z, B.dec e (setAt (B.enc e z) off x) = some (f z)
  glob_keep : ∀ w w', B.glob w → (∀ b, B.gb b → w'.heap[b]? = w.heap[b]?) → B.glob w'
/-- Leaves and cells, one by one; each leaf's blocks are its own. -/
def LsR (R : VT B → Value → (Nat → Prop) → Prop) (vs : List (VT B)) (cs : List Value) (D : Nat → Prop) : Prop :=
  vs.length = cs.length ∧ ∃ Dk : Nat → Nat → Prop, (∀ k v c, vs[k]? = some v → cs[k]? = some c → R v c (Dk k)) ∧ (∀ j k b, Dk j b → Dk k b → j = k) ∧ ∀ k b, Dk k b → D b
def Own (w : World) : Nat → VT B → Value → (Nat → Prop) → Prop
  | _, .lit v, c, _ => c = v ∧ v.oneCell' = true
  | n + 1, .own e l, c, D => ∃ inner, QRow w 0 e (B.size e) c l.length inner ∧ (∀ b, c.ownBlock = some b → D b) ∧
      ∃ Dk : Nat → Nat → Prop, (∀ j k b, Dk j b → Dk k b → j = k) ∧ (∀ k b, Dk k b → D b ∧ c.ownBlock ≠ some b) ∧
        ∀ j x, l[j]? = some x → LsR (Own w n) (B.enc e x) ((inner.drop (j * B.size e)).take (B.size e)) (Dk j)
  | _, _, _, _ => False
def LsI (R : VT B → Value → Prop) (vs : List (VT B)) (cs : List Value) : Prop :=
  vs.length = cs.length ∧ ∀ (k : Nat) v c, vs[k]? = some v → cs[k]? = some c → R v c
def ImmRow (w : World) (ok : Nat → Prop) (R : VT B → Value → Prop) (e : TypeId) (l : List (B.T e)) (c : Value) : Prop :=
  ∃ A cap, c = .slice A l.length cap ∧ l.length ≤ cap ∧ l.length ≤ 9223372036854775807 ∧ (0 < l.length → ∃ ad, A = some ad ∧ ok ad.block ∧
    ∀ j x, l[j]? = some x → ∃ cs, LsI R (B.enc e x) cs ∧ ∀ i u, cs[i]? = some u → w.cell? (ad.add (j * B.size e + i)) = some u)
def Imm (w : World) (ok : Nat → Prop) : Nat → VT B → Value → Prop
  | _, .lit v, c => c = v ∧ v.oneCell' = true
  | n + 1, .own e l, c => ImmRow w ok (Imm w ok n) e l c
  | n + 1, .imm e l, c => ImmRow w ok (Imm w ok n) e l c
  | _, _, _ => False
/-- A strings.Builder of one's own that holds s: told where its address is. -/
def BldR (B : Tab) (w : World) (s : ByteArray) (c : Value) (D : Nat → Prop) : Prop :=
  ∃ b p v, c = .pointer (some ⟨b, 0, none⟩) ∧ D b ∧ w.heap[b]? = some (.cells #[p, v] B.bldT (0, 0)) ∧ (p = .pointer none ∨ p = .pointer (some ⟨b, 0, none⟩)) ∧
    w.ownsRowF 0 B.byteT 1 v s.size (Lib.byteCells s.data.toList) ∧ v.ownBlock ≠ some b ∧ ∀ g, v.ownBlock = some g → D g
theorem BldR.move {w w' : World} {s : ByteArray} {c : Value} {D : Nat → Prop} (h : BldR B w s c D) (hD : ∀ b, D b → w'.heap[b]? = w.heap[b]?) : BldR B w' s c D := by
  obtain ⟨b, p, v, h1, h2, h3, h4, h5, h6, h7⟩ := h
  refine ⟨b, p, v, h1, h2, (hD b h2).trans h3, h4, ⟨h5.1, ?_⟩, h6, h7⟩
  rcases h5.2 with h8 | ⟨g, cap, cur, fz, rfl, hbg, hg, hr⟩
  · exact .inl h8
  · exact .inr ⟨g, cap, cur, fz, rfl, hbg, (hD g (h7 g rfl)).trans hg, hr⟩
theorem BldR.mono {w : World} {s : ByteArray} {c : Value} {D D' : Nat → Prop} (h : BldR B w s c D) (hD : ∀ b, D b → D' b) : BldR B w s c D' := by
  obtain ⟨b, p, v, h1, h2, h3, h4, h5, h6, h7⟩ := h
  exact ⟨b, p, v, h1, hD b h2, h3, h4, h5, h6, fun g hg => hD g (h7 g hg)⟩
/-- A pointer of one's own to a variable that holds the element x of type e. -/
def PbR (B : Tab) (w : World) (e : TypeId) (x : B.T e) (c : Value) (D : Nat → Prop) : Prop :=
  ∃ b ty cs n D', c = .pointer (some ⟨b, 0, none⟩) ∧ D b ∧ w.heap[b]? = some (.cells cs.toArray ty (0, 0)) ∧ cs ≠ [] ∧ LsR (Own w n) (B.enc e x) cs D' ∧ ∀ k, D' k → D k ∧ k ≠ b
theorem PbR.mono {w : World} {e : TypeId} {x : B.T e} {c : Value} {D D' : Nat → Prop} (h : PbR B w e x c D) (hD : ∀ b, D b → D' b) : PbR B w e x c D' := by
  obtain ⟨b, ty, cs, n, D1, h1, h2, h3, h4, h5, h6⟩ := h
  exact ⟨b, ty, cs, n, D1, h1, hD b h2, h3, h4, h5, fun k hk => ⟨hD k (h6 k hk).1, (h6 k hk).2⟩⟩
/-- What a builder's own function leaves. -/
def BldN (B : Tab) (w : World) (D : Nat → Prop) (w' : World) (s : ByteArray) (c : Value) : Prop :=
  ∃ D', BldR B w' s c D' ∧ (∀ b, D' b → D b ∨ (w.heap.size ≤ b ∧ b < w'.heap.size)) ∧ (∀ b, b < w.heap.size → ¬ D b → w'.heap[b]? = w.heap[b]?) ∧ w.heap.size ≤ w'.heap.size ∧ w'.os = w.os ∧ w'.tape = w.tape ∧ w'.output = w.output
/-- A builder's function does what is told of it. -/
def BldC (P : Program) (B : Tab) (f : FuncId) (kd : BK) : Prop :=
  (∃ fn c, P.funcs[f]? = some fn ∧ fn.body = some c ∧ (fn.name == "runtime.NumGoroutine") = false) ∧
  ∀ (w : World) (s : ByteArray) (c : Value) (D : Nat → Prop), BldR B w s c D → (∀ b, D b → b < w.heap.size) → match kd with
    | .wbyte => ∀ n : Int, 0 ≤ n → n ≤ 255 → s.size < 140737488355328 → Calls P f #[c, .int .u8 n] w fun e w' => e = .returned .nilIface ∧ BldN B w D w' (s ++ std.strOf [n]) c
    | .wstr => ∀ y : ByteArray, s.size + y.size ≤ 140737488355328 → Calls P f #[c, .string y] w fun e w' => e = .returned (.tuple #[.int .i64 y.size, .nilIface]) ∧ BldN B w D w' (s ++ y) c
    | .str => Calls P f #[c] w fun e w' => e = .returned (.string s) ∧ BldN B w D w' s c
    | .len => Calls P f #[c] w fun e w' => e = .returned (.int .i64 s.size) ∧ BldN B w D w' s c
theorem LsR.imp {R R' : VT B → Value → (Nat → Prop) → Prop} {vs cs D D'} (h : LsR R vs cs D) (hR : ∀ v c Dk, (∀ b, Dk b → D b) → R v c Dk → R' v c Dk) (hD : ∀ b, D b → D' b) : LsR R' vs cs D' := by
  obtain ⟨h1, Dk, h2, h3, h4⟩ := h
  exact ⟨h1, Dk, fun k v c hv hc => hR v c _ (h4 k) (h2 k v c hv hc), h3, fun k b hb => hD b (h4 k b hb)⟩
theorem LsI.imp {R R' : VT B → Value → Prop} {vs cs} (h : LsI R vs cs) (hR : ∀ v c, R v c → R' v c) : LsI R' vs cs := ⟨h.1, fun k v c hv hc => hR v c (h.2 k v c hv hc)⟩
theorem Own.mono {w : World} : ∀ {n : Nat} {v : VT B} {c D D'}, Own w n v c D → (∀ b, D b → D' b) → Own w n v c D'
  | 0, .lit _, _, _, _, h, _ => h
  | n + 1, .lit _, _, _, _, h, _ => h
  | n + 1, .own e l, _, _, _, h, hD => by
    obtain ⟨inner, hq, hb, Dk, h3, h4, h5⟩ := h
    exact ⟨inner, hq, fun b h => hD b (hb b h), Dk, h3, fun k b h => ⟨hD b (h4 k b h).1, (h4 k b h).2⟩, h5⟩
/-- A row of one's own lives on where its own blocks do. -/
theorem Own.move {w w' : World} : ∀ {n : Nat} {v : VT B} {c D}, Own w n v c D → (∀ b, D b → w'.heap[b]? = w.heap[b]?) → Own w' n v c D
  | 0, .lit _, _, _, h, _ => h
  | n + 1, .lit _, _, _, h, _ => h
  | n + 1, .own e l, _, _, h, hD => by
    obtain ⟨inner, hq, hb, Dk, h3, h4, h5⟩ := h
    refine ⟨inner, q_move hq (fun k hk => hD k (hb k hk)), hb, Dk, h3, h4, fun j x hx => (h5 j x hx).imp (fun v c Dk' hs hr => hr.move (fun b hb => hD b (h4 j b (hs b hb)).1)) (fun _ h => h)⟩
theorem PbR.move {w w' : World} {e : TypeId} {x : B.T e} {c : Value} {D : Nat → Prop} (h : PbR B w e x c D) (hD : ∀ b, D b → w'.heap[b]? = w.heap[b]?) : PbR B w' e x c D := by
  obtain ⟨b, ty, cs, n, D1, h1, h2, h3, h4, h5, h6⟩ := h
  exact ⟨b, ty, cs, n, D1, h1, h2, (hD b h2).trans h3, h4, h5.imp (fun v c Dk hs hr => hr.move (fun k hk => hD k (h6 k (hs k hk)).1)) (fun _ h => h), h6⟩
theorem Imm.mono {w : World} {ok ok' : Nat → Prop} (hok : ∀ b, ok b → ok' b) : ∀ {n : Nat} {v : VT B} {c}, Imm w ok n v c → Imm w ok' n v c
  | 0, .lit _, _, h => h
  | n + 1, .lit _, _, h => h
  | n + 1, .own e l, _, h => by
    obtain ⟨A, cap, h1, h2, h2', h3⟩ := h
    refine ⟨A, cap, h1, h2, h2', fun hp => ?_⟩
    obtain ⟨ad, ha, ho, hc⟩ := h3 hp
    refine ⟨ad, ha, hok _ ho, fun j x hx => ?_⟩
    obtain ⟨cs, hl, hcs⟩ := hc j x hx
    exact ⟨cs, hl.imp (fun _ _ h => h.mono hok), hcs⟩
  | n + 1, .imm e l, _, h => by
    obtain ⟨A, cap, h1, h2, h2', h3⟩ := h
    refine ⟨A, cap, h1, h2, h2', fun hp => ?_⟩
    obtain ⟨ad, ha, ho, hc⟩ := h3 hp
    refine ⟨ad, ha, hok _ ho, fun j x hx => ?_⟩
    obtain ⟨cs, hl, hcs⟩ := hc j x hx
    exact ⟨cs, hl.imp (fun _ _ h => h.mono hok), hcs⟩
theorem cell_same {w w' : World} {a : Addr} (h : w'.heap[a.block]? = w.heap[a.block]?) : w'.cell? a = w.cell? a := by unfold World.cell?; rw [h]
theorem add_block (a : Addr) (n : Nat) : (a.add n).block = a.block := by unfold Addr.add; split <;> rfl
theorem Imm.move {w w' : World} {ok : Nat → Prop} (hok : ∀ b, ok b → w'.heap[b]? = w.heap[b]?) : ∀ {n : Nat} {v : VT B} {c}, Imm w ok n v c → Imm w' ok n v c
  | 0, .lit _, _, h => h
  | n + 1, .lit _, _, h => h
  | n + 1, .own e l, _, h => by
    obtain ⟨A, cap, h1, h2, h2', h3⟩ := h
    refine ⟨A, cap, h1, h2, h2', fun hp => ?_⟩
    obtain ⟨ad, ha, ho, hc⟩ := h3 hp
    refine ⟨ad, ha, ho, fun j x hx => ?_⟩
    obtain ⟨cs, hl, hcs⟩ := hc j x hx
    exact ⟨cs, hl.imp (fun _ _ h => h.move hok), fun i u hu => (cell_same (by rw [add_block]; exact hok _ ho)).trans (hcs i u hu)⟩
  | n + 1, .imm e l, _, h => by
    obtain ⟨A, cap, h1, h2, h2', h3⟩ := h
    refine ⟨A, cap, h1, h2, h2', fun hp => ?_⟩
    obtain ⟨ad, ha, ho, hc⟩ := h3 hp
    refine ⟨ad, ha, ho, fun j x hx => ?_⟩
    obtain ⟨cs, hl, hcs⟩ := hc j x hx
    exact ⟨cs, hl.imp (fun _ _ h => h.move hok), fun i u hu => (cell_same (by rw [add_block]; exact hok _ ho)).trans (hcs i u hu)⟩
/-- A pointer of one's own to a variable whose rows are only read. -/
def PbiR (B : Tab) (w : World) (ok : Nat → Prop) (e : TypeId) (x : B.T e) (c : Value) (D : Nat → Prop) : Prop :=
  ∃ b ty cs n, c = .pointer (some ⟨b, 0, none⟩) ∧ D b ∧ w.heap[b]? = some (.cells cs.toArray ty (0, 0)) ∧ cs ≠ [] ∧ LsI (Imm w ok n) (B.enc e x) cs
def PbX (B : Tab) (w : World) (ok : Nat → Prop) : Bool → (e : TypeId) → B.T e → Value → (Nat → Prop) → Prop
  | false, e, x, c, D => PbR B w e x c D
  | true, e, x, c, D => PbiR B w ok e x c D
theorem PbX.mono {w : World} {ok : Nat → Prop} {i : Bool} {e : TypeId} {x : B.T e} {c : Value} {D D' : Nat → Prop} (h : PbX B w ok i e x c D) (hD : ∀ b, D b → D' b) : PbX B w ok i e x c D' := by
  cases i with
  | false => exact PbR.mono h hD
  | true => obtain ⟨b, ty, cs, n, h1, h2, h3⟩ := h; exact ⟨b, ty, cs, n, h1, hD b h2, h3⟩
theorem PbX.move {w w' : World} {ok ok' : Nat → Prop} {i : Bool} {e : TypeId} {x : B.T e} {c : Value} {D : Nat → Prop} (h : PbX B w ok i e x c D) (hok : ∀ b, ok b → ok' b ∧ w'.heap[b]? = w.heap[b]?) (hD : ∀ b, D b → w'.heap[b]? = w.heap[b]?) : PbX B w' ok' i e x c D := by
  cases i with
  | false => exact PbR.move h hD
  | true =>
    obtain ⟨b, ty, cs, n, h1, h2, h3, h4, h5⟩ := h
    exact ⟨b, ty, cs, n, h1, h2, (hD b h2).trans h3, h4, h5.imp fun v c hi => Imm.mono (fun b hb => (hok b hb).1) (Imm.move (fun b hb => (hok b hb).2) hi)⟩
theorem PbX.ok {w : World} {ok ok' : Nat → Prop} {i : Bool} {e : TypeId} {x : B.T e} {c : Value} {D : Nat → Prop} (h : PbX B w ok i e x c D) (hok : ∀ b, ok b → ok' b) : PbX B w ok' i e x c D := by
  cases i with
  | false => exact h
  | true =>
    obtain ⟨b, ty, cs, n, h1, h2, h3, h4, h5⟩ := h
    exact ⟨b, ty, cs, n, h1, h2, h3, h4, h5.imp fun v c hi => Imm.mono hok hi⟩
theorem PbX.one {w : World} {ok : Nat → Prop} {i : Bool} {e : TypeId} {x : B.T e} {c : Value} {D : Nat → Prop} (h : PbX B w ok i e x c D) : c.oneCell' = true := by
  cases i with
  | false => obtain ⟨b, ty, cs, n, D', rfl, _⟩ := h; rfl
  | true => obtain ⟨b, ty, cs, n, rfl, _⟩ := h; rfl
theorem Own.succ {w : World} : ∀ {n : Nat} {v : VT B} {c D}, Own w n v c D → Own w (n + 1) v c D
  | 0, .lit _, _, _, h => h
  | n + 1, .lit _, _, _, h => h
  | n + 1, .own e l, _, _, h => by
    obtain ⟨inner, hq, hb, Dk, h3, h4, h5⟩ := h
    exact ⟨inner, hq, hb, Dk, h3, h4, fun j x hx => (h5 j x hx).imp (fun v c Dk' _ hr => hr.succ) (fun _ h => h)⟩
theorem Own.le {w : World} {n m : Nat} {v : VT B} {c D} (h : Own w n v c D) (hm : n ≤ m) : Own w m v c D := by
  obtain ⟨d, rfl⟩ := Nat.exists_eq_add_of_le hm
  induction d with
  | zero => exact h
  | succ d ih => exact Own.succ (ih (by omega))
theorem Imm.succ {w : World} {ok : Nat → Prop} : ∀ {n : Nat} {v : VT B} {c}, Imm w ok n v c → Imm w ok (n + 1) v c
  | 0, .lit _, _, h => h
  | n + 1, .lit _, _, h => h
  | n + 1, .own e l, _, h => by
    obtain ⟨A, cap, h1, h2, h2', h3⟩ := h
    refine ⟨A, cap, h1, h2, h2', fun hp => ?_⟩
    obtain ⟨ad, ha, ho, hc⟩ := h3 hp
    refine ⟨ad, ha, ho, fun j x hx => ?_⟩
    obtain ⟨cs, hl, hcs⟩ := hc j x hx
    exact ⟨cs, hl.imp (fun _ _ h => h.succ), hcs⟩
  | n + 1, .imm e l, _, h => by
    obtain ⟨A, cap, h1, h2, h2', h3⟩ := h
    refine ⟨A, cap, h1, h2, h2', fun hp => ?_⟩
    obtain ⟨ad, ha, ho, hc⟩ := h3 hp
    refine ⟨ad, ha, ho, fun j x hx => ?_⟩
    obtain ⟨cs, hl, hcs⟩ := hc j x hx
    exact ⟨cs, hl.imp (fun _ _ h => h.succ), hcs⟩
theorem Imm.le {w : World} {ok : Nat → Prop} {n m : Nat} {v : VT B} {c} (h : Imm w ok n v c) (hm : n ≤ m) : Imm w ok m v c := by
  obtain ⟨d, rfl⟩ := Nat.exists_eq_add_of_le hm
  induction d with
  | zero => exact h
  | succ d ih => exact Imm.succ (ih (by omega))
/-- A row of one's own, from now on only read. -/
theorem Own.imm {w : World} {ok : Nat → Prop} : ∀ {n : Nat} {v : VT B} {c D}, Own w n v c D → (∀ b, D b → ok b) → Imm w ok n v c
  | 0, .lit _, _, _, h, _ => h
  | n + 1, .lit _, _, _, h, _ => h
  | n + 1, .own e l, c, D, h, hD => by
    obtain ⟨inner, hq, hb, Dk, h3, h4, h5⟩ := h
    obtain ⟨A, cap, rfl, hle⟩ := q_slice hq
    refine ⟨A, cap, rfl, hle, q_max hq, fun hp => ?_⟩
    obtain ⟨ad, rfl, hcell⟩ := q_cells hq hp
    refine ⟨ad, rfl, hD _ (hb _ rfl), fun j x hx => ⟨_, ⟨(h5 j x hx).1, fun k v c hv hc => ?_⟩, fun i u hu => ?_⟩⟩
    · obtain ⟨_, Dk', h6, h7, h8⟩ := h5 j x hx
      exact (h6 k v c hv hc).imm (fun b hb => hD b (h4 j b (h8 k b hb)).1)
    · rw [List.getElem?_take] at hu
      split at hu
      · rw [List.getElem?_drop] at hu
        exact hcell _ u hu
      · cases hu
theorem Own.toImm {w : World} {ok : Nat → Prop} {n : Nat} {e : TypeId} {l : List (B.T e)} {c D} (h : Own w n (.own e l : VT B) c D) (hD : ∀ b, D b → ok b) : Imm w ok n (.imm e l : VT B) c := by
  cases n with
  | zero => exact h.elim
  | succ n => exact (show ImmRow w ok (Imm w ok n) e l c from Own.imm (v := .own e l) (n := n + 1) h hD)
end
end Go.I

/-! ISem2 -/
set_option linter.unusedVariables false
set_option linter.unusedSimpArgs false
namespace Go.I
open Go.RowKit Go.Proofs.YtogfddilolannaaDoorW.PrintWords
theorem setAt_eq {α : Type} (l : List α) (n : Nat) (x : α) : setAt l n x = l.set n x := by
  induction l generalizing n with
  | nil => rfl
  | cons y l ih => cases n <;> simp [setAt, ih]
section
variable {B : Tab}
/-- An entry: a leaf, the cell that it stands for, the blocks that are its own. -/
structure Ent (B : Tab) where
  v : VT B
  c : Value
  D : Nat → Prop
abbrev Gh (B : Tab) := Nat → List (Ent B)
def vs (l : List (Ent B)) : List (VT B) := l.map (·.v)
def csOf (l : List (Ent B)) : List Value := l.map (·.c)
/-- The address of a leaf inside a row of one's own. -/
def AddrR (w : World) : List (Int × Nat) → VT B → Value → Addr → Prop
  | [], _, _, _ => False
  | (i, off) :: st, v, c, ad => ∃ e l, v = .own e l ∧ ∃ a cap, c = .slice (some a) l.length cap ∧ 0 ≤ i ∧ i < l.length ∧ off < B.size e ∧
      ((st = [] ∧ ad = a.add (i.toNat * B.size e + off)) ∨
       (st ≠ [] ∧ ∃ v' u, (B.enc e (std.get (B.dflt e) l i))[off]? = some v' ∧ w.cell? (a.add (i.toNat * B.size e + off)) = some u ∧ AddrR w st v' u ad))
structure Base (B : Tab) where
  w0 : World
  A0 : Nat → Prop
  ok0 : Nat → Prop
  pin : Nat → Option Nat
  ro : Nat → Nat → Prop
  gh : List Value
/-- May a block be read for good: none of those that are written. -/
def okB (X : Base B) (Γ : Gh B) (β : Nat → Nat) (w : World) (b : Nat) : Prop :=
  b < w.heap.size ∧ (X.ok0 b ∨ X.A0 b ∨ X.w0.heap.size ≤ b) ∧ (∀ r x, x ∈ Γ r → ¬ x.D b) ∧ ∀ t, Γ (2 * t + 3) ≠ [] → b ≠ β t
def LeafR (X : Base B) (ok : Nat → Prop) (Γ : Gh B) (β : Nat → Nat) (w : World) : VT B → Value → (Nat → Prop) → Prop
  | .lit v, c, _ => c = v ∧ v.oneCell' = true
  | .imm e l, c, _ => ∃ n, Imm w ok n (.imm e l : VT B) c
  | .own e l, c, D => ∃ n, Own w n (.own e l : VT B) c D
  | .at p, c, _ => p.r ≠ 0 ∧ ∃ x, (Γ p.r)[p.k]? = some x ∧ x.v.isOwn = true ∧ match p.st with
      | [] => c = x.c ∧ c.oneCell' = true
      | st => ∃ ad, AddrR w st x.v x.c ad ∧ w.cell? ad = some c ∧ c.oneCell' = true
  | .ptr p, c, _ => match p.st with
      | [] => (∃ t, p.r = 2 * t + 3 ∧ Γ p.r ≠ [] ∧ c = .pointer (some ⟨β t, p.k, none⟩))
      | st => p.r ≠ 0 ∧ ∃ x ad, (Γ p.r)[p.k]? = some x ∧ AddrR w st x.v x.c ad ∧ c = .pointer (some ad)
  | .iptr e x off, c, _ => ∃ ad cs n, c = .pointer (some ad) ∧ ok ad.block ∧ LsI (Imm w ok n) (B.enc e x) cs ∧ ∀ i u, cs[off + i]? = some u → w.cell? (ad.add i) = some u
  | .bld s, c, D => BldR B w s c D
  | .pb i e x, c, D => PbX B w ok i e x c D
  | .dead, _, _ => True
/-- A tmp's value and its cells. -/
def WR : WT B → Value → List Value → Prop
  | .one _, c, cs => cs = [c]
  | .agg _, c, cs => c = .agg cs.toArray
  | .tup vs, c, cs => ∃ css : List (List Value), cs = css.flatten ∧ css.map List.length = vs.map (fun x => x.2.length) ∧
      c = .tuple ((vs.zip css).map fun x => if x.1.1 then .agg x.2.toArray else x.2.headD undef).toArray
structure Rel (X : Base B) (s : S B) (a : Act) (w : World) (Γ : Gh B) (β : Nat → Nat) : Prop where
  dfr : a.defers = []
  size : s.tm.length = a.tmps.size
  bsize : s.tm.length ≤ s.bx.length ∧ ∀ t b, X.pin t = some b → s.tm.length ≤ t ∧ β t = b ∧ Γ (2 * t + 3) ≠ []
  root : ∀ r, s.root r = vs (Γ r)
  tm : ∀ t x c, s.tm[t]? = some x → a.tmps[t]? = some c → WR x c (csOf (Γ (2 * t + 2)))
  bx : ∀ t, Γ (2 * t + 3) ≠ [] → ∃ ty, w.heap[β t]? = some (.cells (csOf (Γ (2 * t + 3))).toArray ty (0, 0))
  leaf : ∀ r x, x ∈ Γ r → LeafR X (okB X Γ β w) Γ β w x.v x.c x.D
  disj : ∀ (r k r' k' : Nat) (x y : Ent B), (Γ r)[k]? = some x → (Γ r')[k']? = some y → ∀ b, x.D b → y.D b → r = r' ∧ k = k'
  bdisj : ∀ r x t, x ∈ Γ r → Γ (2 * t + 3) ≠ [] → ¬ x.D (β t)
  binj : ∀ t u, Γ (2 * t + 3) ≠ [] → Γ (2 * u + 3) ≠ [] → β t = β u → t = u
  dlt : ∀ r x b, x ∈ Γ r → x.D b → b < w.heap.size ∧ (X.A0 b ∨ X.w0.heap.size ≤ b)
  bnd : ∀ t, Γ (2 * t + 3) ≠ [] → X.ro t (β t) ∨ X.A0 (β t) ∨ X.w0.heap.size ≤ β t
  grow : X.w0.heap.size ≤ w.heap.size
  keep : ∀ b, b < X.w0.heap.size → ¬ X.A0 b → w.heap[b]? = X.w0.heap[b]?
  os : w.os = X.w0.os
  tape : w.tape = X.w0.tape
  output : w.output = X.w0.output
  gh : csOf (Γ 1) = X.gh
  gl : (∀ b, B.gb b → okB X Γ β w b) ∧ B.glob w
/-! ### roots -/
theorem root_tm (s : S B) (t : Nat) : s.root (2 * t + 2) = (s.tm.getD t (.agg [])).leaves := by
  show (if 2 * t % 2 = 0 then _ else _) = _
  rw [if_pos (by omega)]
  congr 2
  omega
theorem root_bx (s : S B) (t : Nat) : s.root (2 * t + 3) = s.bx.getD t [] := by
  show (if (2 * t + 1) % 2 = 0 then _ else _) = _
  rw [if_neg (by omega)]
  congr 1
  omega
theorem root_cases (r : Nat) : r = 0 ∨ r = 1 ∨ (∃ t, r = 2 * t + 2) ∨ ∃ t, r = 2 * t + 3 := by
  by_cases h0 : r = 0
  · exact .inl h0
  by_cases h1 : r = 1
  · exact .inr (.inl h1)
  by_cases h : r % 2 = 0
  · exact .inr (.inr (.inl ⟨(r - 2) / 2, by omega⟩))
  · exact .inr (.inr (.inr ⟨(r - 3) / 2, by omega⟩))
theorem map_leaves (f : VT B → VT B) (x : WT B) : (W.map f x).leaves = x.leaves.map f := by
  cases x with
  | one v => rfl
  | agg cs => rfl
  | tup vs => simp [W.map, W.leaves, List.map_flatten, Function.comp_def]
theorem root_map (s : S B) (f : VT B → VT B) (r : Nat) : (s.map f).root r = (s.root r).map f := by
  rcases root_cases r with rfl | rfl | ⟨t, rfl⟩ | ⟨t, rfl⟩
  · rfl
  · rfl
  · rw [root_tm, root_tm, ← map_leaves]
    simp only [S.map, List.getD_eq_getElem?_getD, List.getElem?_map]
    cases s.tm[t]? <;> simp [W.map]
  · rw [root_bx, root_bx]
    simp only [S.map, List.getD_eq_getElem?_getD, List.getElem?_map]
    cases s.bx[t]? <;> simp
theorem go_lengths (vs : List (Bool × List (VT B))) (l : List (VT B)) (h : l.length = (vs.map (·.2)).flatten.length) :
    ((W.remake.go vs l).map (·.2)).flatten = l ∧ (W.remake.go vs l).map (fun x => x.2.length) = vs.map (fun x => x.2.length) ∧ (W.remake.go vs l).map (·.1) = vs.map (·.1) := by
  induction vs generalizing l with
  | nil => simp at h; subst h; simp [W.remake.go]
  | cons x vs ih =>
    obtain ⟨b, cs⟩ := x
    simp only [List.map_cons, List.flatten_cons, List.length_append] at h
    obtain ⟨h1, h2, h3⟩ := ih (l.drop cs.length) (by rw [List.length_drop]; omega)
    simp only [W.remake.go, List.map_cons, List.flatten_cons, h1, h2, h3, List.take_append_drop, true_and]
    rw [List.length_take]
    simp
    omega
theorem remake_leaves (x : WT B) (l : List (VT B)) (h : l.length = x.leaves.length) : (x.remake l).leaves = l := by
  cases x with
  | one v =>
    match l, h with
    | [u], _ => rfl
  | agg cs => rfl
  | tup vs => exact (go_lengths vs l h).1
/-- The same form: what stands for a value stands for it with other leaves. -/
theorem WR.remake {x : WT B} {l : List (VT B)} {c : Value} {cs : List Value} (h : l.length = x.leaves.length) (hw : WR x c cs) : WR (x.remake l) c cs := by
  cases x with
  | one v => exact hw
  | agg l' => exact hw
  | tup vs =>
    obtain ⟨css, h1, h2, h3⟩ := hw
    obtain ⟨_, h5, h6⟩ := go_lengths vs l h
    refine ⟨css, h1, by rw [h2]; exact h5.symm, ?_⟩
    rw [h3]
    congr 2
    have key : ∀ (u v : List (Bool × List (VT B))) (z : List (List Value)), u.map (·.1) = v.map (·.1) →
        (u.zip z).map (fun x => if x.1.1 then Value.agg x.2.toArray else x.2.headD undef) = (v.zip z).map fun x => if x.1.1 then Value.agg x.2.toArray else x.2.headD undef := by
      intro u
      induction u with
      | nil => intro v z h; cases v with
        | nil => rfl
        | cons _ _ => simp at h
      | cons p u ih =>
        intro v z h
        cases v with
        | nil => simp at h
        | cons q v =>
          cases z with
          | nil => rfl
          | cons y z =>
            simp only [List.map_cons, List.cons.injEq] at h
            simp only [List.zip_cons_cons, List.map_cons, h.1]
            rw [ih v z h.2]
    exact key _ _ _ h6.symm
theorem WR.map {x : WT B} {f : VT B → VT B} {c : Value} {cs : List Value} (hw : WR x c cs) : WR (x.map f) c cs := by
  cases x with
  | one v => exact hw
  | agg l' => exact hw
  | tup vs =>
    obtain ⟨css, h1, h2, h3⟩ := hw
    refine ⟨css, h1, by rw [h2]; simp [Function.comp_def], ?_⟩
    rw [h3]
    congr 2
    have key : ∀ (u : List (Bool × List (VT B))) (z : List (List Value)),
        (u.zip z).map (fun x => if x.1.1 then Value.agg x.2.toArray else x.2.headD undef) = ((u.map fun x => (x.1, x.2.map f)).zip z).map fun x => if x.1.1 then Value.agg x.2.toArray else x.2.headD undef := by
      intro u
      induction u with
      | nil => intro z; rfl
      | cons p u ih => intro z; cases z with
        | nil => rfl
        | cons y z => simp only [List.zip_cons_cons, List.map_cons]; rw [ih z]
    exact key _ _
end
end Go.I

/-! ISem3 -/
set_option linter.unusedVariables false
set_option linter.unusedSimpArgs false
namespace Go.I
open Go.RowKit Go.Proofs.YtogfddilolannaaDoorW.PrintWords
section
variable {B : Tab}
theorem std_get {α : Type} (d : α) (l : List α) (i : Int) (h0 : 0 ≤ i) (h1 : i < l.length) : l[i.toNat]? = some (std.get d l i) := by
  have : i.toNat < l.length := by omega
  simp [std, List.getD_eq_getElem?_getD, List.getElem?_eq_getElem this]
/-- A leaf of an element of a row of one's own. -/
theorem own_at (H : TabE B) {w : World} {n : Nat} {e : TypeId} {l : List (B.T e)} {c : Value} {D : Nat → Prop} (h : Own w (n + 1) (.own e l : VT B) c D) (i : Int) (h0 : 0 ≤ i) (h1 : i < l.length) {off : Nat} {v : VT B}
    (hv : (B.enc e (std.get (B.dflt e) l i))[off]? = some v) :
    ∃ a cap u Dk, c = .slice (some a) l.length cap ∧ D a.block ∧ w.cell? (a.add (i.toNat * B.size e + off)) = some u ∧ Own w n v u Dk ∧ ∀ b, Dk b → D b := by
  obtain ⟨inner, hq, hb, Dk, h3, h4, h5⟩ := h
  have hx := std_get (B.dflt e) l i h0 h1
  obtain ⟨A, cap, rfl, hle⟩ := q_slice hq
  obtain ⟨a, rfl, hcell⟩ := q_cells hq (by omega)
  obtain ⟨h6, Dj, h7, h8, h9⟩ := h5 _ _ hx
  have hoff : off < (B.enc e (std.get (B.dflt e) l i)).length := (List.getElem?_eq_some_iff.1 hv).1
  have hsz : off < B.size e := by rw [← H.enc_len]; exact hoff
  obtain ⟨u, hu⟩ : ∃ u, ((inner.drop (i.toNat * B.size e)).take (B.size e))[off]? = some u := ⟨_, List.getElem?_eq_getElem (by rw [← h6]; exact hoff)⟩
  refine ⟨a, cap, u, Dj off, rfl, hb _ rfl, ?_, h7 _ _ _ hv hu, fun b hb => (h4 _ _ (h9 _ _ hb)).1⟩
  rw [List.getElem?_take, if_pos hsz, List.getElem?_drop] at hu
  exact hcell _ u hu
theorem AddrR.block (H : TabE B) {w : World} {st : List (Int × Nat)} : ∀ {n : Nat} {v : VT B} {c D ad}, AddrR w st v c ad → Own w n v c D → D ad.block := by
  induction st with
  | nil => intro n v c D ad h; exact h.elim
  | cons y st ih =>
    obtain ⟨i, off⟩ := y
    rintro n v c D ad ⟨e, l, rfl, a, cap, rfl, h0, h1, hs, h2⟩ ho
    cases n with
    | zero => exact ho.elim
    | succ n =>
      rcases h2 with ⟨_, rfl⟩ | ⟨_, v', u, hv, hu, hr⟩
      · rw [add_block]
        obtain ⟨inner, hq, hb, _⟩ := ho
        exact hb _ rfl
      · obtain ⟨a', cap', u', Dk, hc, hD, hu', hk, hsub⟩ := own_at H ho i h0 h1 hv
        injection hc with ha _ _
        injection ha with ha
        subst ha
        rw [hu] at hu'
        injection hu' with hu'
        subst hu'
        exact hsub _ (ih hr hk)
theorem AddrR.move (H : TabE B) {w w' : World} {st : List (Int × Nat)} : ∀ {n : Nat} {v : VT B} {c D ad}, AddrR w st v c ad → Own w n v c D → (∀ b, D b → w'.heap[b]? = w.heap[b]?) → AddrR w' st v c ad := by
  induction st with
  | nil => intro n v c D ad h; exact h.elim
  | cons y st ih =>
    obtain ⟨i, off⟩ := y
    rintro n v c D ad ⟨e, l, rfl, a, cap, rfl, h0, h1, hs, h2⟩ ho hD
    cases n with
    | zero => exact ho.elim
    | succ n =>
      refine ⟨e, l, rfl, a, cap, rfl, h0, h1, hs, ?_⟩
      rcases h2 with h2 | ⟨hne, v', u, hv, hu, hr⟩
      · exact .inl h2
      · obtain ⟨a', cap', u', Dk, hc, hDa, hu', hk, hsub⟩ := own_at H ho i h0 h1 hv
        injection hc with ha _ _
        injection ha with ha
        subst ha
        refine .inr ⟨hne, v', u, hv, (cell_same (by rw [add_block]; exact hD _ hDa)).trans hu, ?_⟩
        rw [hu] at hu'
        injection hu' with hu'
        subst hu'
        exact ih hr hk (fun b hb => hD b (hsub b hb))
theorem own_one {w : World} {n : Nat} {e : TypeId} {l : List (B.T e)} {c : Value} {D : Nat → Prop} (h : Own w n (.own e l : VT B) c D) : c.oneCell' = true := by
  cases n with
  | zero => exact h.elim
  | succ n => obtain ⟨inner, hq, _⟩ := h; obtain ⟨A, cap, rfl, _⟩ := q_slice hq; rfl
/-- What a leaf tells, told of another state. -/
theorem LeafR.move (H : TabE B) {X : Base B} {ok ok' : Nat → Prop} {Γ Γ' : Gh B} {β β' : Nat → Nat} {w w' : World} {v : VT B} {c : Value} {D : Nat → Prop} (h : LeafR X ok Γ β w v c D)
    (hok : ∀ b, ok b → ok' b ∧ w'.heap[b]? = w.heap[b]?) (hD : v.isOwn = true → ∀ b, D b → w'.heap[b]? = w.heap[b]?)
    (hat : ∀ p x, (v = .at p ∨ v = .ptr p ∧ p.st ≠ []) → (Γ p.r)[p.k]? = some x → x.v.isOwn = true → ∃ x', (Γ' p.r)[p.k]? = some x' ∧ x'.v = x.v ∧ x'.c = x.c ∧ ∃ D', LeafR X ok Γ β w x.v x.c D' ∧ ∀ b, D' b → w'.heap[b]? = w.heap[b]?)
    (hptr : ∀ p t, v = .ptr p → p.st = [] → p.r = 2 * t + 3 → Γ p.r ≠ [] → Γ' p.r ≠ [] ∧ β' t = β t) : LeafR X ok' Γ' β' w' v c D := by
  cases v with
  | lit u => exact h
  | imm e l => obtain ⟨n, h⟩ := h; exact ⟨n, (Imm.mono (fun b hb => (hok b hb).1) (Imm.move (fun b hb => (hok b hb).2) h))⟩
  | own e l => obtain ⟨n, h⟩ := h; exact ⟨n, Own.move h (hD rfl)⟩
  | bld s => exact BldR.move h (hD rfl)
  | pb i e x => exact PbX.move h hok (hD rfl)
  | dead => trivial
  | iptr e x off =>
    obtain ⟨ad, cs, n, h1, h2, h3, h4⟩ := h
    exact ⟨ad, cs, n, h1, (hok _ h2).1, h3.imp (fun v c hi => Imm.mono (fun b hb => (hok b hb).1) (Imm.move (fun b hb => (hok b hb).2) hi)), fun i u hu => (cell_same (by rw [add_block]; exact (hok _ h2).2)).trans (h4 i u hu)⟩
  | «at» p =>
    obtain ⟨h0, x, h1, h2, h3⟩ := h
    obtain ⟨x', k1, k2, k3, D', k4, k5⟩ := hat p x (.inl rfl) h1 h2
    refine ⟨h0, x', k1, by rw [k2]; exact h2, ?_⟩
    cases hst : p.st with
    | nil => rw [hst] at h3; simp only at h3 ⊢; rw [k3]; exact h3
    | cons y st =>
      rw [hst] at h3
      obtain ⟨ad, h4, h5, h6⟩ := h3
      cases hx : x.v with
      | own e l =>
        rw [hx] at k4
        obtain ⟨n, k4⟩ := k4
        rw [hx] at h4
        refine ⟨ad, ?_, (cell_same (k5 _ (AddrR.block H h4 k4))).trans h5, h6⟩
        rw [k2, k3, hx]
        exact AddrR.move H h4 k4 k5
      | bld s => rw [hx] at h4; obtain ⟨e, l, h7, _⟩ := h4; cases h7
      | pb e' x' => rw [hx] at h4; obtain ⟨e, l, h7, _⟩ := h4; cases h7
      | _ => rw [hx] at h2; simp [V.isOwn] at h2
  | ptr p =>
    cases hst : p.st with
    | nil =>
      simp only [LeafR, hst] at h ⊢
      obtain ⟨t, h1, h2, h3⟩ := h
      obtain ⟨k1, k2⟩ := hptr p t rfl hst h1 h2
      exact ⟨t, h1, k1, by rw [k2]; exact h3⟩
    | cons y st =>
      simp only [LeafR, hst] at h ⊢
      obtain ⟨h0, x, ad, h1, h2, h3⟩ := h
      cases hx : x.v with
      | own e l =>
        obtain ⟨x', k1, k2, k3, D', k4, k5⟩ := hat p x (.inr ⟨rfl, by simp [hst]⟩) h1 (by rw [hx]; rfl)
        rw [hx] at k4
        obtain ⟨n, k4⟩ := k4
        rw [hx] at h2
        refine ⟨h0, x', ad, k1, ?_, h3⟩
        rw [k2, k3, hx]
        exact AddrR.move H h2 k4 k5
      | _ => rw [hx] at h2; obtain ⟨_, _, h9, _⟩ := h2; cases h9
end
end Go.I

/-! ISem4 -/
set_option linter.unusedVariables false
set_option linter.unusedSimpArgs false
namespace Go.I
open Go.RowKit Go.Proofs.YtogfddilolannaaDoorW.PrintWords
section
variable {B : Tab}
def Alias (v : VT B) (p : Place) : Prop := v = .at p ∨ v = .ptr p ∧ p.st ≠ []
theorem Rel.pins {X : Base B} {s s' : S B} {a : Act} {w : World} {Γ Γ' : Gh B} {β β' : Nat → Nat} (h : Rel X s a w Γ β) (h1 : s'.tm.length = s.tm.length) (h2 : s'.bx.length = s.bx.length)
    (h3 : ∀ t, s.tm.length ≤ t → Γ (2 * t + 3) ≠ [] → Γ' (2 * t + 3) ≠ [] ∧ β' t = β t) : s'.tm.length ≤ s'.bx.length ∧ ∀ t b, X.pin t = some b → s'.tm.length ≤ t ∧ β' t = b ∧ Γ' (2 * t + 3) ≠ [] := by
  rw [h1, h2]
  refine ⟨h.bsize.1, fun t b ht => ?_⟩
  obtain ⟨k1, k2, k3⟩ := h.bsize.2 t b ht
  obtain ⟨k4, k5⟩ := h3 t k1 k3
  exact ⟨k1, k5.trans k2, k4⟩
/-- The general step: entries that stand already, entries that are new. -/
theorem Rel.next' (H : TabE B) {X : Base B} (g : List Value) {s s' : S B} {a a' : Act} {w w' : World} {Γ Γ' : Gh B} {β β' : Nat → Nat} (h : Rel X s a w Γ β)
    (dfr : a'.defers = []) (size : s'.tm.length = a'.tmps.size) (bsize : s'.tm.length ≤ s'.bx.length ∧ ∀ t b, X.pin t = some b → s'.tm.length ≤ t ∧ β' t = b ∧ Γ' (2 * t + 3) ≠ []) (root : ∀ r, s'.root r = vs (Γ' r))
    (tm : ∀ t x c, s'.tm[t]? = some x → a'.tmps[t]? = some c → WR x c (csOf (Γ' (2 * t + 2))))
    (bx : ∀ t, Γ' (2 * t + 3) ≠ [] → ∃ ty, w'.heap[β' t]? = some (.cells (csOf (Γ' (2 * t + 3))).toArray ty (0, 0)))
    (ent : ∀ r x, x ∈ Γ' r → (∃ r0, x ∈ Γ r0) ∨ LeafR X (okB X Γ' β' w') Γ' β' w' x.v x.c x.D)
    (ok : ∀ b, okB X Γ β w b → okB X Γ' β' w' b ∧ w'.heap[b]? = w.heap[b]?)
    (own : ∀ r x, x ∈ Γ' r → (∃ r0, x ∈ Γ r0) → x.v.isOwn = true → ∀ b, x.D b → w'.heap[b]? = w.heap[b]?)
    (ali : ∀ r x p, x ∈ Γ' r → (∃ r0, x ∈ Γ r0) → Alias x.v p → ∀ y, (Γ p.r)[p.k]? = some y → y.v.isOwn = true → (Γ' p.r)[p.k]? = some y)
    (ptr : ∀ r x p t, x ∈ Γ' r → (∃ r0, x ∈ Γ r0) → x.v = .ptr p → p.st = [] → p.r = 2 * t + 3 → Γ p.r ≠ [] → Γ' p.r ≠ [] ∧ β' t = β t)
    (disj : ∀ (r k r' k' : Nat) (x y : Ent B), (Γ' r)[k]? = some x → (Γ' r')[k']? = some y → ∀ b, x.D b → y.D b → r = r' ∧ k = k')
    (bdisj : ∀ r x t, x ∈ Γ' r → Γ' (2 * t + 3) ≠ [] → ¬ x.D (β' t))
    (binj : ∀ t u, Γ' (2 * t + 3) ≠ [] → Γ' (2 * u + 3) ≠ [] → β' t = β' u → t = u)
    (dlt : ∀ r x b, x ∈ Γ' r → x.D b → b < w'.heap.size ∧ (X.A0 b ∨ X.w0.heap.size ≤ b))
    (bnd : ∀ t, Γ' (2 * t + 3) ≠ [] → X.ro t (β' t) ∨ X.A0 (β' t) ∨ X.w0.heap.size ≤ β' t)
    (grow : X.w0.heap.size ≤ w'.heap.size) (keep : ∀ b, b < X.w0.heap.size → ¬ X.A0 b → w'.heap[b]? = X.w0.heap[b]?)
    (os : w'.os = X.w0.os) (tape : w'.tape = X.w0.tape) (output : w'.output = X.w0.output) (gh : csOf (Γ' 1) = g) : Rel { X with gh := g } s' a' w' Γ' β' where
  dfr := dfr
  size := size
  bsize := bsize
  root := root
  tm := tm
  bx := bx
  leaf := fun r x hx => by
    rcases ent r x hx with ho | hn
    · obtain ⟨r0, ho⟩ := ho
      refine (h.leaf r0 x ho).move H ok (own r x hx ⟨r0, ho⟩) (fun p y hp hy hyo => ?_) (fun p t hp hst hr hne => ptr r x p t hx ⟨r0, ho⟩ hp hst hr hne)
      have hy' := ali r x p hx ⟨r0, ho⟩ hp y hy hyo
      refine ⟨y, hy', rfl, rfl, y.D, h.leaf _ y (List.mem_of_getElem? hy), own _ y (List.mem_of_getElem? hy') ⟨_, List.mem_of_getElem? hy⟩ hyo⟩
    · exact hn
  disj := disj
  bdisj := bdisj
  binj := binj
  dlt := dlt
  bnd := bnd
  grow := grow
  keep := keep
  os := os
  tape := tape
  output := output
  gh := gh
  gl := ⟨fun b hb => (ok b (h.gl.1 b hb)).1, H.glob_keep _ _ h.gl.2 fun b hb => (ok b (h.gl.1 b hb)).2⟩
theorem Rel.next (H : TabE B) {X : Base B} {s s' : S B} {a a' : Act} {w w' : World} {Γ Γ' : Gh B} {β β' : Nat → Nat} (h : Rel X s a w Γ β)
    (dfr : a'.defers = []) (size : s'.tm.length = a'.tmps.size) (bsize : s'.tm.length ≤ s'.bx.length ∧ ∀ t b, X.pin t = some b → s'.tm.length ≤ t ∧ β' t = b ∧ Γ' (2 * t + 3) ≠ []) (root : ∀ r, s'.root r = vs (Γ' r))
    (tm : ∀ t x c, s'.tm[t]? = some x → a'.tmps[t]? = some c → WR x c (csOf (Γ' (2 * t + 2))))
    (bx : ∀ t, Γ' (2 * t + 3) ≠ [] → ∃ ty, w'.heap[β' t]? = some (.cells (csOf (Γ' (2 * t + 3))).toArray ty (0, 0)))
    (ent : ∀ r x, x ∈ Γ' r → (∃ r0, x ∈ Γ r0) ∨ LeafR X (okB X Γ' β' w') Γ' β' w' x.v x.c x.D)
    (ok : ∀ b, okB X Γ β w b → okB X Γ' β' w' b ∧ w'.heap[b]? = w.heap[b]?)
    (own : ∀ r x, x ∈ Γ' r → (∃ r0, x ∈ Γ r0) → x.v.isOwn = true → ∀ b, x.D b → w'.heap[b]? = w.heap[b]?)
    (ali : ∀ r x p, x ∈ Γ' r → (∃ r0, x ∈ Γ r0) → Alias x.v p → ∀ y, (Γ p.r)[p.k]? = some y → y.v.isOwn = true → (Γ' p.r)[p.k]? = some y)
    (ptr : ∀ r x p t, x ∈ Γ' r → (∃ r0, x ∈ Γ r0) → x.v = .ptr p → p.st = [] → p.r = 2 * t + 3 → Γ p.r ≠ [] → Γ' p.r ≠ [] ∧ β' t = β t)
    (disj : ∀ (r k r' k' : Nat) (x y : Ent B), (Γ' r)[k]? = some x → (Γ' r')[k']? = some y → ∀ b, x.D b → y.D b → r = r' ∧ k = k')
    (bdisj : ∀ r x t, x ∈ Γ' r → Γ' (2 * t + 3) ≠ [] → ¬ x.D (β' t))
    (binj : ∀ t u, Γ' (2 * t + 3) ≠ [] → Γ' (2 * u + 3) ≠ [] → β' t = β' u → t = u)
    (dlt : ∀ r x b, x ∈ Γ' r → x.D b → b < w'.heap.size ∧ (X.A0 b ∨ X.w0.heap.size ≤ b))
    (bnd : ∀ t, Γ' (2 * t + 3) ≠ [] → X.ro t (β' t) ∨ X.A0 (β' t) ∨ X.w0.heap.size ≤ β' t)
    (grow : X.w0.heap.size ≤ w'.heap.size) (keep : ∀ b, b < X.w0.heap.size → ¬ X.A0 b → w'.heap[b]? = X.w0.heap[b]?)
    (os : w'.os = X.w0.os) (tape : w'.tape = X.w0.tape) (output : w'.output = X.w0.output) (gh : csOf (Γ' 1) = csOf (Γ 1)) : Rel X s' a' w' Γ' β' :=
  h.next' H X.gh dfr size bsize root tm bx ent ok own ali ptr disj bdisj binj dlt bnd grow keep os tape output (gh.trans h.gh)
theorem okB.lt {X : Base B} {Γ : Gh B} {β w b} (h : okB X Γ β w b) : b < w.heap.size := h.1
/-- Blocks may be read for good, where none more are written. -/
theorem okB.imp {X : Base B} {Γ Γ' : Gh B} {β β' w w'} {b : Nat} (h : okB X Γ β w b) (hs : w.heap.size ≤ w'.heap.size)
    (hD : ∀ r x, x ∈ Γ' r → x.D b → (∃ r0 x0, x0 ∈ Γ r0 ∧ x0.D b) ∨ w.heap.size ≤ b) (hb : ∀ t, Γ' (2 * t + 3) ≠ [] → β' t = b → (Γ (2 * t + 3) ≠ [] ∧ β t = b) ∨ w.heap.size ≤ b) : okB X Γ' β' w' b := by
  obtain ⟨h1, h2, h3, h4⟩ := h
  refine ⟨Nat.lt_of_lt_of_le h1 hs, h2, fun r x hx hd => ?_, fun t ht he => ?_⟩
  · rcases hD r x hx hd with ⟨r0, x0, h5, h6⟩ | h5
    · exact h3 r0 x0 h5 h6
    · omega
  · rcases hb t ht he.symm with ⟨h5, h6⟩ | h5
    · exact h4 t h5 h6.symm
    · omega
theorem vs_length (l : List (Ent B)) : (vs l).length = l.length := List.length_map ..
theorem cs_length (l : List (Ent B)) : (csOf l).length = l.length := List.length_map ..
theorem Rel.tmLeaves {X : Base B} {s : S B} {a w Γ β} (h : Rel X s a w Γ β) {t : Nat} {x : WT B} (hx : s.tm[t]? = some x) : x.leaves = vs (Γ (2 * t + 2)) := by
  rw [← h.root, root_tm, List.getD_eq_getElem?_getD, hx]
  rfl
/-- Who tells of an entry tells of one's own. -/
theorem Rel.aliasOwn {X : Base B} {s : S B} {a w Γ β} (h : Rel X s a w Γ β) {r x p} (hx : x ∈ Γ r) (hp : Alias x.v p) : p.r ≠ 0 ∧ ∃ y, (Γ p.r)[p.k]? = some y ∧ y.v.isOwn = true := by
  have hl := h.leaf r x hx
  rcases hp with hp | ⟨hp, hst⟩
  · rw [hp] at hl
    obtain ⟨h0, y, h1, h2, _⟩ := hl
    exact ⟨h0, y, h1, h2⟩
  · rw [hp] at hl
    simp only [LeafR] at hl
    cases hs : p.st with
    | nil => exact absurd hs hst
    | cons z st =>
      rw [hs] at hl
      obtain ⟨h0, y, ad, h1, h2, _⟩ := hl
      obtain ⟨e, l, h3, _⟩ := h2
      exact ⟨h0, y, h1, by rw [h3]; rfl⟩
def NoAlias (Γ : Gh B) (r0 : Nat) : Prop := ∀ r x p, x ∈ Γ r → Alias x.v p → p.r ≠ r0
theorem Rel.noAlias {X : Base B} {s : S B} {a w Γ β} (h : Rel X s a w Γ β) {r0 : Nat} (hno : (s.root r0).any V.isOwn = false) : NoAlias Γ r0 := by
  intro r x p hx hp he
  obtain ⟨_, y, h1, h2⟩ := h.aliasOwn hx hp
  subst he
  rw [h.root] at hno
  have := List.any_eq_false.1 hno y.v (List.mem_map.2 ⟨y, List.mem_of_getElem? h1, rfl⟩)
  exact this h2
/-- Leaves that tell of nothing more. -/
theorem Rel.map (H : TabE B) {X : Base B} {s : S B} {a w Γ β} (h : Rel X s a w Γ β) (f : VT B → VT B) (hf : ∀ v, f v = v ∨ f v = .dead) (hown : ∀ v, v.isOwn = true → f v = v) :
    Rel X (s.map f) a w (fun r => (Γ r).map fun x => { x with v := f x.v }) β := by
  have hmem : ∀ r x, x ∈ (Γ r).map (fun x : Ent B => { x with v := f x.v }) → ∃ y, y ∈ Γ r ∧ x.c = y.c ∧ x.D = y.D ∧ x.v = f y.v := by
    intro r x hx
    obtain ⟨y, hy, rfl⟩ := List.mem_map.1 hx
    exact ⟨y, hy, rfl, rfl, rfl⟩
  have hcs : ∀ r, csOf ((Γ r).map fun x : Ent B => { x with v := f x.v }) = csOf (Γ r) := fun r => by simp [csOf, Function.comp_def]
  have hne : ∀ r, (Γ r).map (fun x : Ent B => { x with v := f x.v }) ≠ [] ↔ Γ r ≠ [] := fun r => by simp
  have hok : ∀ b, okB X (fun r => (Γ r).map fun x => { x with v := f x.v }) β w b ↔ okB X Γ β w b := by
    intro b
    constructor
    · rintro ⟨h1, h2, h3, h4⟩
      exact ⟨h1, h2, fun r x hx => h3 r { x with v := f x.v } (List.mem_map.2 ⟨x, hx, rfl⟩), fun t ht => h4 t ((hne _).2 ht)⟩
    · rintro ⟨h1, h2, h3, h4⟩
      exact ⟨h1, h2, fun r x hx => by obtain ⟨y, hy, _, e, _⟩ := hmem r x hx; rw [e]; exact h3 r y hy, fun t ht => h4 t ((hne _).1 ht)⟩
  refine { dfr := h.dfr, size := ?_, bsize := ?_, root := ?_, tm := ?_, bx := ?_, leaf := ?_, disj := ?_, bdisj := ?_, binj := ?_, dlt := ?_, bnd := ?_, grow := h.grow, keep := h.keep, os := h.os, tape := h.tape, output := h.output, gh := (hcs 1).trans h.gh, gl := ⟨fun b hb => (hok b).2 (h.gl.1 b hb), h.gl.2⟩ }
  · simpa [S.map] using h.size
  · refine h.pins (Γ' := fun r => (Γ r).map fun x : Ent B => { x with v := f x.v }) (s' := s.map f) (by simp [S.map]) (by simp [S.map]) fun t _ ht => ⟨?_, rfl⟩
    simpa using ht
  · intro r
    rw [root_map, h.root]
    simp [vs, Function.comp_def]
  · intro t x c hx hc
    simp only [S.map, List.getElem?_map, Option.map_eq_some_iff] at hx
    obtain ⟨y, hy, rfl⟩ := hx
    rw [hcs]
    exact (h.tm t y c hy hc).map
  · intro t ht
    rw [hcs]
    exact h.bx t ((hne _).1 ht)
  · intro r x hx
    obtain ⟨y, hy, ec, eD, ev⟩ := hmem r x hx
    rw [ec, eD, ev]
    rcases hf y.v with e | e
    · rw [e]
      refine (h.leaf r y hy).move H (fun b hb => ⟨(hok b).2 hb, rfl⟩) (fun _ _ _ => rfl) (fun p z hp hz hzo => ?_) (fun p t hp hst hr hg => ⟨(hne _).2 hg, rfl⟩)
      exact ⟨{ z with v := f z.v }, by simp [hz], hown _ hzo, rfl, z.D, h.leaf _ z (List.mem_of_getElem? hz), fun _ _ => rfl⟩
    · rw [e]; trivial
  · intro r k r' k' x y hx hy b hb hb'
    simp only [List.getElem?_map, Option.map_eq_some_iff] at hx hy
    obtain ⟨x', hx, rfl⟩ := hx
    obtain ⟨y', hy, rfl⟩ := hy
    exact h.disj r k r' k' x' y' hx hy b hb hb'
  · intro r x t hx ht
    obtain ⟨y, hy, _, e, _⟩ := hmem r x hx
    rw [e]
    exact h.bdisj r y t hy ((hne _).1 ht)
  · exact fun t u ht hu => h.binj t u ((hne _).1 ht) ((hne _).1 hu)
  · intro r x b hx hb
    obtain ⟨y, hy, _, e, _⟩ := hmem r x hx
    rw [e] at hb
    exact h.dlt r y b hy hb
  · exact fun t ht => h.bnd t ((hne _).1 ht)
theorem kill_same (r k : Nat) (v : VT B) : V.kill r k v = v ∨ V.kill r k v = .dead := by
  cases v <;> simp only [V.kill] <;> first | exact .inl trivial | (split <;> simp)
theorem kill_own (r k : Nat) (v : VT B) (h : v.isOwn = true) : V.kill r k v = v := by
  cases v <;> first | rfl | simp [V.isOwn] at h
theorem killE_same (r k : Nat) (v : VT B) : V.killE r k v = v ∨ V.killE r k v = .dead := by
  unfold V.killE; split <;> first | exact .inl rfl | (split <;> first | exact .inr rfl | exact .inl rfl)
theorem killE_own (r k : Nat) (v : VT B) (h : v.isOwn = true) : V.killE r k v = v := by
  cases v <;> simp_all [V.killE, V.isOwn]
theorem killE_alias {r k : Nat} {v : VT B} {p : Place} (h : Alias (V.killE r k v) p) : ¬ (p.r = r ∧ p.k = k) ∨ (V.killE r k v = .at p ∧ p.st = []) := by
  by_cases hst : p.st = []
  · rcases h with h | ⟨h, h'⟩
    · exact .inr ⟨h, hst⟩
    · exact absurd hst h'
  · refine .inl fun e => ?_
    rcases killE_same r k v with h1 | h1
    · rw [h1] at h
      rcases h with h | ⟨h, _⟩
      · rw [h] at h1
        simp only [V.killE, e, hst, ne_eq, not_false_eq_true, and_self, if_true] at h1
        cases h1
      · rw [h] at h1
        simp only [V.killE, e, hst, ne_eq, not_false_eq_true, and_self, if_true] at h1
        cases h1
    · rw [h1] at h
      rcases h with h | ⟨h, _⟩ <;> cases h
theorem killR_same (r : Nat) (v : VT B) : V.killR r v = v ∨ V.killR r v = .dead := by
  cases v <;> simp only [V.killR] <;> first | exact .inl trivial | (split <;> simp)
theorem killR_own (r : Nat) (v : VT B) (h : v.isOwn = true) : V.killR r v = v := by
  cases v <;> first | rfl | simp [V.isOwn] at h
theorem kill_alias {r k : Nat} {v : VT B} {p : Place} (h : Alias (V.kill r k v) p) : ¬ (p.r = r ∧ p.k = k) := by
  rintro ⟨h1, h2⟩
  cases v with
  | «at» q =>
    simp only [V.kill] at h
    split at h
    · rcases h with h | ⟨h, _⟩ <;> cases h
    · rcases h with h | ⟨h, _⟩
      · rename_i hn; injection h with h; subst h; exact hn ⟨h1, h2⟩
      · cases h
  | ptr q =>
    simp only [V.kill] at h
    split at h
    · rcases h with h | ⟨h, _⟩ <;> cases h
    · rcases h with h | ⟨h, hs⟩
      · cases h
      · rename_i hn; injection h with h; subst h; exact hn ⟨h1, h2, hs⟩
  | _ => rcases h with h | ⟨h, _⟩ <;> cases h
theorem killR_alias {r : Nat} {v : VT B} {p : Place} (h : Alias (V.killR r v) p ∨ V.killR r v = .ptr p) : p.r ≠ r := by
  intro h1
  cases v with
  | «at» q =>
    simp only [V.killR] at h
    split at h
    · rcases h with (h | ⟨h, _⟩) | h <;> cases h
    · rcases h with (h | ⟨h, _⟩) | h
      · rename_i hn; injection h with h; subst h; exact hn h1
      · cases h
      · cases h
  | ptr q =>
    simp only [V.killR] at h
    split at h
    · rcases h with (h | ⟨h, _⟩) | h <;> cases h
    · rcases h with (h | ⟨h, hs⟩) | h
      · cases h
      · rename_i hn; injection h with h; subst h; exact hn h1
      · rename_i hn; injection h with h; subst h; exact hn h1
  | _ => rcases h with (h | ⟨h, _⟩) | h <;> cases h
end
end Go.I

/-! ISem5 -/
set_option linter.unusedVariables false
set_option linter.unusedSimpArgs false
namespace Go.I
open Go.RowKit Go.Proofs.YtogfddilolannaaDoorW.PrintWords
section
variable {B : Tab}
def setG (Γ : Gh B) (r : Nat) (l : List (Ent B)) : Gh B := fun q => if q = r then l else Γ q
theorem setG_same (Γ : Gh B) (r : Nat) (l : List (Ent B)) : setG Γ r l r = l := by simp [setG]
theorem setG_ne (Γ : Gh B) {r q : Nat} (l : List (Ent B)) (h : q ≠ r) : setG Γ r l q = Γ q := by simp [setG, h]
def none_ : Nat → Prop := fun _ => False
theorem root_hd (s : S B) (h : List (VT B)) (r : Nat) : ({ s with hd := h } : S B).root r = if r = 0 then h else s.root r := by
  rcases root_cases r with rfl | rfl | ⟨t, rfl⟩ | ⟨t, rfl⟩
  · rfl
  · rfl
  · rw [root_tm, root_tm, if_neg (by omega)]
  · rw [root_bx, root_bx, if_neg (by omega)]
/-- One leaf more in the hand, with nothing of its own. -/
theorem Rel.push (H : TabE B) {X : Base B} {s : S B} {a w Γ β} (h : Rel X s a w Γ β) {v : VT B} {c : Value} (hl : LeafR X (okB X Γ β w) Γ β w v c none_) :
    Rel X { s with hd := s.hd ++ [v] } a w (setG Γ 0 (Γ 0 ++ [⟨v, c, none_⟩])) β := by
  have hmem : ∀ r x, x ∈ setG Γ 0 (Γ 0 ++ [⟨v, c, none_⟩]) r → x ∈ Γ r ∨ r = 0 ∧ x = ⟨v, c, none_⟩ := by
    intro r x hx
    by_cases hr : r = 0
    · subst hr
      rw [setG_same] at hx
      rcases List.mem_append.1 hx with hx | hx
      · exact .inl hx
      · exact .inr ⟨rfl, by simpa using hx⟩
    · rw [setG_ne _ _ hr] at hx
      exact .inl hx
  have hget : ∀ (r k : Nat) (y : Ent B), (Γ r)[k]? = some y → (setG Γ 0 (Γ 0 ++ [⟨v, c, none_⟩]) r)[k]? = some y := by
    intro r k y hy
    by_cases hr : r = 0
    · subst hr
      rw [setG_same, List.getElem?_append_left (List.getElem?_eq_some_iff.1 hy).1]
      exact hy
    · rw [setG_ne _ _ hr]; exact hy
  have hbx : ∀ t, setG Γ 0 (Γ 0 ++ [⟨v, c, none_⟩]) (2 * t + 3) = Γ (2 * t + 3) := fun t => setG_ne _ _ (by omega)
  have hok : ∀ b, okB X Γ β w b → okB X (setG Γ 0 (Γ 0 ++ [⟨v, c, none_⟩])) β w b := by
    intro b hb
    refine hb.imp (Nat.le_refl _) (fun r x hx hd => ?_) (fun t ht he => .inl ⟨by rw [← hbx]; exact ht, he⟩)
    rcases hmem r x hx with hx | ⟨_, rfl⟩
    · exact .inl ⟨r, x, hx, hd⟩
    · exact hd.elim
  refine h.next H h.dfr h.size (h.pins (Γ' := setG Γ 0 (Γ 0 ++ [⟨v, c, none_⟩])) rfl rfl fun t _ ht => ⟨by rw [setG_ne _ _ (by omega)]; exact ht, rfl⟩) ?_ ?_ ?_ ?_ (fun b hb => ⟨hok b hb, rfl⟩) (fun _ _ _ _ _ _ _ => rfl) (fun r x p hx _ hp y hy _ => hget _ _ _ hy) ?_ ?_ ?_ ?_ ?_ ?_ h.grow h.keep h.os h.tape h.output (by rw [setG_ne _ _ (by omega)])
  · intro r
    rw [root_hd]
    by_cases hr : r = 0
    · subst hr
      rw [if_pos rfl, setG_same]
      show s.hd ++ [v] = vs (Γ 0 ++ [⟨v, c, none_⟩])
      rw [show s.hd = vs (Γ 0) from h.root 0]
      simp [vs]
    · rw [if_neg hr, setG_ne _ _ hr, h.root]
  · intro t x c' hx hc
    rw [setG_ne _ _ (by omega)]
    exact h.tm t x c' hx hc
  · intro t ht
    rw [hbx] at ht ⊢
    exact h.bx t ht
  · intro r x hx
    rcases hmem r x hx with hx | ⟨_, rfl⟩
    · exact .inl ⟨r, hx⟩
    · refine .inr (hl.move H (fun b hb => ⟨hok b hb, rfl⟩) (fun _ b hb => hb.elim) (fun p y hp hy hyo => ⟨y, hget _ _ _ hy, rfl, rfl, y.D, h.leaf _ y (List.mem_of_getElem? hy), fun _ _ => rfl⟩) (fun p t hp hst hr hg => ⟨?_, rfl⟩))
      rw [hr, hbx, ← hr]
      exact hg
  · intro r x p t hx _ hp hst hr hg
    rw [hr, hbx, ← hr]
    exact ⟨hg, rfl⟩
  · intro r k r' k' x y hx hy b hb hb'
    have key : ∀ (r k : Nat) (x : Ent B), (setG Γ 0 (Γ 0 ++ [⟨v, c, none_⟩]) r)[k]? = some x → x.D b → (Γ r)[k]? = some x := by
      intro r k x hx hb
      by_cases hr : r = 0
      · subst hr
        rw [setG_same, List.getElem?_append] at hx
        split at hx
        · exact hx
        · have := List.mem_of_getElem? hx
          simp at this
          subst this
          exact hb.elim
      · rw [setG_ne _ _ hr] at hx; exact hx
    exact h.disj r k r' k' x y (key r k x hx hb) (key r' k' y hy hb') b hb hb'
  · intro r x t hx ht
    rw [hbx] at ht
    rcases hmem r x hx with hx | ⟨_, rfl⟩
    · exact h.bdisj r x t hx ht
    · exact fun e => e
  · intro t u ht hu
    rw [hbx] at ht hu
    exact h.binj t u ht hu
  · intro r x b hx hb
    rcases hmem r x hx with hx | ⟨_, rfl⟩
    · exact h.dlt r x b hx hb
    · exact hb.elim
  · intro t ht
    rw [hbx] at ht
    exact h.bnd t ht
theorem root_setTm (s : S B) (d : Nat) (x : WT B) (r : Nat) : ({ s with tm := setAt s.tm d x } : S B).root r = if r = 2 * d + 2 ∧ d < s.tm.length then x.leaves else s.root r := by
  rcases root_cases r with rfl | rfl | ⟨t, rfl⟩ | ⟨t, rfl⟩
  · simp [S.root]
  · rw [if_neg (by omega)]; rfl
  · rw [root_tm, root_tm]
    simp only [setAt_eq, List.getD_eq_getElem?_getD, List.getElem?_set]
    by_cases hd : d = t
    · subst hd
      by_cases hl : d < s.tm.length
      · simp [hl]
      · simp [hl]
    · rw [if_neg hd, if_neg (by omega)]
  · rw [root_bx, root_bx, if_neg (by omega)]
theorem root_setBx (s : S B) (d : Nat) (x : List (VT B)) (r : Nat) : ({ s with bx := setAt s.bx d x } : S B).root r = if r = 2 * d + 3 ∧ d < s.bx.length then x else s.root r := by
  rcases root_cases r with rfl | rfl | ⟨t, rfl⟩ | ⟨t, rfl⟩
  · simp [S.root]
  · rw [if_neg (by omega)]; rfl
  · rw [root_tm, root_tm, if_neg (by omega)]
  · rw [root_bx, root_bx]
    simp only [setAt_eq, List.getD_eq_getElem?_getD, List.getElem?_set]
    by_cases hd : d = t
    · subst hd
      by_cases hl : d < s.bx.length
      · simp [hl]
      · simp [hl]
    · rw [if_neg hd, if_neg (by omega)]
/-- A tmp is written anew with leaves that own nothing. -/
theorem Rel.defT (H : TabE B) {X : Base B} {s : S B} {a w Γ β} (h : Rel X s a w Γ β) {d : Nat} {x : WT B} {c : Value} {E : List (Ent B)} (hE : x.leaves = vs E) (hw : WR x c (csOf E))
    (hl : ∀ y ∈ E, LeafR X (okB X Γ β w) Γ β w y.v y.c y.D ∧ (∀ b, ¬ y.D b)) (hna : NoAlias Γ (2 * d + 2)) (hne : ∀ y ∈ E, ∀ p, Alias y.v p → p.r ≠ 2 * d + 2) (hd : d < s.tm.length) :
    Rel X { s with tm := setAt s.tm d x } (a.put (some d) c) w (setG Γ (2 * d + 2) E) β := by
  have hmem : ∀ r y, y ∈ setG Γ (2 * d + 2) E r → (r ≠ 2 * d + 2 ∧ y ∈ Γ r) ∨ r = 2 * d + 2 ∧ y ∈ E := by
    intro r y hy
    by_cases hr : r = 2 * d + 2
    · subst hr
      rw [setG_same] at hy
      exact .inr ⟨rfl, hy⟩
    · rw [setG_ne _ _ hr] at hy
      exact .inl ⟨hr, hy⟩
  have hbx : ∀ t, setG Γ (2 * d + 2) E (2 * t + 3) = Γ (2 * t + 3) := fun t => setG_ne _ _ (by omega)
  have hok : ∀ b, okB X Γ β w b → okB X (setG Γ (2 * d + 2) E) β w b := by
    intro b hb
    refine hb.imp (Nat.le_refl _) (fun r y hy hD => ?_) (fun t ht he => .inl ⟨by rw [← hbx]; exact ht, he⟩)
    rcases hmem r y hy with ⟨_, hy⟩ | ⟨_, hy⟩
    · exact .inl ⟨r, y, hy, hD⟩
    · exact ((hl y hy).2 b hD).elim
  refine h.next H (by simpa [Act.put] using h.dfr) (by simp [setAt_eq, Act.put, h.size]) (h.pins (Γ' := setG Γ (2 * d + 2) E) (by simp [setAt_eq]) rfl fun t _ ht => ⟨by rw [setG_ne _ _ (by omega)]; exact ht, rfl⟩) ?_ ?_ ?_ ?_ (fun b hb => ⟨hok b hb, rfl⟩) (fun _ _ _ _ _ _ _ => rfl) ?_ ?_ ?_ ?_ ?_ ?_ ?_ h.grow h.keep h.os h.tape h.output (by rw [setG_ne _ _ (by omega)])
  · intro r
    rw [root_setTm]
    by_cases hr : r = 2 * d + 2
    · subst hr
      rw [if_pos ⟨rfl, hd⟩, setG_same, hE]
    · rw [if_neg (fun e => hr e.1), setG_ne _ _ hr, h.root]
  · intro t y c' hy hc
    simp only [setAt_eq, List.getElem?_set] at hy
    simp only [Act.put, Array.getElem?_setIfInBounds] at hc
    by_cases hdt : d = t
    · subst hdt
      rw [if_pos rfl, if_pos hd] at hy
      injection hy with hy
      subst hy
      rw [if_pos rfl, if_pos (by rw [← h.size]; exact hd)] at hc
      injection hc with hc
      subst hc
      rw [setG_same]
      exact hw
    · rw [if_neg hdt] at hy
      rw [if_neg hdt] at hc
      rw [setG_ne _ _ (by omega)]
      exact h.tm t y c' hy hc
  · intro t ht
    rw [hbx] at ht ⊢
    exact h.bx t ht
  · intro r y hy
    rcases hmem r y hy with ⟨_, hy⟩ | ⟨_, hy⟩
    · exact .inl ⟨r, hy⟩
    · refine .inr ((hl y hy).1.move H (fun b hb => ⟨hok b hb, rfl⟩) (fun _ b hb => ((hl y hy).2 b hb).elim) (fun p z hp hz hzo => ⟨z, ?_, rfl, rfl, z.D, h.leaf _ z (List.mem_of_getElem? hz), fun _ _ => rfl⟩) (fun p t hp hst hr hg => ⟨?_, rfl⟩))
      · rw [setG_ne _ _ (hne y hy p hp)]
        exact hz
      · rw [hr, hbx, ← hr]
        exact hg
  · intro r y p hy ho hp z hz _
    obtain ⟨r0, ho⟩ := ho
    rw [setG_ne _ _ (hna r0 y p ho hp)]
    exact hz
  · intro r y p t hy _ hp hst hr hg
    rw [hr, hbx, ← hr]
    exact ⟨hg, rfl⟩
  · intro r k r' k' y z hy hz b hb hb'
    have key : ∀ (r k : Nat) (y : Ent B), (setG Γ (2 * d + 2) E r)[k]? = some y → y.D b → (Γ r)[k]? = some y := by
      intro r k y hy hb
      by_cases hr : r = 2 * d + 2
      · subst hr
        rw [setG_same] at hy
        exact ((hl y (List.mem_of_getElem? hy)).2 b hb).elim
      · rw [setG_ne _ _ hr] at hy
        exact hy
    exact h.disj r k r' k' y z (key r k y hy hb) (key r' k' z hz hb') b hb hb'
  · intro r y t hy ht
    rw [hbx] at ht
    rcases hmem r y hy with ⟨_, hy⟩ | ⟨_, hy⟩
    · exact h.bdisj r y t hy ht
    · exact (hl y hy).2 _
  · intro t u ht hu
    rw [hbx] at ht hu
    exact h.binj t u ht hu
  · intro r y b hy hb
    rcases hmem r y hy with ⟨_, hy⟩ | ⟨_, hy⟩
    · exact h.dlt r y b hy hb
    · exact ((hl y hy).2 b hb).elim
  · intro t ht
    rw [hbx] at ht
    exact h.bnd t ht
/-- A box is told of no more. -/
theorem Rel.dropB (H : TabE B) {X : Base B} {s : S B} {a w Γ β} (h : Rel X s a w Γ β) (d : Nat) : ∃ Γ', Rel X (s.dropB d) a w Γ' β ∧ (s.hd = [] → (s.dropB d).hd = []) ∧ (s.dropB d).tm.length = s.tm.length := by
  unfold S.dropB
  split
  rename_i hd
  · have h1 := h.map H (V.killR (2 * d + 3)) (killR_same _) (killR_own _)
    generalize hG : (fun r => (Γ r).map fun x : Ent B => { x with v := V.killR (2 * d + 3) x.v }) = G at h1
    have hal : ∀ q x p, x ∈ G q → (Alias x.v p ∨ x.v = .ptr p) → p.r ≠ 2 * d + 3 := by
      intro q x p hx hp
      rw [← hG] at hx
      obtain ⟨y, hy, rfl⟩ := List.mem_map.1 hx
      exact killR_alias hp
    have hl : (s.map (V.killR (2 * d + 3))).tm.length = s.tm.length := by simp [S.map]
    have hdb : d < (s.map (V.killR (2 * d + 3))).bx.length := by have := h1.bsize.1; omega
    have hmem : ∀ r y, y ∈ setG G (2 * d + 3) [] r → r ≠ 2 * d + 3 ∧ y ∈ G r := by
      intro r y hy
      by_cases hr : r = 2 * d + 3
      · subst hr
        rw [setG_same] at hy
        cases hy
      · rw [setG_ne _ _ hr] at hy
        exact ⟨hr, hy⟩
    have hget : ∀ (r k : Nat) y, (setG G (2 * d + 3) [] r)[k]? = some y → (G r)[k]? = some y := by
      intro r k y hy
      have := (hmem r y (List.mem_of_getElem? hy)).1
      rwa [setG_ne _ _ this] at hy
    have hbx : ∀ t, setG G (2 * d + 3) [] (2 * t + 3) ≠ [] → t ≠ d ∧ setG G (2 * d + 3) [] (2 * t + 3) = G (2 * t + 3) := by
      intro t ht
      by_cases e : t = d
      · subst e; rw [setG_same] at ht; exact absurd rfl ht
      · exact ⟨e, setG_ne _ _ (by omega)⟩
    refine ⟨setG G (2 * d + 3) [], ?_, fun e => by show (s.map (V.killR (2 * d + 3))).hd = []; simp [S.map, e], hl⟩
    refine h1.next (s' := { s.killR (2 * d + 3) with bx := setAt (s.killR (2 * d + 3)).bx d [] }) (a' := a) (w' := w) (β' := β) H h1.dfr h1.size
      (h1.pins (s' := { s.killR (2 * d + 3) with bx := setAt (s.killR (2 * d + 3)).bx d [] }) (β' := β) (Γ' := setG G (2 * d + 3) []) rfl (by simp [setAt_eq, S.killR]) fun t ht hne => ⟨by rw [setG_ne _ _ (by rw [hl] at ht; omega)]; exact hne, rfl⟩) ?_ ?_ ?_ (fun r x hx => .inl ⟨r, (hmem r x hx).2⟩) ?_ (fun _ _ _ _ _ _ _ => rfl) ?_ ?_ ?_ ?_ ?_ ?_ ?_ h1.grow h1.keep h1.os h1.tape h1.output (by rw [setG_ne _ _ (by omega)])
    · intro r
      show ({ s.map (V.killR (2 * d + 3)) with bx := setAt (s.map (V.killR (2 * d + 3))).bx d [] } : S B).root r = _
      rw [root_setBx]
      by_cases hr : r = 2 * d + 3
      · subst hr
        rw [if_pos ⟨rfl, hdb⟩, setG_same]
        rfl
      · rw [if_neg (fun e => hr e.1), setG_ne _ _ hr, h1.root]
    · intro t y c hy hc
      rw [setG_ne _ _ (by omega)]
      exact h1.tm t y c hy hc
    · intro t ht
      obtain ⟨_, e⟩ := hbx t ht
      rw [e] at ht ⊢
      exact h1.bx t ht
    · intro b hb
      exact ⟨hb.imp (Nat.le_refl _) (fun r y hy hD => .inl ⟨r, y, (hmem r y hy).2, hD⟩) (fun t ht he => .inl ⟨by rw [← (hbx t ht).2]; exact ht, he⟩), rfl⟩
    · intro r y p hy ho hp z hz _
      obtain ⟨r0, ho⟩ := ho
      rw [setG_ne _ _ (hal r0 y p ho (.inl hp))]
      exact hz
    · intro r y p t hy ho hp hst hr hg
      obtain ⟨r0, ho⟩ := ho
      rw [setG_ne _ _ (hal r0 y p ho (.inr hp))]
      exact ⟨hg, rfl⟩
    · intro r k r' k' y z hy hz b hb hb'
      exact h1.disj r k r' k' y z (hget r k y hy) (hget r' k' z hz) b hb hb'
    · intro r y t hy ht
      rw [(hbx t ht).2] at ht
      exact h1.bdisj r y t (hmem r y hy).2 ht
    · intro t u ht hu e
      rw [(hbx t ht).2] at ht
      rw [(hbx u hu).2] at hu
      exact h1.binj t u ht hu e
    · intro r y b hy hb
      exact h1.dlt r y b (hmem r y hy).2 hb
    · intro t ht
      rw [(hbx t ht).2] at ht
      exact h1.bnd t ht
  · exact ⟨Γ, h, fun e => e, rfl⟩
end
end Go.I

/-! ISem6 -/
set_option linter.unusedVariables false
set_option linter.unusedSimpArgs false
namespace Go.I
open Go.RowKit Go.Proofs.YtogfddilolannaaDoorW.PrintWords
section
variable {B : Tab}
theorem root_setRoot (s : S B) (r : Nat) (l : List (VT B)) (hl : l.length = (s.root r).length) (q : Nat) : (s.setRoot r l).root q = if q = r then l else s.root q := by
  rcases root_cases r with rfl | rfl | ⟨t, rfl⟩ | ⟨t, rfl⟩
  · show ({ s with hd := l } : S B).root q = _
    rw [root_hd]
  · show ({ s with gh := l } : S B).root q = _
    by_cases hq : q = 1
    · subst hq
      rw [if_pos rfl]; rfl
    · rw [if_neg hq]
      rcases root_cases q with rfl | rfl | ⟨t, rfl⟩ | ⟨t, rfl⟩
      · rfl
      · exact absurd rfl hq
      · rw [root_tm, root_tm]
      · rw [root_bx, root_bx]
  · have e : s.setRoot (2 * t + 2) l = { s with tm := setAt s.tm t ((s.tm.getD t (.agg [])).remake l) } := by
      show (if 2 * t % 2 = 0 then _ else _) = _
      rw [if_pos (by omega), show 2 * t / 2 = t by omega]
    rw [e, root_setTm]
    rw [root_tm] at hl
    by_cases hq : q = 2 * t + 2
    · subst hq
      rw [if_pos rfl]
      by_cases ht : t < s.tm.length
      · rw [if_pos ⟨rfl, ht⟩, remake_leaves _ _ hl]
      · rw [if_neg (fun e => ht e.2), root_tm]
        simp only [List.getD_eq_getElem?_getD, List.getElem?_eq_none (Nat.le_of_not_lt ht), Option.getD_none, W.leaves, List.length_nil] at hl ⊢
        exact (List.eq_nil_of_length_eq_zero hl).symm
    · rw [if_neg hq, if_neg (fun e => hq e.1)]
  · have e : s.setRoot (2 * t + 3) l = { s with bx := setAt s.bx t l } := by
      show (if (2 * t + 1) % 2 = 0 then _ else _) = _
      rw [if_neg (by omega), show (2 * t + 1) / 2 = t by omega]
    rw [e, root_setBx]
    rw [root_bx] at hl
    by_cases hq : q = 2 * t + 3
    · subst hq
      rw [if_pos rfl]
      by_cases ht : t < s.bx.length
      · rw [if_pos ⟨rfl, ht⟩]
      · rw [if_neg (fun e => ht e.2), root_bx]
        simp only [List.getD_eq_getElem?_getD, List.getElem?_eq_none (Nat.le_of_not_lt ht), Option.getD_none, List.length_nil] at hl ⊢
        exact (List.eq_nil_of_length_eq_zero hl).symm
    · rw [if_neg hq, if_neg (fun e => hq e.1)]
theorem setRoot_tm (s : S B) (r : Nat) (l : List (VT B)) (hl : l.length = (s.root r).length) : (s.setRoot r l).tm.length = s.tm.length ∧ (s.setRoot r l).bx.length = s.bx.length ∧
    ∀ (t : Nat) (x c : _) (cs : List Value), (s.setRoot r l).tm[t]? = some x → ∃ y, s.tm[t]? = some y ∧ (WR y c cs → WR x c cs) := by
  rcases root_cases r with rfl | rfl | ⟨u, rfl⟩ | ⟨u, rfl⟩
  · exact ⟨rfl, rfl, fun t x c cs hx => ⟨x, hx, fun h => h⟩⟩
  · exact ⟨rfl, rfl, fun t x c cs hx => ⟨x, hx, fun h => h⟩⟩
  · have e : s.setRoot (2 * u + 2) l = { s with tm := setAt s.tm u ((s.tm.getD u (.agg [])).remake l) } := by
      show (if 2 * u % 2 = 0 then _ else _) = _
      rw [if_pos (by omega), show 2 * u / 2 = u by omega]
    rw [e]
    refine ⟨by simp [setAt_eq], rfl, fun t x c cs hx => ?_⟩
    simp only [setAt_eq, List.getElem?_set] at hx
    by_cases hut : u = t
    · subst hut
      rw [if_pos rfl] at hx
      split at hx
      · rename_i hlt
        injection hx with hx
        refine ⟨_, List.getElem?_eq_getElem hlt, fun hw => ?_⟩
        rw [root_tm] at hl
        simp only [List.getD_eq_getElem?_getD, List.getElem?_eq_getElem hlt, Option.getD_some] at hl hx
        rw [← hx]
        exact hw.remake hl
      · cases hx
    · rw [if_neg hut] at hx
      exact ⟨x, hx, fun h => h⟩
  · have e : s.setRoot (2 * u + 3) l = { s with bx := setAt s.bx u l } := by
      show (if (2 * u + 1) % 2 = 0 then _ else _) = _
      rw [if_neg (by omega), show (2 * u + 1) / 2 = u by omega]
    rw [e]
    exact ⟨rfl, by simp [setAt_eq], fun t x c cs hx => ⟨x, hx, fun h => h⟩⟩
def putG (Γ : Gh B) (m r k : Nat) (x : Ent B) : Gh B := setG (setG Γ 0 ((Γ 0).drop m)) r ((Γ r).set k x)
/-- Leaf k of root r is written anew (in a tmp: the same cell; in a box: another cell, w' has it), the first m entries of the hand are used up. Nobody tells of the leaf. -/
theorem Rel.setL (H : TabE B) {X : Base B} {s : S B} {a w w' Γ β} (h : Rel X s a w Γ β) {m r k : Nat} (hr0 : r ≠ 0) {y : Ent B} (hy : (Γ r)[k]? = some y) {v : VT B} {c : Value} {D : Nat → Prop}
    (hna : ∀ q x p, x ∈ Γ q → Alias x.v p → ¬ (p.r = r ∧ p.k = k) ∨ (x.v = .at p ∧ p.st = [] ∧ c = y.c ∧ v.isOwn = true))
    (hl : LeafR X (okB X (putG Γ m r k ⟨v, c, D⟩) β w') (putG Γ m r k ⟨v, c, D⟩) β w' v c D)
    (hc : (r = 1 ∨ ∃ t, r = 2 * t + 2) → c = y.c)
    (hD : ∀ b, D b → y.D b ∨ (∃ z, z ∈ (Γ 0).take m ∧ z.D b) ∨ (w.heap.size ≤ b ∧ b < w'.heap.size))
    (hsame : ∀ b, b < w.heap.size → ¬ y.D b → (∀ t, r = 2 * t + 3 → b ≠ β t) → w'.heap[b]? = w.heap[b]?)
    (hbox : ∀ t ty, r = 2 * t + 3 → w.heap[β t]? = some (.cells (csOf (Γ r)).toArray ty (0, 0)) → w'.heap[β t]? = some (.cells (csOf ((Γ r).set k ⟨v, c, D⟩)).toArray ty (0, 0)))
    (hsz : w.heap.size ≤ w'.heap.size) (hos : w'.os = w.os) (htape : w'.tape = w.tape) (hout : w'.output = w.output) (hro : (∀ t, r = 2 * t + 3 → ∀ b, ¬ X.ro t b) ∨ w'.heap = w.heap) :
    Rel X (({ s with hd := s.hd.drop m } : S B).setLeaf r k v) a w' (putG Γ m r k ⟨v, c, D⟩) β := by
  have hk : k < (Γ r).length := (List.getElem?_eq_some_iff.1 hy).1
  have hroot : ∀ q, ({ s with hd := s.hd.drop m } : S B).root q = vs (setG Γ 0 ((Γ 0).drop m) q) := by
    intro q
    rw [root_hd]
    by_cases hq : q = 0
    · subst hq
      rw [if_pos rfl, setG_same, show s.hd = vs (Γ 0) from h.root 0]
      simp [vs, List.map_drop]
    · rw [if_neg hq, setG_ne _ _ hq, h.root]
  have hrr : ({ s with hd := s.hd.drop m } : S B).root r = s.root r := by rw [root_hd, if_neg hr0]
  have hlen : (setAt (({ s with hd := s.hd.drop m } : S B).root r) k v).length = (({ s with hd := s.hd.drop m } : S B).root r).length := by simp [setAt_eq]
  obtain ⟨e1, e2, e3⟩ := setRoot_tm ({ s with hd := s.hd.drop m } : S B) r (setAt (({ s with hd := s.hd.drop m } : S B).root r) k v) hlen
  -- an entry that stands already: where it stood
  have hget : ∀ (q j : Nat) (x : Ent B), (putG Γ m r k ⟨v, c, D⟩ q)[j]? = some x → ((Γ q)[if q = 0 then j + m else j]? = some x ∧ ¬ (q = r ∧ j = k)) ∨ (q = r ∧ j = k) ∧ x = ⟨v, c, D⟩ := by
    intro q j x hx
    by_cases hq : q = r
    · subst hq
      rw [putG, setG_same, List.getElem?_set] at hx
      by_cases hjk : k = j
      · subst hjk
        rw [if_pos rfl, if_pos hk] at hx
        injection hx with hx
        exact .inr ⟨⟨rfl, rfl⟩, hx.symm⟩
      · rw [if_neg hjk] at hx
        exact .inl ⟨by rw [if_neg hr0]; exact hx, fun e => hjk e.2.symm⟩
    · rw [putG, setG_ne _ _ hq] at hx
      by_cases h0 : q = 0
      · subst h0
        rw [setG_same, List.getElem?_drop] at hx
        exact .inl ⟨by rw [if_pos rfl, Nat.add_comm]; exact hx, fun e => hq e.1⟩
      · rw [setG_ne _ _ h0] at hx
        exact .inl ⟨by rw [if_neg h0]; exact hx, fun e => hq e.1⟩
  have hget' : ∀ (q j : Nat) (x : Ent B), q ≠ 0 → (Γ q)[j]? = some x → ¬ (q = r ∧ j = k) → (putG Γ m r k ⟨v, c, D⟩ q)[j]? = some x := by
    intro q j x h0 hx hn
    by_cases hq : q = r
    · subst hq
      rw [putG, setG_same, List.getElem?_set, if_neg (fun e => hn ⟨rfl, e.symm⟩)]
      exact hx
    · rw [putG, setG_ne _ _ hq, setG_ne _ _ h0]
      exact hx
  have hpos : ∀ (q j : Nat), ¬ (q = r ∧ j = k) → ¬ (q = r ∧ (if q = 0 then j + m else j) = k) := by
    intro q j hn e
    rw [if_neg (by rw [e.1]; exact hr0)] at e
    exact hn e
  have hmem : ∀ q x, x ∈ putG Γ m r k ⟨v, c, D⟩ q → (∃ j, (Γ q)[j]? = some x ∧ ¬ (q = r ∧ j = k)) ∨ q = r ∧ x = ⟨v, c, D⟩ := by
    intro q x hx
    obtain ⟨j, hj⟩ := List.getElem?_of_mem hx
    rcases hget q j x hj with h | h
    · exact .inl ⟨_, h.1, hpos q j h.2⟩
    · exact .inr ⟨h.1.1, h.2⟩
  have hne : ∀ t, putG Γ m r k ⟨v, c, D⟩ (2 * t + 3) ≠ [] ↔ Γ (2 * t + 3) ≠ [] := by
    intro t
    by_cases ht : 2 * t + 3 = r
    · subst ht
      rw [putG, setG_same]
      simp
    · rw [putG, setG_ne _ _ ht, setG_ne _ _ (by omega)]
  -- where an entry lies that stands already, nothing is written
  have hstay : ∀ (q j : Nat) (x : Ent B), (Γ q)[j]? = some x → ¬ (q = r ∧ j = k) → ∀ b, x.D b → w'.heap[b]? = w.heap[b]? := by
    intro q j x hx hn b hb
    refine hsame b (h.dlt q x b (List.mem_of_getElem? hx) hb).1 (fun e => hn ?_) (fun t ht e => ?_)
    · obtain ⟨h1, h2⟩ := h.disj q j r k x y hx hy b hb e
      exact ⟨h1, h2⟩
    · subst e
      refine h.bdisj q x t (List.mem_of_getElem? hx) ?_ hb
      rw [← ht]
      exact List.ne_nil_of_length_pos (by omega)
  have hok : ∀ b, okB X Γ β w b → okB X (putG Γ m r k ⟨v, c, D⟩) β w' b ∧ w'.heap[b]? = w.heap[b]? := by
    intro b hb
    refine ⟨hb.imp hsz (fun q x hx hd => ?_) (fun t ht he => .inl ⟨(hne t).1 ht, he⟩), ?_⟩
    · rcases hmem q x hx with ⟨j, hj, _⟩ | ⟨rfl, rfl⟩
      · exact .inl ⟨q, x, List.mem_of_getElem? hj, hd⟩
      · rcases hD b hd with h1 | ⟨z, h1, h2⟩ | h1
        · exact .inl ⟨q, y, List.mem_of_getElem? hy, h1⟩
        · exact .inl ⟨0, z, List.mem_of_mem_take h1, h2⟩
        · exact .inr h1.1
    · refine hsame b hb.1 (hb.2.2.1 r y (List.mem_of_getElem? hy)) (fun t ht => hb.2.2.2 t ?_)
      rw [← ht]
      exact List.ne_nil_of_length_pos (by omega)
  have hDlt : ∀ b, D b → b < w'.heap.size ∧ (X.A0 b ∨ X.w0.heap.size ≤ b) := by
    intro b hb
    rcases hD b hb with h1 | ⟨z, h1, h2⟩ | h1
    · have := h.dlt r y b (List.mem_of_getElem? hy) h1
      exact ⟨by omega, this.2⟩
    · have := h.dlt 0 z b (List.mem_of_mem_take h1) h2
      exact ⟨by omega, this.2⟩
    · have := h.grow
      exact ⟨h1.2, .inr (by omega)⟩
  -- the new entry's blocks are no other's
  have hDno : ∀ (q j : Nat) (x : Ent B), (putG Γ m r k ⟨v, c, D⟩ q)[j]? = some x → ¬ (q = r ∧ j = k) → ∀ b, x.D b → ¬ D b := by
    intro q j x hx hn b hb hd
    rcases hget q j x hx with ⟨h1, n1⟩ | ⟨h1, _⟩
    · rcases hD b hd with h3 | ⟨z, h3, h4⟩ | h3
      · exact hpos q j n1 (h.disj _ _ r k x y h1 hy b hb h3)
      · obtain ⟨i, hi⟩ := List.getElem?_of_mem h3
        rw [List.getElem?_take] at hi
        split at hi
        · have h5 := h.disj _ _ 0 i x z h1 hi b hb h4
          rw [if_pos h5.1] at h5
          omega
        · cases hi
      · have := (h.dlt q x b (List.mem_of_getElem? h1) hb).1; omega
    · exact hn h1
  refine { dfr := h.dfr, size := e1.trans h.size, bsize := h.pins (Γ' := putG Γ m r k ⟨v, c, D⟩) e1 e2 fun t _ ht => ⟨by
    unfold putG
    by_cases hq : 2 * t + 3 = r
    · subst hq; rw [setG_same]; simpa using ht
    · rw [setG_ne _ _ hq, setG_ne _ _ (by omega)]; exact ht, rfl⟩, root := ?_, tm := ?_, bx := ?_, leaf := ?_, disj := ?_, bdisj := ?_, binj := ?_, dlt := ?_, bnd := ?_, grow := Nat.le_trans h.grow hsz, keep := ?_, os := hos.trans h.os, tape := htape.trans h.tape, output := hout.trans h.output, gh := ?_, gl := ⟨fun b hb => (hok b (h.gl.1 b hb)).1, H.glob_keep _ _ h.gl.2 fun b hb => (hok b (h.gl.1 b hb)).2⟩ }
  · intro q
    show (({ s with hd := s.hd.drop m } : S B).setRoot r (setAt (({ s with hd := s.hd.drop m } : S B).root r) k v)).root q = _
    rw [root_setRoot _ r _ hlen]
    by_cases hq : q = r
    · subst hq
      rw [if_pos rfl, putG, setG_same, hrr, h.root]
      simp [vs, setAt_eq, List.map_set]
    · rw [if_neg hq, putG, setG_ne _ _ hq, hroot]
  · intro t x c' hx hcx
    obtain ⟨x', hx', himp⟩ := e3 t x c' (csOf (putG Γ m r k ⟨v, c, D⟩ (2 * t + 2))) hx
    refine himp ?_
    have := h.tm t x' c' hx' hcx
    by_cases ht : 2 * t + 2 = r
    · subst ht
      rw [putG, setG_same]
      have : csOf ((Γ (2 * t + 2)).set k ⟨v, c, D⟩) = csOf (Γ (2 * t + 2)) := by
        simp only [csOf, List.map_set, hc (.inr ⟨t, rfl⟩)]
        refine List.ext_getElem? fun i => ?_
        rw [List.getElem?_set]
        by_cases hi : k = i
        · subst hi
          have hyk := (List.getElem?_eq_some_iff.1 hy).2
          simp [hk, hyk]
        · rw [if_neg hi]
      rw [this]
      assumption
    · rw [putG, setG_ne _ _ ht, setG_ne _ _ (by omega)]
      exact this
  · intro t ht
    have h0 := (hne t).1 ht
    obtain ⟨ty, hb⟩ := h.bx t h0
    refine ⟨ty, ?_⟩
    by_cases htr : 2 * t + 3 = r
    · subst htr
      rw [putG, setG_same]
      exact hbox t ty rfl hb
    · rw [putG, setG_ne _ _ htr, setG_ne _ _ (by omega)]
      refine (hsame _ (Array.getElem?_eq_some_iff.1 hb).1 (h.bdisj r y t (List.mem_of_getElem? hy) h0) (fun u hu e => ?_)).trans hb
      have hu0 : Γ (2 * u + 3) ≠ [] := by rw [← hu]; exact List.ne_nil_of_length_pos (by omega)
      have := h.binj t u h0 hu0 e
      omega
  · intro q x hx
    rcases hmem q x hx with ⟨j, hj, hn⟩ | ⟨rfl, rfl⟩
    · by_cases hex : ∃ p, x.v = .at p ∧ p.r = r ∧ p.k = k
      · obtain ⟨p, e1, e2, e3⟩ := hex
        rcases hna q x p (List.mem_of_getElem? hj) (.inl e1) with e4 | ⟨_, e4, e5, e6⟩
        · exact absurd ⟨e2, e3⟩ e4
        · have hlx := h.leaf q x (List.mem_of_getElem? hj)
          rw [e1] at hlx ⊢
          obtain ⟨a1, z, a2, a3, a4⟩ := hlx
          refine ⟨a1, ⟨v, c, D⟩, ?_, e6, ?_⟩
          · rw [e2, e3, putG, setG_same, List.getElem?_set, if_pos rfl, if_pos hk]
          · rw [e4] at a4 ⊢
            rw [e2, e3, hy] at a2
            injection a2 with a2
            exact ⟨by rw [a4.1, ← a2]; exact e5.symm, a4.2⟩
      refine (h.leaf q x (List.mem_of_getElem? hj)).move H hok (fun _ => hstay q j x hj hn) (fun p z hp hz hzo => ?_) (fun p t hp hst hr hg => ⟨?_, rfl⟩)
      · have : ¬ (p.r = r ∧ p.k = k) := by
          rcases hna q x p (List.mem_of_getElem? hj) hp with e4 | ⟨e4, _⟩
          · exact e4
          · exact fun e => hex ⟨p, e4, e⟩
        exact ⟨z, hget' _ _ _ (h.aliasOwn (List.mem_of_getElem? hj) hp).1 hz this, rfl, rfl, z.D, h.leaf _ z (List.mem_of_getElem? hz), hstay _ _ z hz this⟩
      · rw [hr] at hg ⊢
        exact (hne t).2 hg
    · exact hl
  · intro q j q' j' x z hx hz b hb hb'
    rcases hget q j x hx with ⟨h1, n1⟩ | ⟨h1, rfl⟩ <;> rcases hget q' j' z hz with ⟨h2, n2⟩ | ⟨h2, rfl⟩
    · obtain ⟨h3, h4⟩ := h.disj _ _ _ _ x z h1 h2 b hb hb'
      subst h3
      split at h4 <;> exact ⟨rfl, by omega⟩
    · exact (hDno q j x hx n1 b hb hb').elim
    · exact (hDno q' j' z hz n2 b hb' hb).elim
    · exact ⟨h1.1.trans h2.1.symm, h1.2.trans h2.2.symm⟩
  · intro q x t hx ht
    have h0 := (hne t).1 ht
    rcases hmem q x hx with ⟨j, hj, _⟩ | ⟨rfl, rfl⟩
    · exact h.bdisj q x t (List.mem_of_getElem? hj) h0
    · intro hb
      rcases hD _ hb with h3 | ⟨z, h3, h4⟩ | h3
      · exact h.bdisj q y t (List.mem_of_getElem? hy) h0 h3
      · exact h.bdisj 0 z t (List.mem_of_mem_take h3) h0 h4
      · obtain ⟨ty, hbx⟩ := h.bx t h0
        have := (Array.getElem?_eq_some_iff.1 hbx).1
        omega
  · exact fun t u ht hu => h.binj t u ((hne t).1 ht) ((hne u).1 hu)
  · intro q x b hx hb
    rcases hmem q x hx with ⟨j, hj, _⟩ | ⟨rfl, rfl⟩
    · have := h.dlt q x b (List.mem_of_getElem? hj) hb
      exact ⟨by omega, this.2⟩
    · exact hDlt b hb
  · exact fun t ht => h.bnd t ((hne t).1 ht)
  · intro b hb hA
    rcases hro with hro | hro
    rotate_left
    · rw [hro]; exact h.keep b hb hA
    refine (hsame b (Nat.lt_of_lt_of_le hb h.grow) (fun e => ?_) (fun t ht e => ?_)).trans (h.keep b hb hA)
    · rcases (h.dlt r y b (List.mem_of_getElem? hy) e).2 with h1 | h1
      · exact hA h1
      · omega
    · subst e
      rcases h.bnd t (by rw [← ht]; exact List.ne_nil_of_length_pos (by omega)) with h1 | h1 | h1
      · exact hro t ht _ h1
      · exact hA h1
      · omega
  · rw [← h.gh]
    by_cases h1 : (1 : Nat) = r
    · subst h1
      rw [putG, setG_same]
      have hyk := (List.getElem?_eq_some_iff.1 hy).2
      simp only [csOf, List.map_set, hc (.inl rfl)]
      refine List.ext_getElem? fun i => ?_
      rw [List.getElem?_set]
      by_cases hi : k = i
      · subst hi; simp [hk, hyk]
      · rw [if_neg hi]
    · rw [putG, setG_ne _ _ h1, setG_ne _ _ (by omega)]
end
end Go.I

/-! ISem7 -/
set_option linter.unusedVariables false
set_option linter.unusedSimpArgs false
namespace Go.I
open Go.RowKit Go.Proofs.YtogfddilolannaaDoorW.PrintWords
section
variable {B : Tab}
/-- The hand holds other entries: what they own was the hand's, or is new; no other block is written. -/
theorem Rel.reH (H : TabE B) {X : Base B} {s : S B} {a w w' Γ β} (h : Rel X s a w Γ β) (E : List (Ent B))
    (hl : (∀ b, okB X Γ β w b → okB X (setG Γ 0 E) β w' b ∧ w'.heap[b]? = w.heap[b]?) → ∀ e ∈ E, LeafR X (okB X (setG Γ 0 E) β w') (setG Γ 0 E) β w' e.v e.c e.D)
    (hdis : ∀ (j k : Nat) (x y : Ent B), E[j]? = some x → E[k]? = some y → ∀ b, x.D b → y.D b → j = k)
    (hD : ∀ e ∈ E, ∀ b, e.D b → (∃ z, z ∈ Γ 0 ∧ z.D b) ∨ (w.heap.size ≤ b ∧ b < w'.heap.size))
    (hsame : ∀ b, b < w.heap.size → (∀ z, z ∈ Γ 0 → ¬ z.D b) → w'.heap[b]? = w.heap[b]?)
    (hsz : w.heap.size ≤ w'.heap.size) (hos : w'.os = w.os) (htape : w'.tape = w.tape) (hout : w'.output = w.output) :
    Rel X { s with hd := vs E } a w' (setG Γ 0 E) β := by
  have hbx : ∀ t, setG Γ 0 E (2 * t + 3) = Γ (2 * t + 3) := fun t => setG_ne _ _ (by omega)
  have hmem : ∀ q x, x ∈ setG Γ 0 E q → (q ≠ 0 ∧ x ∈ Γ q) ∨ q = 0 ∧ x ∈ E := by
    intro q x hx
    by_cases hq : q = 0
    · subst hq; rw [setG_same] at hx; exact .inr ⟨rfl, hx⟩
    · rw [setG_ne _ _ hq] at hx; exact .inl ⟨hq, hx⟩
  have hstay : ∀ q x, q ≠ 0 → x ∈ Γ q → ∀ b, x.D b → w'.heap[b]? = w.heap[b]? := by
    intro q x hq hx b hb
    refine hsame b (h.dlt q x b hx hb).1 (fun z hz hzb => hq ?_)
    obtain ⟨i, hi⟩ := List.getElem?_of_mem hx
    obtain ⟨j, hj⟩ := List.getElem?_of_mem hz
    exact (h.disj q i 0 j x z hi hj b hb hzb).1
  have hok : ∀ b, okB X Γ β w b → okB X (setG Γ 0 E) β w' b ∧ w'.heap[b]? = w.heap[b]? := by
    intro b hb
    refine ⟨hb.imp hsz (fun q x hx hd => ?_) (fun t ht he => .inl ⟨by rw [← hbx]; exact ht, he⟩), hsame b hb.1 (fun z hz => hb.2.2.1 0 z hz)⟩
    rcases hmem q x hx with ⟨_, hx⟩ | ⟨_, hx⟩
    · exact .inl ⟨q, x, hx, hd⟩
    · rcases hD x hx b hd with ⟨z, h1, h2⟩ | h1
      · exact .inl ⟨0, z, h1, h2⟩
      · exact .inr h1.1
  have hDno : ∀ q x e, q ≠ 0 → x ∈ Γ q → e ∈ E → ∀ b, x.D b → ¬ e.D b := by
    intro q x e hq hx he b hb hd
    rcases hD e he b hd with ⟨z, h1, h2⟩ | h1
    · obtain ⟨i, hi⟩ := List.getElem?_of_mem hx
      obtain ⟨j, hj⟩ := List.getElem?_of_mem h1
      exact hq (h.disj q i 0 j x z hi hj b hb h2).1
    · have := (h.dlt q x b hx hb).1; omega
  refine { dfr := h.dfr, size := h.size, bsize := h.pins (Γ' := setG Γ 0 E) rfl rfl fun t _ ht => ⟨by rw [setG_ne _ _ (by omega)]; exact ht, rfl⟩, root := ?_, tm := ?_, bx := ?_, leaf := ?_, disj := ?_, bdisj := ?_, binj := ?_, dlt := ?_, bnd := ?_, grow := Nat.le_trans h.grow hsz, keep := ?_, os := hos.trans h.os, tape := htape.trans h.tape, output := hout.trans h.output, gh := by rw [setG_ne _ _ (by omega)]; exact h.gh, gl := ⟨fun b hb => (hok b (h.gl.1 b hb)).1, H.glob_keep _ _ h.gl.2 fun b hb => (hok b (h.gl.1 b hb)).2⟩ }
  · intro q
    rw [root_hd]
    by_cases hq : q = 0
    · subst hq; rw [if_pos rfl, setG_same]
    · rw [if_neg hq, setG_ne _ _ hq, h.root]
  · intro t x c hx hc
    rw [setG_ne _ _ (by omega)]
    exact h.tm t x c hx hc
  · intro t ht
    rw [hbx] at ht ⊢
    obtain ⟨ty, hb⟩ := h.bx t ht
    exact ⟨ty, (hsame _ (Array.getElem?_eq_some_iff.1 hb).1 (fun z hz => h.bdisj 0 z t hz ht)).trans hb⟩
  · intro q x hx
    rcases hmem q x hx with ⟨hq, hx⟩ | ⟨rfl, hx⟩
    · refine (h.leaf q x hx).move H hok (fun _ => hstay q x hq hx) (fun p z hp hz hzo => ?_) (fun p t hp hst hr hg => ⟨?_, rfl⟩)
      · have h0 := (h.aliasOwn hx hp).1
        exact ⟨z, by rw [setG_ne _ _ h0]; exact hz, rfl, rfl, z.D, h.leaf _ z (List.mem_of_getElem? hz), hstay _ z h0 (List.mem_of_getElem? hz)⟩
      · rw [hr] at hg ⊢
        rw [hbx]
        exact hg
    · exact hl hok x hx
  · intro q j q' j' x z hx hz b hb hb'
    by_cases hq : q = 0 <;> by_cases hq' : q' = 0
    · subst hq; subst hq'
      rw [setG_same] at hx hz
      exact ⟨rfl, hdis j j' x z hx hz b hb hb'⟩
    · subst hq
      rw [setG_same] at hx
      rw [setG_ne _ _ hq'] at hz
      exact (hDno q' z x hq' (List.mem_of_getElem? hz) (List.mem_of_getElem? hx) b hb' hb).elim
    · subst hq'
      rw [setG_same] at hz
      rw [setG_ne _ _ hq] at hx
      exact (hDno q x z hq (List.mem_of_getElem? hx) (List.mem_of_getElem? hz) b hb hb').elim
    · rw [setG_ne _ _ hq] at hx
      rw [setG_ne _ _ hq'] at hz
      exact h.disj q j q' j' x z hx hz b hb hb'
  · intro q x t hx ht
    rw [hbx] at ht
    rcases hmem q x hx with ⟨_, hx⟩ | ⟨_, hx⟩
    · exact h.bdisj q x t hx ht
    · intro hb
      rcases hD x hx _ hb with ⟨z, h1, h2⟩ | h1
      · exact h.bdisj 0 z t h1 ht h2
      · obtain ⟨ty, hbx'⟩ := h.bx t ht
        have := (Array.getElem?_eq_some_iff.1 hbx').1
        omega
  · intro t u ht hu
    rw [hbx] at ht hu
    exact h.binj t u ht hu
  · intro q x b hx hb
    rcases hmem q x hx with ⟨_, hx⟩ | ⟨_, hx⟩
    · have := h.dlt q x b hx hb
      exact ⟨by omega, this.2⟩
    · rcases hD x hx b hb with ⟨z, h1, h2⟩ | h1
      · have := h.dlt 0 z b h1 h2
        exact ⟨by omega, this.2⟩
      · have := h.grow
        exact ⟨h1.2, .inr (by omega)⟩
  · intro t ht
    rw [hbx] at ht
    exact h.bnd t ht
  · intro b hb hA
    refine (hsame b (Nat.lt_of_lt_of_le hb h.grow) (fun z hz e => ?_)).trans (h.keep b hb hA)
    rcases (h.dlt 0 z b hz e).2 with h1 | h1
    · exact hA h1
    · omega
/-- What is one's own goes from leaf k of root r into the hand. -/
theorem Rel.moveH (H : TabE B) {X : Base B} {s : S B} {a w Γ β} (h : Rel X s a w Γ β) {r k : Nat} (hr0 : r ≠ 0) {y : Ent B} (hy : (Γ r)[k]? = some y) (hyo : y.v.isOwn = true)
    (hna : ∀ q x p, x ∈ Γ q → Alias x.v p → ¬ (p.r = r ∧ p.k = k)) (u : S B) (hu : u = { s.setLeaf r k .dead with hd := (s.setLeaf r k .dead).hd ++ [y.v] }) :
    Rel X u a w (setG (setG Γ r ((Γ r).set k ⟨.dead, y.c, none_⟩)) 0 (Γ 0 ++ [y])) β := by
  subst hu
  have hk : k < (Γ r).length := (List.getElem?_eq_some_iff.1 hy).1
  have hlen : (setAt (s.root r) k (.dead : VT B)).length = (s.root r).length := by simp [setAt_eq]
  obtain ⟨e1, e2, e3⟩ := setRoot_tm s r (setAt (s.root r) k .dead) hlen
  have hrt : ∀ q, (s.setLeaf r k .dead).root q = vs (setG Γ r ((Γ r).set k ⟨.dead, y.c, none_⟩) q) := by
    intro q
    show (s.setRoot r (setAt (s.root r) k .dead)).root q = _
    rw [root_setRoot s r _ hlen]
    by_cases hq : q = r
    · subst hq; rw [if_pos rfl, setG_same, h.root]; simp [vs, setAt_eq, List.map_set]
    · rw [if_neg hq, setG_ne _ _ hq, h.root]
  generalize hG : setG (setG Γ r ((Γ r).set k ⟨.dead, y.c, none_⟩)) 0 (Γ 0 ++ [y]) = G
  have g0 : G 0 = Γ 0 ++ [y] := by rw [← hG, setG_same]
  have gr : G r = (Γ r).set k ⟨.dead, y.c, none_⟩ := by rw [← hG, setG_ne _ _ hr0, setG_same]
  have gq : ∀ q, q ≠ 0 → q ≠ r → G q = Γ q := fun q h0 h1 => by rw [← hG, setG_ne _ _ h0, setG_ne _ _ h1]
  -- where each entry stood
  have hget : ∀ (q j : Nat) (x : Ent B), (G q)[j]? = some x → (∃ q' j', (Γ q')[j']? = some x ∧ ((q' = q ∧ j' = j ∧ ¬ (q = r ∧ j = k)) ∨ (q' = r ∧ j' = k ∧ q = 0 ∧ j = (Γ 0).length))) ∨ (q = r ∧ j = k ∧ x = ⟨.dead, y.c, none_⟩) := by
    intro q j x hx
    by_cases h0 : q = 0
    · subst h0
      rw [g0, List.getElem?_append] at hx
      split at hx
      · exact .inl ⟨0, j, hx, .inl ⟨rfl, rfl, fun e => hr0 e.1.symm⟩⟩
      · rename_i hn
        have hj : j - (Γ 0).length = 0 := by
          have := (List.getElem?_eq_some_iff.1 hx).1
          simp at this
          omega
        rw [hj] at hx
        simp at hx
        subst hx
        exact .inl ⟨r, k, hy, .inr ⟨rfl, rfl, rfl, by omega⟩⟩
    · by_cases h1 : q = r
      · subst h1
        rw [gr, List.getElem?_set] at hx
        by_cases hjk : k = j
        · subst hjk
          rw [if_pos rfl, if_pos hk] at hx
          injection hx with hx
          exact .inr ⟨rfl, rfl, hx.symm⟩
        · rw [if_neg hjk] at hx
          exact .inl ⟨q, j, hx, .inl ⟨rfl, rfl, fun e => hjk e.2.symm⟩⟩
      · rw [gq q h0 h1] at hx
        exact .inl ⟨q, j, hx, .inl ⟨rfl, rfl, fun e => h1 e.1⟩⟩
  have hget' : ∀ (q j : Nat) (x : Ent B), (Γ q)[j]? = some x → ¬ (q = r ∧ j = k) → (G q)[j]? = some x := by
    intro q j x hx hn
    by_cases h0 : q = 0
    · subst h0
      rw [g0, List.getElem?_append_left (List.getElem?_eq_some_iff.1 hx).1]
      exact hx
    · by_cases h1 : q = r
      · subst h1
        rw [gr, List.getElem?_set, if_neg (fun e => hn ⟨rfl, e.symm⟩)]
        exact hx
      · rw [gq q h0 h1]; exact hx
  have hmem : ∀ q x, x ∈ G q → (∃ (q' j' : Nat), (Γ q')[j']? = some x) ∨ q = r ∧ x = ⟨.dead, y.c, none_⟩ := by
    intro q x hx
    obtain ⟨j, hj⟩ := List.getElem?_of_mem hx
    rcases hget q j x hj with ⟨q', j', h1, _⟩ | ⟨h1, _, h2⟩
    · exact .inl ⟨q', j', h1⟩
    · exact .inr ⟨h1, h2⟩
  have hne : ∀ t, G (2 * t + 3) ≠ [] ↔ Γ (2 * t + 3) ≠ [] := by
    intro t
    by_cases h1 : 2 * t + 3 = r
    · subst h1; rw [gr]; simp
    · rw [gq _ (by omega) h1]
  have hcs : ∀ q, q ≠ 0 → csOf (G q) = csOf (Γ q) := by
    intro q h0
    by_cases h1 : q = r
    · subst h1
      rw [gr]
      simp only [csOf, List.map_set]
      refine List.ext_getElem? fun i => ?_
      rw [List.getElem?_set]
      by_cases hi : k = i
      · subst hi
        have hyk := (List.getElem?_eq_some_iff.1 hy).2
        simp [hk, hyk]
      · rw [if_neg hi]
    · rw [gq q h0 h1]
  have hok : ∀ b, okB X Γ β w b → okB X G β w b := by
    intro b hb
    refine hb.imp (Nat.le_refl _) (fun q x hx hd => ?_) (fun t ht he => .inl ⟨(hne t).1 ht, he⟩)
    rcases hmem q x hx with ⟨q', j', h1⟩ | ⟨_, rfl⟩
    · exact .inl ⟨q', x, List.mem_of_getElem? h1, hd⟩
    · exact hd.elim
  refine h.next H h.dfr (e1.trans h.size) (h.pins (Γ' := G) e1 e2 fun t _ ht => ⟨(hne t).2 ht, rfl⟩) ?_ ?_ ?_ ?_ (fun b hb => ⟨hok b hb, rfl⟩) (fun _ _ _ _ _ _ _ => rfl) ?_ ?_ ?_ ?_ ?_ ?_ ?_ h.grow h.keep h.os h.tape h.output (hcs 1 (by omega))
  · intro q
    rw [root_hd]
    by_cases h0 : q = 0
    · subst h0
      rw [if_pos rfl, g0]
      have := hrt 0
      rw [setG_ne _ _ (Ne.symm hr0)] at this
      show (s.setLeaf r k .dead).hd ++ [y.v] = _
      rw [show (s.setLeaf r k .dead).hd = vs (Γ 0) from this]
      simp [vs]
    · rw [if_neg h0, hrt, ← hG, setG_ne _ _ h0]
  · intro t x c hx hc
    obtain ⟨x', hx', himp⟩ := e3 t x c (csOf (G (2 * t + 2))) hx
    refine himp ?_
    rw [hcs _ (by omega)]
    exact h.tm t x' c hx' hc
  · intro t ht
    rw [hcs _ (by omega)]
    exact h.bx t ((hne t).1 ht)
  · intro q x hx
    rcases hmem q x hx with ⟨q', j', h1⟩ | ⟨_, rfl⟩
    · exact .inl ⟨q', List.mem_of_getElem? h1⟩
    · exact .inr trivial
  · intro q x p hx ho hp z hz _
    obtain ⟨r0, ho⟩ := ho
    exact hget' _ _ _ hz (hna r0 x p ho hp)
  · intro q x p t hx _ hp hst hr hg
    rw [hr] at hg ⊢
    exact ⟨(hne t).2 hg, rfl⟩
  · intro q j q' j' x z hx hz b hb hb'
    rcases hget q j x hx with ⟨q1, j1, h1, c1⟩ | ⟨_, _, rfl⟩
    · rcases hget q' j' z hz with ⟨q2, j2, h2, c2⟩ | ⟨_, _, rfl⟩
      · obtain ⟨h3, h4⟩ := h.disj q1 j1 q2 j2 x z h1 h2 b hb hb'
        rcases c1 with ⟨a1, a2, a3⟩ | ⟨a1, a2, a3, a4⟩ <;> rcases c2 with ⟨b1, b2, b3⟩ | ⟨b1, b2, b3, b4⟩
        · exact ⟨by rw [← a1, ← b1, h3], by rw [← a2, ← b2, h4]⟩
        · exact (a3 ⟨by rw [← a1, h3, b1], by rw [← a2, h4, b2]⟩).elim
        · exact (b3 ⟨by rw [← b1, ← h3, a1], by rw [← b2, ← h4, a2]⟩).elim
        · exact ⟨by rw [a3, b3], by rw [a4, b4]⟩
      · exact hb'.elim
    · exact hb.elim
  · intro q x t hx ht
    rcases hmem q x hx with ⟨q', j', h1⟩ | ⟨_, rfl⟩
    · exact h.bdisj q' x t (List.mem_of_getElem? h1) ((hne t).1 ht)
    · exact fun e => e
  · exact fun t u ht hu => h.binj t u ((hne t).1 ht) ((hne u).1 hu)
  · intro q x b hx hb
    rcases hmem q x hx with ⟨q', j', h1⟩ | ⟨_, rfl⟩
    · exact h.dlt q' x b (List.mem_of_getElem? h1) hb
    · exact hb.elim
  · exact fun t ht => h.bnd t ((hne t).1 ht)
theorem csOf_append (a b : List (Ent B)) : csOf (a ++ b) = csOf a ++ csOf b := by simp [csOf]
/-- The hand is laid into tmp d, of which nobody tells. -/
theorem Rel.layT (H : TabE B) {X : Base B} {s : S B} {a w Γ β} (h : Rel X s a w Γ β) {d : Nat} {x : WT B} {c : Value} (hx : x.leaves = vs (Γ 0)) (hw : WR x c (csOf (Γ 0))) (hna : NoAlias Γ (2 * d + 2)) (hd : d < s.tm.length) :
    Rel X { s with tm := setAt s.tm d x, hd := [] } (a.put (some d) c) w (setG (setG Γ (2 * d + 2) (Γ 0)) 0 []) β := by
  generalize hG : setG (setG Γ (2 * d + 2) (Γ 0)) 0 [] = G
  have g0 : G 0 = [] := by rw [← hG, setG_same]
  have gd : G (2 * d + 2) = Γ 0 := by rw [← hG, setG_ne _ _ (by omega), setG_same]
  have gq : ∀ q, q ≠ 0 → q ≠ 2 * d + 2 → G q = Γ q := fun q h0 h1 => by rw [← hG, setG_ne _ _ h0, setG_ne _ _ h1]
  have gb : ∀ t, G (2 * t + 3) = Γ (2 * t + 3) := fun t => gq _ (by omega) (by omega)
  have hget : ∀ (q j : Nat) (y : Ent B), (G q)[j]? = some y → q ≠ 0 ∧ (Γ (if q = 2 * d + 2 then 0 else q))[j]? = some y := by
    intro q j y hy
    by_cases h0 : q = 0
    · subst h0; rw [g0] at hy; simp at hy
    · by_cases h1 : q = 2 * d + 2
      · subst h1; rw [gd] at hy; exact ⟨h0, by rw [if_pos rfl]; exact hy⟩
      · rw [gq q h0 h1] at hy; exact ⟨h0, by rw [if_neg h1]; exact hy⟩
  have hmem : ∀ q y, y ∈ G q → ∃ q', y ∈ Γ q' := by
    intro q y hy
    obtain ⟨j, hj⟩ := List.getElem?_of_mem hy
    exact ⟨_, List.mem_of_getElem? (hget q j y hj).2⟩
  have hok : ∀ b, okB X Γ β w b → okB X G β w b := by
    intro b hb
    refine hb.imp (Nat.le_refl _) (fun q y hy hD => ?_) (fun t ht he => .inl ⟨by rw [← gb]; exact ht, he⟩)
    obtain ⟨q', hq'⟩ := hmem q y hy
    exact .inl ⟨q', y, hq', hD⟩
  refine h.next H (by simpa [Act.put] using h.dfr) (by simp [setAt_eq, Act.put, h.size]) (h.pins (Γ' := G) (by simp [setAt_eq]) rfl fun t _ ht => ⟨by rw [gb]; exact ht, rfl⟩) ?_ ?_ ?_ (fun q y hy => .inl (hmem q y hy)) (fun b hb => ⟨hok b hb, rfl⟩) (fun _ _ _ _ _ _ _ => rfl) ?_ ?_ ?_ ?_ ?_ ?_ ?_ h.grow h.keep h.os h.tape h.output (by rw [gq 1 (by omega) (by omega)])
  · intro q
    have : ({ s with tm := setAt s.tm d x, hd := [] } : S B).root q = if q = 0 then [] else ({ s with tm := setAt s.tm d x } : S B).root q := root_hd ({ s with tm := setAt s.tm d x } : S B) [] q
    rw [this, root_setTm]
    by_cases h0 : q = 0
    · subst h0; rw [if_pos rfl, g0]; rfl
    · rw [if_neg h0]
      by_cases h1 : q = 2 * d + 2
      · subst h1; rw [if_pos ⟨rfl, hd⟩, gd, hx]
      · rw [if_neg (fun e => h1 e.1), gq q h0 h1, h.root]
  · intro t y c' hy hc
    simp only [setAt_eq, List.getElem?_set] at hy
    simp only [Act.put, Array.getElem?_setIfInBounds] at hc
    by_cases hdt : d = t
    · subst hdt
      rw [if_pos rfl, if_pos hd] at hy
      injection hy with hy
      subst hy
      rw [if_pos rfl, if_pos (by rw [← h.size]; exact hd)] at hc
      injection hc with hc
      subst hc
      rw [gd]
      exact hw
    · rw [if_neg hdt] at hy
      rw [if_neg hdt] at hc
      rw [gq _ (by omega) (by omega)]
      exact h.tm t y c' hy hc
  · intro t ht
    rw [gb] at ht ⊢
    exact h.bx t ht
  · intro q y p hy ho hp z hz _
    obtain ⟨r0, ho⟩ := ho
    rw [gq _ (h.aliasOwn ho hp).1 (hna r0 y p ho hp)]
    exact hz
  · intro q y p t hy _ hp hst hr hg
    rw [hr, gb, ← hr]
    exact ⟨hg, rfl⟩
  · intro q j q' j' y z hy hz b hb hb'
    obtain ⟨n1, h1⟩ := hget q j y hy
    obtain ⟨n2, h2⟩ := hget q' j' z hz
    obtain ⟨h3, h4⟩ := h.disj _ _ _ _ y z h1 h2 b hb hb'
    refine ⟨?_, h4⟩
    split at h3 <;> split at h3 <;> omega
  · intro q y t hy ht
    rw [gb] at ht
    obtain ⟨q', hq'⟩ := hmem q y hy
    exact h.bdisj q' y t hq' ht
  · intro t u ht hu
    rw [gb] at ht hu
    exact h.binj t u ht hu
  · intro q y b hy hb
    obtain ⟨q', hq'⟩ := hmem q y hy
    exact h.dlt q' y b hq' hb
  · intro t ht
    rw [gb] at ht
    exact h.bnd t ht
def updF (β : Nat → Nat) (d b : Nat) : Nat → Nat := fun t => if t = d then b else β t
/-- The hand becomes new memory, to which tmp d points. Nobody tells of tmp d or of an elder memory of that name. -/
theorem Rel.boxH (H : TabE B) {X : Base B} {s : S B} {a w Γ β} (h : Rel X s a w Γ β) {d ty : Nat} (hna : NoAlias Γ (2 * d + 2)) (hnb : ∀ q x p, x ∈ Γ q → Alias x.v p ∨ x.v = .ptr p → p.r ≠ 2 * d + 3) (hd : d < s.tm.length) (hne : Γ 0 ≠ []) :
    Rel X { hd := [], tm := setAt s.tm d (.one (.ptr ⟨2 * d + 3, 0, []⟩)), bx := setAt s.bx d s.hd, gh := s.gh } (a.put (some d) (.pointer (some ⟨w.heap.size, 0, none⟩))) (w.alloc (.cells (csOf (Γ 0)).toArray ty (0, 0)))
      (setG (setG (setG Γ (2 * d + 3) (Γ 0)) (2 * d + 2) [⟨.ptr ⟨2 * d + 3, 0, []⟩, .pointer (some ⟨w.heap.size, 0, none⟩), none_⟩]) 0 []) (updF β d w.heap.size) := by
  generalize hP : (⟨.ptr ⟨2 * d + 3, 0, []⟩, .pointer (some ⟨w.heap.size, 0, none⟩), none_⟩ : Ent B) = P
  have hPD : P.D = none_ := by rw [← hP]
  generalize hG : setG (setG (setG Γ (2 * d + 3) (Γ 0)) (2 * d + 2) [P]) 0 [] = G
  have g0 : G 0 = [] := by rw [← hG, setG_same]
  have gd : G (2 * d + 2) = [P] := by rw [← hG, setG_ne _ _ (by omega), setG_same]
  have gb0 : G (2 * d + 3) = Γ 0 := by rw [← hG, setG_ne _ _ (by omega), setG_ne _ _ (by omega), setG_same]
  have gq : ∀ q, q ≠ 0 → q ≠ 2 * d + 2 → q ≠ 2 * d + 3 → G q = Γ q := fun q h0 h1 h2 => by rw [← hG, setG_ne _ _ h0, setG_ne _ _ h1, setG_ne _ _ h2]
  have gbt : ∀ t, t ≠ d → G (2 * t + 3) = Γ (2 * t + 3) := fun t ht => gq _ (by omega) (by omega) (by omega)
  have hget : ∀ (q j : Nat) (y : Ent B), (G q)[j]? = some y → (q ≠ 0 ∧ q ≠ 2 * d + 2 ∧ (Γ (if q = 2 * d + 3 then 0 else q))[j]? = some y) ∨ (q = 2 * d + 2 ∧ y = P) := by
    intro q j y hy
    by_cases h0 : q = 0
    · subst h0; rw [g0] at hy; simp at hy
    · by_cases h1 : q = 2 * d + 2
      · subst h1; rw [gd] at hy
        have := List.mem_of_getElem? hy
        simp at this
        exact .inr ⟨rfl, this⟩
      · by_cases h2 : q = 2 * d + 3
        · subst h2; rw [gb0] at hy; exact .inl ⟨h0, h1, by rw [if_pos rfl]; exact hy⟩
        · rw [gq q h0 h1 h2] at hy; exact .inl ⟨h0, h1, by rw [if_neg h2]; exact hy⟩
  have hmem : ∀ q y, y ∈ G q → (∃ q', y ∈ Γ q') ∨ y = P := by
    intro q y hy
    obtain ⟨j, hj⟩ := List.getElem?_of_mem hy
    rcases hget q j y hj with ⟨_, _, h1⟩ | ⟨_, h1⟩
    · exact .inl ⟨_, List.mem_of_getElem? h1⟩
    · exact .inr h1
  have hold : ∀ b, b < w.heap.size → (w.alloc (.cells (csOf (Γ 0)).toArray ty (0, 0))).heap[b]? = w.heap[b]? := fun b hb => Below.heap_alloc w _ b hb
  have hsz : (w.alloc (.cells (csOf (Γ 0)).toArray ty (0, 0))).heap.size = w.heap.size + 1 := by simp
  have hlive : ∀ t, t ≠ d → G (2 * t + 3) ≠ [] → Γ (2 * t + 3) ≠ [] := fun t ht h1 => by rw [← gbt t ht]; exact h1
  have hβ : ∀ t, t ≠ d → updF β d w.heap.size t = β t := fun t ht => by simp [updF, ht]
  have hβd : updF β d w.heap.size d = w.heap.size := by simp [updF]
  have hblt : ∀ t, Γ (2 * t + 3) ≠ [] → β t < w.heap.size := fun t ht => by
    obtain ⟨ty, hb⟩ := h.bx t ht
    exact (Array.getElem?_eq_some_iff.1 hb).1
  have hok : ∀ b, okB X Γ β w b → okB X G (updF β d w.heap.size) (w.alloc (.cells (csOf (Γ 0)).toArray ty (0, 0))) b := by
    intro b hb
    refine hb.imp (by omega) (fun q y hy hD => ?_) (fun t ht he => ?_)
    · rcases hmem q y hy with ⟨q', hq'⟩ | rfl
      · exact .inl ⟨q', y, hq', hD⟩
      · rw [hPD] at hD; exact hD.elim
    · by_cases htd : t = d
      · subst htd; rw [hβd] at he; exact .inr (by omega)
      · rw [hβ t htd] at he; exact .inl ⟨hlive t htd ht, he⟩
  refine h.next H (by simpa [Act.put] using h.dfr) (by simp [setAt_eq, Act.put, h.size]) (h.pins (Γ' := G) (by simp [setAt_eq]) (by simp [setAt_eq]) fun t ht h1 => ⟨by rw [gbt t (by omega)]; exact h1, hβ t (by omega)⟩) ?_ ?_ ?_ ?_ (fun b hb => ⟨hok b hb, hold b hb.1⟩) ?_ ?_ ?_ ?_ ?_ ?_ ?_ ?_ ?_ ?_ ?_ ?_ ?_ (by rw [gq 1 (by omega) (by omega) (by omega)])
  · intro q
    have e1 : ({ hd := [], tm := setAt s.tm d (.one (.ptr ⟨2 * d + 3, 0, []⟩)), bx := setAt s.bx d s.hd, gh := s.gh } : S B).root q =
        if q = 0 then [] else if q = 2 * d + 2 ∧ d < s.tm.length then [.ptr ⟨2 * d + 3, 0, []⟩] else if q = 2 * d + 3 ∧ d < s.bx.length then s.hd else s.root q := by
      have a1 := root_hd ({ s with tm := setAt s.tm d (.one (.ptr ⟨2 * d + 3, 0, []⟩)), bx := setAt s.bx d s.hd } : S B) [] q
      have a2 := root_setTm ({ s with bx := setAt s.bx d s.hd } : S B) d (.one (.ptr ⟨2 * d + 3, 0, []⟩)) q
      have a3 := root_setBx s d s.hd q
      rw [a1, a2, a3]
      rfl
    rw [e1]
    by_cases h0 : q = 0
    · subst h0; rw [if_pos rfl, g0]; rfl
    · rw [if_neg h0]
      by_cases h1 : q = 2 * d + 2
      · subst h1; rw [if_pos ⟨rfl, hd⟩, gd, ← hP]; rfl
      · rw [if_neg (fun e => h1 e.1)]
        by_cases h2 : q = 2 * d + 3
        · subst h2; rw [if_pos ⟨rfl, Nat.lt_of_lt_of_le hd h.bsize.1⟩, gb0]; exact h.root 0
        · rw [if_neg (fun e => h2 e.1), gq q h0 h1 h2, h.root]
  · intro t y c' hy hc
    simp only [setAt_eq, List.getElem?_set] at hy
    simp only [Act.put, Array.getElem?_setIfInBounds] at hc
    by_cases hdt : d = t
    · subst hdt
      rw [if_pos rfl, if_pos hd] at hy
      injection hy with hy
      subst hy
      rw [if_pos rfl, if_pos (by rw [← h.size]; exact hd)] at hc
      injection hc with hc
      subst hc
      rw [gd, ← hP]
      rfl
    · rw [if_neg hdt] at hy
      rw [if_neg hdt] at hc
      rw [gq _ (by omega) (by omega) (by omega)]
      exact h.tm t y c' hy hc
  · intro t ht
    by_cases htd : t = d
    · subst htd
      rw [gb0, hβd]
      exact ⟨ty, by simpa using heap_alloc_new w (.cells (csOf (Γ 0)).toArray ty (0, 0))⟩
    · have h1 := hlive t htd ht
      rw [gbt t htd, hβ t htd]
      obtain ⟨ty', hb⟩ := h.bx t h1
      exact ⟨ty', (hold _ (hblt t h1)).trans hb⟩
  · intro q y hy
    rcases hmem q y hy with h1 | rfl
    · exact .inl h1
    · refine .inr ?_
      rw [← hP]
      exact ⟨d, rfl, by rw [gb0]; exact hne, by rw [hβd]⟩
  · intro q y _ ho _ b hb
    obtain ⟨r0, ho⟩ := ho
    exact hold b (h.dlt r0 y b ho hb).1
  · intro q y p hy ho hp z hz _
    obtain ⟨r0, ho⟩ := ho
    rw [gq _ (h.aliasOwn ho hp).1 (hna r0 y p ho hp) (hnb r0 y p ho (.inl hp))]
    exact hz
  · intro q y p t hy ho hp hst hr hg
    obtain ⟨r0, ho⟩ := ho
    have htd : t ≠ d := by
      rintro rfl
      exact hnb r0 y p ho (.inr hp) hr
    rw [hr, gbt t htd, ← hr, hβ t htd]
    exact ⟨hg, rfl⟩
  · intro q j q' j' y z hy hz b hb hb'
    rcases hget q j y hy with ⟨n1, m1, h1⟩ | ⟨_, rfl⟩
    · rcases hget q' j' z hz with ⟨n2, m2, h2⟩ | ⟨_, rfl⟩
      · obtain ⟨h3, h4⟩ := h.disj _ _ _ _ y z h1 h2 b hb hb'
        refine ⟨?_, h4⟩
        split at h3 <;> split at h3 <;> omega
      · rw [hPD] at hb'; exact hb'.elim
    · rw [hPD] at hb; exact hb.elim
  · intro q y t hy ht hb
    rcases hmem q y hy with ⟨q', hq'⟩ | rfl
    · by_cases htd : t = d
      · subst htd
        rw [hβd] at hb
        have := (h.dlt q' y _ hq' hb).1
        omega
      · rw [hβ t htd] at hb
        exact h.bdisj q' y t hq' (hlive t htd ht) hb
    · rw [hPD] at hb; exact hb
  · intro t u ht hu e
    by_cases htd : t = d <;> by_cases hud : u = d
    · rw [htd, hud]
    · rw [htd, hβd, hβ u hud] at e
      have := hblt u (hlive u hud hu)
      omega
    · rw [hud, hβd, hβ t htd] at e
      have := hblt t (hlive t htd ht)
      omega
    · rw [hβ t htd, hβ u hud] at e
      exact h.binj t u (hlive t htd ht) (hlive u hud hu) e
  · intro q y b hy hb
    rcases hmem q y hy with ⟨q', hq'⟩ | rfl
    · have := h.dlt q' y b hq' hb
      exact ⟨by omega, this.2⟩
    · rw [hPD] at hb; exact hb.elim
  · intro t ht
    by_cases htd : t = d
    · subst htd
      rw [hβd]
      exact .inr (.inr h.grow)
    · rw [hβ t htd]
      exact h.bnd t (hlive t htd ht)
  · have := h.grow; omega
  · intro b hb hA
    exact (hold b (Nat.lt_of_lt_of_le hb h.grow)).trans (h.keep b hb hA)
  · exact h.os
  · exact h.tape
  · exact h.output
end
end Go.I

/-! ISem8 -/
set_option linter.unusedVariables false
set_option linter.unusedSimpArgs false
namespace Go.I
open Go.RowKit Go.Proofs.YtogfddilolannaaDoorW.PrintWords
section
variable {B : Tab}
theorem LeafR.any {X : Base B} {ok Γ β w} {v : VT B} {c D D'} (h : LeafR X ok Γ β w v c D) (hv : v.isOwn = false) : LeafR X ok Γ β w v c D' := by
  cases v <;> first | exact h | simp [V.isOwn] at hv
theorem LeafR.nil {X : Base B} {ok : Nat → Prop} {Γ : Gh B} {β : Nat → Nat} {w : World} (e : TypeId) {D : Nat → Prop} : LeafR X ok Γ β w (.own e [] : VT B) (.slice none 0 0) D := by
  refine ⟨1, [], ⟨by simp, .inl ⟨rfl, none, rfl, fun a ha => by cases ha⟩⟩, fun b hb => by simp [Value.ownBlock] at hb, fun _ _ => False, fun _ _ _ h => h.elim, fun _ _ h => h.elim, fun j x hx => by simp at hx⟩
/-- Entries that own nothing, for the leaves of what is read. -/
structure Peek (X : Base B) (Γ : Gh B) (β : Nat → Nat) (w : World) (x : WT B) (c : Value) (E : List (Ent B)) : Prop where
  lv : x.leaves = vs E
  wr : WR x c (csOf E)
  lf : ∀ y ∈ E, LeafR X (okB X Γ β w) Γ β w y.v y.c y.D ∧ ∀ b, ¬ y.D b
def peekG (r : Nat) : Nat → List (Ent B) → List (Ent B)
  | _, [] => []
  | k, y :: l => ⟨y.v.alias ⟨r, k, []⟩, y.c, none_⟩ :: peekG r (k + 1) l
theorem peekG_vs (r : Nat) (l : List (Ent B)) : ∀ k, vs (peekG r k l) = aliasL r k (vs l) := by
  induction l with
  | nil => intro k; rfl
  | cons y l ih => intro k; show _ :: vs (peekG r (k + 1) l) = _; rw [ih]; rfl
theorem peekG_cs (r : Nat) (l : List (Ent B)) : ∀ k, csOf (peekG r k l) = csOf l := by
  induction l with
  | nil => intro k; rfl
  | cons y l ih => intro k; show _ :: csOf (peekG r (k + 1) l) = _; rw [ih]; rfl
theorem peekG_mem (r : Nat) (l : List (Ent B)) : ∀ k y, y ∈ peekG r k l → ∃ (j : Nat) (z : Ent B), l[j]? = some z ∧ y = ⟨z.v.alias ⟨r, k + j, []⟩, z.c, none_⟩ := by
  induction l with
  | nil => intro k y h; cases h
  | cons z l ih =>
    intro k y h
    rcases List.mem_cons.1 h with h | h
    · exact ⟨0, z, rfl, h⟩
    · obtain ⟨j, z', h1, h2⟩ := ih (k + 1) y h
      exact ⟨j + 1, z', h1, by rw [h2, show k + 1 + j = k + (j + 1) by omega]⟩
theorem Rel.aliasLeaf {X : Base B} {s : S B} {a w Γ β} (h : Rel X s a w Γ β) {r k : Nat} (hr : r ≠ 0) {z : Ent B} (hz : (Γ r)[k]? = some z) : LeafR X (okB X Γ β w) Γ β w (z.v.alias ⟨r, k, []⟩) z.c none_ := by
  have hl := h.leaf r z (List.mem_of_getElem? hz)
  cases hv : z.v with
  | own e l => rw [hv] at hl; obtain ⟨n, hl⟩ := hl; exact ⟨hr, z, hz, by rw [hv]; rfl, rfl, own_one hl⟩
  | bld s => trivial
  | pb i e x => rw [hv] at hl; exact ⟨hr, z, hz, by rw [hv]; rfl, rfl, PbX.one hl⟩
  | _ => rw [hv] at hl; exact LeafR.any hl rfl
theorem Rel.peek {X : Base B} {s : S B} {a w Γ β} (h : Rel X s a w Γ β) (ty : TypeId) (x : Operand) : ∃ E, Peek X Γ β w (s.peek ty x) (a.eval x) E := by
  cases x with
  | tmp t =>
    by_cases ht : t < s.tm.length
    · have ht' : t < a.tmps.size := by rw [← h.size]; exact ht
      have e1 : s.tm.getD t (.one .dead) = s.tm[t] := by simp [List.getD_eq_getElem?_getD, ht]
      have e2 : a.eval (.tmp t) = a.tmps[t] := by simp [Act.eval, ht']
      have hx := List.getElem?_eq_getElem ht
      have hlv := h.tmLeaves hx
      have hwr := h.tm t _ _ hx (Array.getElem?_eq_getElem ht')
      have hal : aliasL (2 * t + 2) 0 s.tm[t].leaves = vs (peekG (2 * t + 2) 0 (Γ (2 * t + 2))) := by rw [peekG_vs, hlv]
      have hlen : (aliasL (2 * t + 2) 0 s.tm[t].leaves).length = s.tm[t].leaves.length := by rw [hal, hlv, vs_length, ← cs_length, peekG_cs, cs_length, vs_length]
      refine ⟨peekG (2 * t + 2) 0 (Γ (2 * t + 2)), ?_, ?_, ?_⟩
      · show (W.remake (s.tm.getD t (.one .dead)) _).leaves = _
        rw [e1, remake_leaves _ _ hlen, hal]
      · show WR (W.remake (s.tm.getD t (.one .dead)) _) _ _
        rw [e1, e2, peekG_cs]
        exact hwr.remake hlen
      · intro y hy
        obtain ⟨j, z, h1, rfl⟩ := peekG_mem _ _ _ _ hy
        refine ⟨?_, fun b hb => hb⟩
        rw [Nat.zero_add]
        exact h.aliasLeaf (by omega) h1
    · have e1 : s.tm.getD t (.one .dead) = .one .dead := by simp [List.getD_eq_getElem?_getD, ht]
      have e2 : a.eval (.tmp t) = undef := by
        have : ¬ t < a.tmps.size := by rw [← h.size]; exact ht
        simp [Act.eval, this]
      refine ⟨[⟨.dead, undef, none_⟩], ?_, ?_, ?_⟩
      · simp only [S.peek, e1]; rfl
      · simp only [S.peek, e1, e2]; rfl
      · intro y hy
        simp at hy
        subst hy
        exact ⟨trivial, fun b hb => hb⟩
  | const v =>
    refine ⟨[⟨constV B ty v, v, none_⟩], rfl, rfl, fun y hy => ?_⟩
    simp at hy
    subst hy
    refine ⟨?_, fun b hb => hb⟩
    show LeafR X _ Γ β w (constV B ty v) v none_
    unfold constV
    split
    · split
      · exact LeafR.nil _
      · trivial
    · trivial
    · trivial
    · rename_i hv1 hv2
      refine ⟨rfl, ?_⟩
      cases v <;> first | rfl | exact absurd rfl (hv1 _) | exact absurd rfl (hv2 _)
  | global g =>
    refine ⟨[⟨.lit (.pointer (some ⟨g, 0, none⟩)), .pointer (some ⟨g, 0, none⟩), none_⟩], rfl, rfl, fun y hy => ?_⟩
    simp at hy
    subst hy
    exact ⟨⟨rfl, rfl⟩, fun b hb => hb⟩
  | func f =>
    refine ⟨[⟨.lit (.func (.func f) #[] #[]), .func (.func f) #[] #[], none_⟩], rfl, rfl, fun y hy => ?_⟩
    simp at hy
    subst hy
    exact ⟨⟨rfl, rfl⟩, fun b hb => hb⟩
/-- One value of one cell. -/
theorem Peek.one {X : Base B} {Γ β w} {v : VT B} {c : Value} {E : List (Ent B)} (h : Peek X Γ β w (.one v) c E) : ∃ D, LeafR X (okB X Γ β w) Γ β w v c D ∧ (∀ b, ¬ D b) ∧ E = [⟨v, c, D⟩] := by
  obtain ⟨h1, h2, h3⟩ := h
  have h1' : vs E = [v] := h1.symm
  have h2' : csOf E = [c] := h2
  match E, h1', h2' with
  | [y], h1', h2' =>
    simp [vs] at h1'
    simp [csOf] at h2'
    subst h1'; subst h2'
    exact ⟨y.D, (h3 y (by simp)).1, (h3 y (by simp)).2, rfl⟩
theorem Rel.litPeek {X : Base B} {s : S B} {a w Γ β} (h : Rel X s a w Γ β) {ty : TypeId} {x : Operand} {v : Value} (e : s.peek ty x = .one (.lit v)) : a.eval x = v := by
  obtain ⟨E, hE⟩ := h.peek ty x
  rw [e] at hE
  obtain ⟨D, h1, _⟩ := hE.one
  exact h1.1
theorem leaf_eq {X : Base B} {s : S B} {a w Γ β} (h : Rel X s a w Γ β) {r k : Nat} {v : VT B} (hv : s.leaf r k = v) (hd : v ≠ .dead) : ∃ y, (Γ r)[k]? = some y ∧ y.v = v := by
  unfold S.leaf at hv
  rw [h.root, List.getD_eq_getElem?_getD] at hv
  cases hg : (Γ r)[k]? with
  | none => simp [vs, hg] at hv; exact absurd hv.symm hd
  | some y => refine ⟨y, rfl, ?_⟩; simpa [vs, hg] using hv
/-- A leaf into the hand; what else has been read may be told of still, but for what is killed. -/
theorem Rel.grab1 (H : TabE B) {X : Base B} {s s' : S B} {a w Γ β} (h : Rel X s a w Γ β) {v : VT B} {c : Value} (hl : LeafR X (okB X Γ β w) Γ β w v c none_) {m : Bool} (hg : s.grab1 v m = some s') :
    ∃ Γ', Rel X s' a w Γ' β ∧ csOf (Γ' 0) = csOf (Γ 0) ++ [c] ∧ s'.tm.length = s.tm.length ∧
      ∀ u cu, LeafR X (okB X Γ β w) Γ β w u cu none_ → LeafR X (okB X Γ' β w) Γ' β w (killBy v u) cu none_ := by
  have plain : ∀ (hg : s' = { s with hd := s.hd ++ [v] }) (hk : ∀ u, killBy v u = u ∨ killBy v u = .dead), ∃ Γ', Rel X s' a w Γ' β ∧ csOf (Γ' 0) = csOf (Γ 0) ++ [c] ∧ s'.tm.length = s.tm.length ∧
      ∀ u cu, LeafR X (okB X Γ β w) Γ β w u cu none_ → LeafR X (okB X Γ' β w) Γ' β w (killBy v u) cu none_ := by
    intro hg hk
    subst hg
    have hp := h.push H hl
    refine ⟨_, hp, by rw [setG_same, csOf_append]; rfl, rfl, fun u cu hu => ?_⟩
    rcases hk u with hk | hk
    rotate_left
    · rw [hk]; trivial
    rw [hk]
    have hbx : ∀ t, setG Γ 0 (Γ 0 ++ [⟨v, c, none_⟩]) (2 * t + 3) = Γ (2 * t + 3) := fun t => setG_ne _ _ (by omega)
    refine hu.move H (fun b hb => ⟨?_, rfl⟩) (fun _ b hb => hb.elim) (fun p z hp' hz hzo => ?_) (fun p t hp' hst hr hg => ⟨by rw [hr, hbx, ← hr]; exact hg, rfl⟩)
    · refine hb.imp (Nat.le_refl _) (fun r x hx hd => ?_) (fun t ht he => .inl ⟨by rw [← hbx]; exact ht, he⟩)
      by_cases hr : r = 0
      · subst hr
        rw [setG_same] at hx
        rcases List.mem_append.1 hx with hx | hx
        · exact .inl ⟨0, x, hx, hd⟩
        · simp at hx; subst hx; exact hd.elim
      · rw [setG_ne _ _ hr] at hx; exact .inl ⟨r, x, hx, hd⟩
    · refine ⟨z, ?_, rfl, rfl, z.D, h.leaf _ z (List.mem_of_getElem? hz), fun _ _ => rfl⟩
      by_cases hr : p.r = 0
      · rw [hr, setG_same]
        rw [hr] at hz
        rw [List.getElem?_append_left (List.getElem?_eq_some_iff.1 hz).1]; exact hz
      · rw [setG_ne _ _ hr]; exact hz
  cases v with
  | lit u => simp only [S.grab1, Option.some.injEq] at hg; exact plain hg.symm (fun _ => .inl rfl)
  | imm e l => simp only [S.grab1, Option.some.injEq] at hg; exact plain hg.symm (fun _ => .inl rfl)
  | iptr e x off => simp only [S.grab1, Option.some.injEq] at hg; exact plain hg.symm (fun _ => .inl rfl)
  | ptr p => simp only [S.grab1, Option.some.injEq] at hg; exact plain hg.symm (fun _ => .inl rfl)
  | own e l => simp [S.grab1] at hg
  | bld s => simp [S.grab1] at hg
  | pb i e x => simp [S.grab1] at hg
  | dead => simp [S.grab1] at hg
  | «at» p =>
    obtain ⟨r, k, st⟩ := p
    cases st with
    | cons y st => simp [S.grab1] at hg
    | nil =>
      simp only [S.grab1] at hg
      split at hg
      · cases hg
      rename_i hr0
      split at hg
      · injection hg with hg
        exact plain hg.symm (fun u => kill_same _ _ _)
      have mv : ∀ (v0 : VT B), s.leaf r k = v0 → v0 ≠ .dead → V.kill r k v0 = v0 → s' = { (s.kill r k).setLeaf r k .dead with hd := ((s.kill r k).setLeaf r k .dead).hd ++ [v0] } → ∃ Γ', Rel X s' a w Γ' β ∧ csOf (Γ' 0) = csOf (Γ 0) ++ [c] ∧ s'.tm.length = s.tm.length ∧
          ∀ u cu, LeafR X (okB X Γ β w) Γ β w u cu none_ → LeafR X (okB X Γ' β w) Γ' β w (killBy (.at ⟨r, k, []⟩) u) cu none_ := by
        intro v0 hleaf hnd hk0 hg
        obtain ⟨_, x, hx, hxo, hcx, _⟩ := hl
        simp only at hx hcx
        subst hcx
        have hxv : x.v = v0 := by
          obtain ⟨y, hy, hyv⟩ := leaf_eq h hleaf hnd
          rw [hx] at hy
          injection hy with hy
          rw [hy]; exact hyv
        -- who tells of it is killed
        have h1 := h.map H (V.kill r k) (kill_same r k) (kill_own r k)
        have hx1 : ((fun q => (Γ q).map fun x : Ent B => { x with v := V.kill r k x.v }) r)[k]? = some x := by
          simp only [List.getElem?_map, hx, Option.map_some]
          congr 1
          cases x with | mk xv xc xD => simp only at hxv ⊢; subst hxv; rw [hk0]
        have h2 := h1.moveH H hr0 hx1 hxo (fun q z p hz hp => by
          obtain ⟨z', _, rfl⟩ := List.mem_map.1 hz
          exact kill_alias hp) s' (by rw [hg, hxv]; rfl)
        refine ⟨_, h2, ?_, ?_, fun u cu hu => ?_⟩
        · rw [setG_same, csOf_append]
          simp [csOf, Function.comp_def]
        · rw [h2.size, h.size]
        · show LeafR X _ _ β w (V.kill r k u) cu none_
          rcases kill_same r k u with hk | hk
          · -- not killed
            rw [hk]
            have hu1 : ∀ p, Alias u p → ¬ (p.r = r ∧ p.k = k) := fun p hp => kill_alias (by rw [hk]; exact hp)
            generalize hΓ : setG _ 0 _ = Γ'
            rw [hΓ] at h2
            have hgq : ∀ (q j : Nat) (z : Ent B), q ≠ 0 → (Γ q)[j]? = some z → ¬ (q = r ∧ j = k) → (Γ' q)[j]? = some { z with v := V.kill r k z.v } := by
              intro q j z h0 hz hn
              rw [← hΓ, setG_ne _ _ h0]
              by_cases hq : q = r
              · subst hq
                rw [setG_same, List.getElem?_set, if_neg (fun e => hn ⟨rfl, e.symm⟩)]
                simp [hz]
              · rw [setG_ne _ _ hq]
                simp [hz]
            have hne : ∀ t, Γ' (2 * t + 3) ≠ [] ↔ Γ (2 * t + 3) ≠ [] := by
              intro t
              rw [← hΓ, setG_ne _ _ (by omega)]
              by_cases hq : 2 * t + 3 = r
              · subst hq; rw [setG_same]; simp
              · rw [setG_ne _ _ hq]; simp
            have hmem : ∀ q z, z ∈ Γ' q → (∃ q' z', z' ∈ Γ q' ∧ z.D = z'.D) ∨ z.D = none_ := by
              intro q z hz
              rw [← hΓ] at hz
              by_cases h0 : q = 0
              · subst h0
                rw [setG_same] at hz
                rcases List.mem_append.1 hz with hz | hz
                · obtain ⟨z', hz', rfl⟩ := List.mem_map.1 hz
                  exact .inl ⟨0, z', hz', rfl⟩
                · simp at hz; subst hz; exact .inl ⟨r, z, List.mem_of_getElem? hx, rfl⟩
              · rw [setG_ne _ _ h0] at hz
                by_cases hq : q = r
                · subst hq
                  rw [setG_same] at hz
                  rcases List.mem_or_eq_of_mem_set hz with hz | rfl
                  · obtain ⟨z', hz', rfl⟩ := List.mem_map.1 hz
                    exact .inl ⟨q, z', hz', rfl⟩
                  · exact .inr rfl
                · rw [setG_ne _ _ hq] at hz
                  obtain ⟨z', hz', rfl⟩ := List.mem_map.1 hz
                  exact .inl ⟨q, z', hz', rfl⟩
            refine hu.move H (fun b hb => ⟨hb.imp (Nat.le_refl _) (fun q z hz hd => ?_) (fun t ht he => .inl ⟨(hne t).1 ht, he⟩), rfl⟩) (fun _ b hb => hb.elim) (fun p z hp hz hzo => ?_) (fun p t hp hst hr hg => ⟨by rw [hr] at hg ⊢; exact (hne t).2 hg, rfl⟩)
            · rcases hmem q z hz with ⟨q', z', h3, h4⟩ | h3
              · exact .inl ⟨q', z', h3, by rw [← h4]; exact hd⟩
              · rw [h3] at hd; exact hd.elim
            · have h0 : p.r ≠ 0 := by
                rcases hp with hp | ⟨hp, hst⟩
                · rw [hp] at hu; exact hu.1
                · rw [hp] at hu
                  simp only [LeafR] at hu
                  cases hs : p.st with
                  | nil => exact absurd hs hst
                  | cons a b => rw [hs] at hu; exact hu.1
              refine ⟨_, hgq _ _ z h0 hz (hu1 p hp), kill_own r k _ hzo, rfl, z.D, h.leaf _ z (List.mem_of_getElem? hz), fun _ _ => rfl⟩
          · rw [hk]; trivial
      split at hg
      · rename_i e l hleaf
        injection hg with hg
        exact mv _ hleaf (by intro e; cases e) rfl hg.symm
      · rename_i i e l hleaf
        injection hg with hg
        exact mv _ hleaf (by intro e; cases e) rfl hg.symm
      · cases hg
end
end Go.I

/-! ISem9 -/
set_option linter.unusedVariables false
set_option linter.unusedSimpArgs false
namespace Go.I
open Go.RowKit Go.Proofs.YtogfddilolannaaDoorW.PrintWords
section
variable {B : Tab}
theorem LeafR.oneCell {X : Base B} {ok Γ β w} {v : VT B} {c : Value} {D : Nat → Prop} (h : LeafR X ok Γ β w v c D) (hv : v ≠ .dead) : c.oneCell' = true := by
  have own : ∀ {n : Nat} {e : TypeId} {l : List (B.T e)} {c : Value} {D : Nat → Prop}, Own w n (.own e l : VT B) c D → c.oneCell' = true := by
    intro n e l c D h
    cases n with
    | zero => exact h.elim
    | succ n => obtain ⟨inner, hq, _⟩ := h; obtain ⟨A, cap, rfl, _⟩ := q_slice hq; rfl
  cases v with
  | lit u => rw [h.1]; exact h.2
  | own e l => obtain ⟨n, h⟩ := h; exact own h
  | imm e l =>
    obtain ⟨n, h⟩ := h
    cases n with
    | zero => exact h.elim
    | succ n => obtain ⟨A, cap, rfl, _⟩ := h; rfl
  | iptr e x off => obtain ⟨ad, cs, n, rfl, _⟩ := h; rfl
  | bld s => obtain ⟨b, p, v, rfl, _⟩ := h; rfl
  | pb i e x => exact PbX.one h
  | dead => exact absurd rfl hv
  | ptr p =>
    simp only [LeafR] at h
    cases hs : p.st with
    | nil => rw [hs] at h; obtain ⟨t, _, _, rfl⟩ := h; rfl
    | cons y st => rw [hs] at h; obtain ⟨_, _, ad, _, _, rfl⟩ := h; rfl
  | «at» p =>
    obtain ⟨r, k, st⟩ := p
    obtain ⟨_, x, hx, hxo, hc⟩ := h
    cases st with
    | nil => simp only at hc; exact hc.2
    | cons y st => obtain ⟨ad, _, _, h1⟩ := hc; exact h1
theorem Rel.grabF (H : TabE B) {X : Base B} {a : Act} {w : World} {β : Nat → Nat} : ∀ (l : List (Ent B)) {s s' : S B} {Γ : Gh B} {mm : Bool} (f : VT B → VT B), Rel X s a w Γ β → (∀ y ∈ l, LeafR X (okB X Γ β w) Γ β w (f y.v) y.c none_) → s.grabF mm f (vs l) = some s' →
    ∃ Γ', Rel X s' a w Γ' β ∧ csOf (Γ' 0) = csOf (Γ 0) ++ csOf l ∧ s'.tm.length = s.tm.length ∧ ∀ c ∈ csOf l, c.oneCell' = true
  | [], s, s', Γ, mm, f, h, _, hg => by
    simp only [vs, List.map_nil, S.grabF, Option.some.injEq] at hg
    subst hg
    exact ⟨Γ, h, by simp [csOf], rfl, fun c hc => by simp [csOf] at hc⟩
  | y :: l, s, s', Γ, mm, f, h, hl, hg => by
    simp only [vs, List.map_cons, S.grabF, Option.bind_eq_some_iff] at hg
    obtain ⟨s1, h1, h2⟩ := hg
    obtain ⟨Γ1, k1, k2, k3, k4⟩ := h.grab1 H (hl y (by simp)) h1
    obtain ⟨Γ2, m1, m2, m3, m4⟩ := Rel.grabF H l (fun u => killBy (f y.v) (f u)) k1 (fun z hz => k4 _ _ (hl z (by simp [hz]))) h2
    refine ⟨Γ2, m1, ?_, m3.trans k3, ?_⟩
    · rw [m2, k2, List.append_assoc]
      rfl
    · intro c hc
      rcases List.mem_cons.1 (show c ∈ y.c :: csOf l from hc) with rfl | hc
      · exact (hl y (by simp)).oneCell (by rintro e; rw [e] at h1; simp [S.grab1] at h1)
      · exact m4 c hc
theorem LeafR.none_of {X : Base B} {ok Γ β w} {v : VT B} {c D} (h : LeafR X ok Γ β w v c D) (hD : ∀ b, ¬ D b) : LeafR X ok Γ β w v c none_ := by
  cases v with
  | own e l => obtain ⟨n, h⟩ := h; exact ⟨n, Own.mono h (fun b hb => (hD b hb).elim)⟩
  | bld s => exact BldR.mono h (fun b hb => (hD b hb).elim)
  | pb i e x => exact PbX.mono h (fun b hb => (hD b hb).elim)
  | _ => exact LeafR.any h rfl
theorem Rel.grab (H : TabE B) {X : Base B} {s s' : S B} {a w Γ β} (h : Rel X s a w Γ β) {x : WT B} {c : Value} {E : List (Ent B)} (hp : Peek X Γ β w x c E) {m : Bool} (hg : s.grab x.leaves m = some s') :
    ∃ Γ', Rel X s' a w Γ' β ∧ csOf (Γ' 0) = csOf (Γ 0) ++ csOf E ∧ s'.tm.length = s.tm.length ∧ ∀ c ∈ csOf E, c.oneCell' = true := by
  unfold S.grab at hg
  rw [hp.lv] at hg
  exact h.grabF H E (fun v => v) (fun y hy => (hp.lf y hy).1.none_of (hp.lf y hy).2) hg
/-- An operand into the hand. -/
theorem Rel.take (H : TabE B) {X : Base B} {s s' : S B} {a w Γ β} (h : Rel X s a w Γ β) {ty : TypeId} {x : Operand} {m : Bool} (hg : s.take ty x m = some s') :
    ∃ (Γ' : Gh B) (E : List (Ent B)), Rel X s' a w Γ' β ∧ csOf (Γ' 0) = csOf (Γ 0) ++ csOf E ∧ s'.tm.length = s.tm.length ∧ (s.peek ty x).leaves.length = E.length ∧ WR (s.peek ty x) (a.eval x) (csOf E) ∧ ∀ c ∈ csOf E, c.oneCell' = true := by
  obtain ⟨E, hE⟩ := h.peek ty x
  have hlen : (s.peek ty x).leaves.length = E.length := by rw [hE.lv, vs_length]
  cases x with
  | const v =>
    simp only [S.take] at hg
    split at hg
    · cases hg
    rename_i hnd
    injection hg with hg
    subst hg
    obtain ⟨D, h1, h2, rfl⟩ := Peek.one (v := constV B ty v) hE
    refine ⟨_, _, h.push H (h1.none_of h2), by rw [setG_same, csOf_append]; rfl, rfl, hlen, hE.wr, fun c hc => ?_⟩
    have : c = a.eval (.const v) := by simpa [csOf] using hc
    rw [this]
    exact h1.oneCell (by rintro e; rw [e] at hnd; exact hnd rfl)
  | tmp t => obtain ⟨Γ', k1, k2, k3, k4⟩ := h.grab H hE hg; exact ⟨Γ', E, k1, k2, k3, hlen, hE.wr, k4⟩
  | global t => obtain ⟨Γ', k1, k2, k3, k4⟩ := h.grab H hE hg; exact ⟨Γ', E, k1, k2, k3, hlen, hE.wr, k4⟩
  | func t => obtain ⟨Γ', k1, k2, k3, k4⟩ := h.grab H hE hg; exact ⟨Γ', E, k1, k2, k3, hlen, hE.wr, k4⟩
theorem set_out {α : Type} {l : List α} {n : Nat} (h : ¬ n < l.length) (x : α) : setAt l n x = l := by
  rw [setAt_eq]
  exact List.set_eq_of_length_le (by omega)
theorem put_out {a : Act} {d : Nat} (h : ¬ d < a.tmps.size) (c : Value) : a.put (some d) c = a := by
  cases a with | mk t df =>
  simp only [Act.put, Act.mk.injEq, and_true]
  exact Array.setIfInBounds_eq_of_size_le (by simpa using h)
theorem Rel.dropHd (H : TabE B) {X : Base B} {s : S B} {a w Γ β} (h : Rel X s a w Γ β) : Rel X { s with hd := [] } a w (setG Γ 0 []) β := by
  have := h.reH H (w' := w) [] (fun _ e he => by cases he) (fun j k x y hx => by simp at hx) (fun e he => by cases he) (fun _ _ _ => rfl) (Nat.le_refl _) rfl rfl rfl
  exact this
/-- tmp dst becomes what has been read. -/
theorem Rel.defS (H : TabE B) {X : Base B} {s : S B} {a w Γ β} (h : Rel X s a w Γ β) (hh : s.hd = []) {x : WT B} {c : Value} {E : List (Ent B)} (hp : Peek X Γ β w x c E) (dst : Option Nat) :
    ∃ Γ', Rel X (s.def_ dst x) (a.put dst c) w Γ' β ∧ (s.def_ dst x).hd = [] ∧ (s.def_ dst x).tm.length = s.tm.length := by
  cases dst with
  | none => exact ⟨Γ, h, hh, rfl⟩
  | some d =>
    by_cases hd : d < s.tm.length
    · unfold S.def_
      simp only
      by_cases ho : (s.tm.getD d (.one .dead)).leaves.any V.isOwn = true
      · rw [if_pos ho]
        have h1 := h.map H (V.killR (2 * d + 2)) (killR_same _) (killR_own _)
        have hna : NoAlias (fun r => (Γ r).map fun x : Ent B => { x with v := V.killR (2 * d + 2) x.v }) (2 * d + 2) := by
          intro r z p hz hp'
          obtain ⟨z', _, rfl⟩ := List.mem_map.1 hz
          exact killR_alias (.inl hp')
        refine ⟨_, Rel.defT H h1 (d := d) (x := x.map (V.killR (2 * d + 2))) (c := c) (E := E.map fun y => { y with v := V.killR (2 * d + 2) y.v }) ?_ ?_ ?_ hna ?_ (by simpa [S.map] using hd), by simp [S.killR, S.map, hh], by simp [S.killR, S.map, setAt_eq]⟩
        · rw [map_leaves, hp.lv]; simp [vs, Function.comp_def]
        · have := hp.wr.map (f := V.killR (2 * d + 2))
          have e : csOf (E.map fun y : Ent B => { y with v := V.killR (2 * d + 2) y.v }) = csOf E := by simp [csOf, Function.comp_def]
          rw [e]; exact this
        · intro y hy
          obtain ⟨y', hy', rfl⟩ := List.mem_map.1 hy
          refine ⟨?_, (hp.lf y' hy').2⟩
          rcases killR_same (2 * d + 2) y'.v with e | e
          · show LeafR X _ _ β w (V.killR (2 * d + 2) y'.v) y'.c y'.D
            rw [e]
            have hne : ∀ r, (Γ r).map (fun x : Ent B => { x with v := V.killR (2 * d + 2) x.v }) ≠ [] ↔ Γ r ≠ [] := fun r => by simp
            refine (hp.lf y' hy').1.move H (fun b hb => ⟨hb.imp (Nat.le_refl _) (fun q z hz hD => ?_) (fun t ht he => .inl ⟨(hne _).1 ht, he⟩), rfl⟩) (fun _ _ _ => rfl) (fun p z hp' hz hzo => ⟨{ z with v := V.killR (2 * d + 2) z.v }, by simp [hz], killR_own _ _ hzo, rfl, z.D, h.leaf _ z (List.mem_of_getElem? hz), fun _ _ => rfl⟩) (fun p t hp' hst hr hg => ⟨(hne _).2 hg, rfl⟩)
            obtain ⟨z', hz', rfl⟩ := List.mem_map.1 hz
            exact .inl ⟨q, z', hz', hD⟩
          · show LeafR X _ _ β w (V.killR (2 * d + 2) y'.v) y'.c y'.D
            rw [e]; trivial
        · intro y hy p hp'
          obtain ⟨y', _, rfl⟩ := List.mem_map.1 hy
          exact killR_alias (.inl hp')
      · rw [if_neg ho]
        have hno : (s.root (2 * d + 2)).any V.isOwn = false := by
          rw [root_tm]
          simp only [List.getD_eq_getElem?_getD, List.getElem?_eq_getElem hd, Option.getD_some] at ho ⊢
          simpa using ho
        have hna := h.noAlias hno
        refine ⟨_, Rel.defT H h hp.lv hp.wr hp.lf hna (fun y hy p hp' he => ?_) hd, hh, by simp [setAt_eq]⟩
        -- an alias tells of one's own
        have hl := (hp.lf y hy).1
        have : ∃ z, (Γ p.r)[p.k]? = some z ∧ z.v.isOwn = true := by
          rcases hp' with hp' | ⟨hp', hst⟩
          · rw [hp'] at hl; obtain ⟨_, z, h1, h2, _⟩ := hl; exact ⟨z, h1, h2⟩
          · rw [hp'] at hl
            simp only [LeafR] at hl
            cases hs : p.st with
            | nil => exact absurd hs hst
            | cons a b =>
              rw [hs] at hl
              obtain ⟨_, z, ad, h1, h2, _⟩ := hl
              obtain ⟨e, l, h3, _⟩ := h2
              exact ⟨z, h1, by rw [h3]; rfl⟩
        obtain ⟨z, h1, h2⟩ := this
        rw [he] at h1
        rw [h.root] at hno
        exact (List.any_eq_false.1 hno z.v (List.mem_map.2 ⟨z, List.mem_of_getElem? h1, rfl⟩)) h2
    · have e : s.def_ (some d) x = s := by
        unfold S.def_
        simp only
        rw [if_neg (by simp [List.getD_eq_getElem?_getD, List.getElem?_eq_none (Nat.le_of_not_lt hd), W.leaves, V.isOwn]), set_out hd]
      rw [e, put_out (by rw [← h.size]; exact hd)]
      exact ⟨Γ, h, hh, rfl⟩
/-- tmp dst becomes what the hand holds. -/
theorem Rel.layS (H : TabE B) {X : Base B} {s : S B} {a w Γ β} (h : Rel X s a w Γ β) {x : WT B} {c : Value} (hw : WR x c (csOf (Γ 0))) (hlen : x.leaves.length = (Γ 0).length) (dst : Option Nat) :
    ∃ Γ', Rel X (s.lay dst x) (a.put dst c) w Γ' β ∧ (s.lay dst x).hd = [] ∧ (s.lay dst x).tm.length = s.tm.length := by
  cases dst with
  | none => exact ⟨_, h.dropHd H, rfl, rfl⟩
  | some d =>
    have hhd : s.hd = vs (Γ 0) := h.root 0
    by_cases hd : d < s.tm.length
    · unfold S.lay
      simp only
      by_cases ho : (s.tm.getD d (.one .dead)).leaves.any V.isOwn = true
      · rw [if_pos ho]
        have h1 := h.map H (V.killR (2 * d + 2)) (killR_same _) (killR_own _)
        have hhd1 : (s.killR (2 * d + 2)).hd = vs ((Γ 0).map fun x : Ent B => { x with v := V.killR (2 * d + 2) x.v }) := h1.root 0
        have hl1 : ((s.killR (2 * d + 2)).hd).length = x.leaves.length := by rw [hhd1, vs_length, List.length_map, hlen]
        refine ⟨_, Rel.layT H h1 (d := d) (x := x.remake (s.killR (2 * d + 2)).hd) (c := c) ?_ ?_ ?_ (by simpa [S.map] using hd), rfl, by simp [S.killR, S.map, setAt_eq]⟩
        · rw [remake_leaves _ _ hl1, hhd1]
        · have e : csOf ((Γ 0).map fun y : Ent B => { y with v := V.killR (2 * d + 2) y.v }) = csOf (Γ 0) := by simp [csOf, Function.comp_def]
          rw [e]; exact hw.remake hl1
        · intro r z p hz hp'
          obtain ⟨z', _, rfl⟩ := List.mem_map.1 hz
          exact killR_alias (.inl hp')
      · rw [if_neg ho]
        have hno : (s.root (2 * d + 2)).any V.isOwn = false := by
          rw [root_tm]
          simp only [List.getD_eq_getElem?_getD, List.getElem?_eq_getElem hd, Option.getD_some] at ho ⊢
          simpa using ho
        have hl1 : s.hd.length = x.leaves.length := by rw [hhd, vs_length, hlen]
        exact ⟨_, Rel.layT H h (by rw [remake_leaves _ _ hl1, hhd]) (hw.remake hl1) (h.noAlias hno) hd, rfl, by simp [setAt_eq]⟩
    · have e : s.lay (some d) x = { s with hd := [] } := by
        unfold S.lay
        simp only
        rw [if_neg (by simp [List.getD_eq_getElem?_getD, List.getElem?_eq_none (Nat.le_of_not_lt hd), W.leaves, V.isOwn]), set_out hd]
      rw [e, put_out (by rw [← h.size]; exact hd)]
      exact ⟨_, h.dropHd H, rfl, rfl⟩
end
end Go.I

/-! ISem10 -/
set_option linter.unusedVariables false
set_option linter.unusedSimpArgs false
namespace Go.I
open Go.RowKit Go.Proofs.YtogfddilolannaaDoorW.PrintWords
def descAgg : TypeDesc → Bool
  | .struct _ | .array _ _ => true
  | _ => false
/-- Zero leaves and zero cells. -/
def ZR {T : TypeId → Type} : List (V T) → List Value → Prop
  | [], [] => True
  | .lit v :: zs, c :: cs => c = v ∧ v.oneCell' = true ∧ ZR zs cs
  | .own _ [] :: zs, c :: cs => c = .slice none 0 0 ∧ ZR zs cs
  | _, _ => False
def skD : Option IntKind → TypeDesc
  | some k => .int k
  | none => .string
/-- A struct's fields, of numbers and texts alone: which kinds they have, one behind the other. -/
def SeqL (P : Program) : Nat → List (Option IntKind) → List Field → Prop
  | _, [], [] => True
  | o, c :: cs, f :: fs => f.name ≠ "_" ∧ f.offset = o ∧ P.underlying f.type = some (skD c) ∧ SeqL P (o + 1) cs fs
  | _, _, _ => False
def SeqP (P : Program) (t : TypeId) (ks : List (Option IntKind)) : Prop :=
  P.stoodInHeld t = false ∧ P.eqGuardType P.depth t = false ∧ ∃ fs : Array Field, P.underlying t = some (.struct fs) ∧ SeqL P 0 ks fs.toList
/-- What the table says of the program's types. -/
structure TabP (P : Program) (B : Tab) : Prop extends TabE B where
  mixed : P.follows .mixedOrders = true
  lay_ok : ∀ t g n, B.lay t = some (g, n) → ∃ d i, P.underlying t = some d ∧ descAgg d = g ∧ P.info? t = some i ∧ i.size = n ∧ (g = false → n = 1) ∧ 0 < n
  zero_ok : ∀ t z, B.zero t = some z → ∃ i v, P.info? t = some i ∧ i.zero = some v ∧ ZR z v.cells.toList
  elem_ok : ∀ t e, B.elem t = some e → P.underlying t = some (.slice e) ∧ ∃ i v, P.info? e = some i ∧ i.zero = some v ∧ i.size = B.size e ∧ i.bytes = B.bytes e ∧ v.cells.size = B.size e ∧ 0 < B.size e ∧ 0 < B.bytes e
  fld_ok : ∀ (t : TypeId) (f o n : Nat), (B.flds t)[f]? = some (o, n) → ∃ (fs : Array Field) (fld : Field), P.underlying t = some (.struct fs) ∧ (fs[f]? : Option Field) = some fld ∧ fld.offset = o ∧ ∃ i, P.info? fld.type = some i ∧ i.size = n ∧ n ≠ 0
  bld_ok : ∀ t z, B.zero t = some z → B.flds t ≠ [] → ∃ (it : TypeInfo) (zv : Value) (place : Nat → Option (Nat × Nat)), P.info? t = some it ∧ it.zero = some zv ∧
    (∀ i o n, (B.flds t)[i]? = some (o, n) → place i = some (o, n) ∧ o + n ≤ z.length) ∧ ∀ parts, P.built t parts = Instr.fill place zv.cells parts
  plain_ok : ∀ e, B.plain e = true → ∀ x v, v ∈ B.enc e x → ∃ u : Value, v = .lit u ∧ u.oneCell' = true
  to_ok : ∀ src dst v l, B.toBytes src dst v = some l → ∃ (e : TypeId) (xs : List (B.T e)), P.underlying src = some (.slice e) ∧ P.underlying e = some (.int .u8) ∧ P.underlying dst = some .string ∧ (v = .own e xs ∨ v = .imm e xs) ∧
    B.size e = 1 ∧ l.length = xs.length ∧ ∀ (j : Nat) x, xs[j]? = some x → ∃ m, l[j]? = some m ∧ B.enc e x = [.lit (.int .u8 m)]
  of_ok : ∀ e bs l, B.ofBytes e bs = some l → P.underlying e = some (.int .u8) ∧ B.size e = 1 ∧ l.length = bs.length ∧ ∀ (j : Nat) x, l[j]? = some x → ∃ m, bs[j]? = some m ∧ B.enc e x = [.lit (.int .u8 m)]
  str_ok : ∀ t, B.isStr t = true → P.underlying t = some .string
  bool_ok : ∀ t, B.isBool t = true → P.underlying t = some .bool
  ikind_ok : ∀ t k, B.ikind t = some k → P.underlying t = some (.int k)
  sq_ok : ∀ t ks, B.sq t = some ks → SeqP P t ks := by intro t ks h; cases h
  bldZ : B.bldT ≠ 0 → ∃ i v, P.info? B.bldT = some i ∧ i.zero = some v ∧ v.cells = #[.pointer none, .slice none 0 0] := by intro h; exact absurd rfl h
  bldF : ∀ f kd, B.bldOp f = some kd → BldC P B f kd := by intro f kd h; cases h
section
variable {P : Program} {B : Tab} {M : FuncId → List Md} {F : FuncId → Option (Fi B)} {kl : KL}
/-- What an operation leaves: a state of which the rest's tree comes to r. -/
def Done (X : Base B) (M : FuncId → List Md) (F : FuncId → Option (Fi B)) (kl : KL) (L n : Nat) (k : S B → Tr B) (r : Res B) (a : Act) (w : World) : Prop :=
  ∃ s Γ β m, m ≤ n ∧ Rel X s a w Γ β ∧ s.hd = [] ∧ s.tm.length = L ∧ G std M F m kl (k s) r
/-- The same, where the world is as it was. -/
def DoneS (w : World) (X : Base B) (M : FuncId → List Md) (F : FuncId → Option (Fi B)) (kl : KL) (L n : Nat) (k : S B → Tr B) (r : Res B) (a : Act) (w' : World) : Prop := w' = w ∧ Done X M F kl L n k r a w'
theorem G.cond_inv {n : Nat} {b : Bool} {x y : Unit → Tr B} {r : Res B} (h : G std M F n kl (.cond b x y) r) : (b = true ∧ G std M F n kl (x ()) r) ∨ (b = false ∧ G std M F n kl (y ()) r) := by
  cases h with
  | condT h => exact .inl ⟨rfl, h⟩
  | condF h => exact .inr ⟨rfl, h⟩
theorem G.no_inv {n : Nat} {r : Res B} (h : G std M F n kl (.no : Tr B) r) : False := by cases h
theorem G.ofOpt_inv {n : Nat} {α : Type} {o : Option α} {k : α → Tr B} {r : Res B} (h : G std M F n kl (ofOpt o k) r) : ∃ x, o = some x ∧ G std M F n kl (k x) r := by
  cases o with
  | none => exact (G.no_inv h).elim
  | some x => exact ⟨x, rfl, h⟩
theorem G.guard_inv {n : Nat} {b : Bool} {k : Unit → Tr B} {r : Res B} (h : G std M F n kl (guardT b k) r) : b = true ∧ G std M F n kl (k ()) r := by
  rcases G.cond_inv h with h | h
  · exact h
  · exact (G.no_inv h.2).elim
theorem Rel.hd0 {X : Base B} {s : S B} {a w Γ β} (h : Rel X s a w Γ β) (hh : s.hd = []) : Γ 0 = [] := by
  have := h.root 0
  rw [show s.root 0 = s.hd from rfl, hh] at this
  exact List.map_eq_nil_iff.1 this.symm
theorem wp_value {o : Oper} {a : Act} {w w' : World} {v : Value} {K : Act → World → Prop} {Q : Exit → Act → World → Prop} (hr : (execOp a.eval o).run P w = .ok (.value v) w') (h : K (a.put o.dst v) w') : o.wp P a w K Q := by
  unfold Oper.wp
  rw [hr]
  exact h
/-- The blocks that an operation reads. -/
def Rd (o : Oper) (a : Act) (b : Nat) : Prop := (∃ t x ad, o.op = .load t x ∧ a.eval x = .pointer (some ad) ∧ ad.block = b) ∨ ∃ t u x ad n m, o.op = .convert t u x ∧ a.eval x = .slice (some ad) n m ∧ 0 < n ∧ ad.block = b
/-- An operation that yields a value, the same in every world where what it reads lies as it lies; the world stays. -/
def OpS (P : Program) (o : Oper) (a : Act) (w : World) (K : Act → World → Prop) : Prop := ∃ v, (∀ w' : World, (∀ b, Rd o a b → w'.heap[b]? = w.heap[b]?) → (execOp a.eval o).run P w' = .ok (.value v) w') ∧ K (a.put o.dst v) w
theorem wp_valueS {o : Oper} {a : Act} {w : World} {v : Value} {K : Act → World → Prop} (hr : ∀ w, (execOp a.eval o).run P w = .ok (.value v) w) (h : K (a.put o.dst v) w) : OpS P o a w K := ⟨v, fun w' _ => hr w', h⟩
theorem OpS.wp {o : Oper} {a : Act} {w : World} {K : Act → World → Prop} {Q : Exit → Act → World → Prop} (h : OpS P o a w K) : o.wp P a w K Q := by
  obtain ⟨v, hr, h⟩ := h
  exact wp_value (hr w fun _ _ => rfl) h
/-- Behind a value that has been read or told: tmp dst has it. -/
theorem done_def (H : TabE B) {X : Base B} {s : S B} {a w Γ β} (h : Rel X s a w Γ β) (hh : s.hd = []) {x : WT B} {c : Value} {E : List (Ent B)} (hp : Peek X Γ β w x c E) {dst : Option Nat} {n : Nat} {k : S B → Tr B} {r : Res B}
    (hg : G std M F n kl (k (s.def_ dst x)) r) : DoneS w X M F kl s.tm.length n k r (a.put dst c) w := by
  obtain ⟨Γ', h1, h2, h3⟩ := h.defS H hh hp dst
  exact ⟨rfl, _, Γ', β, n, Nat.le_refl _, h1, h2, h3, hg⟩
theorem done_lay (H : TabE B) {X : Base B} {s : S B} {a w Γ β} (h : Rel X s a w Γ β) {x : WT B} {c : Value} (hw : WR x c (csOf (Γ 0))) (hlen : x.leaves.length = (Γ 0).length) {dst : Option Nat} {n : Nat} {k : S B → Tr B} {r : Res B}
    (hg : G std M F n kl (k (s.lay dst x)) r) : Done X M F kl s.tm.length n k r (a.put dst c) w := by
  obtain ⟨Γ', h1, h2, h3⟩ := h.layS H hw hlen dst
  exact ⟨_, Γ', β, n, Nat.le_refl _, h1, h2, h3, hg⟩
theorem peek_lit (X : Base B) (Γ : Gh B) (β : Nat → Nat) (w : World) (v : Value) (h1 : v.oneCell' = true) : Peek X Γ β w (.one (.lit v)) v [⟨.lit v, v, none_⟩] :=
  ⟨rfl, rfl, fun y hy => by simp at hy; subst hy; exact ⟨⟨rfl, h1⟩, fun b hb => hb⟩⟩
section
variable {X : Base B} {s : S B} {a : Act} {w : World} {Γ : Gh B} {β : Nat → Nat} {o : Oper} {n : Nat} {k : S B → Tr B} {r : Res B} {Q : Exit → Act → World → Prop}
theorem op_move (H : TabE B) (h : Rel X s a w Γ β) (hh : s.hd = []) {x : Operand} (ho : o.op = .move x) (hg : G std M F n kl (stepOp std M o s k) r) : OpS P o a w (DoneS w X M F kl s.tm.length n k r) := by
  simp only [stepOp, ho] at hg
  obtain ⟨E, hE⟩ := h.peek o.type x
  exact wp_valueS (fun w => by simp only [execOp, ho]; rfl) (done_def H h hh hE hg)
theorem op_assign (H : TabE B) (h : Rel X s a w Γ β) (hh : s.hd = []) {x : Operand} (ho : o.op = .assign x) (hg : G std M F n kl (stepOp std M o s k) r) : OpS P o a w (DoneS w X M F kl s.tm.length n k r) := by
  simp only [stepOp, ho] at hg
  obtain ⟨s', h1, hg⟩ := G.ofOpt_inv hg
  obtain ⟨Γ', E, k1, k2, k3, k4, k5, _⟩ := h.take H h1
  rw [h.hd0 hh] at k2
  have hcs : csOf (Γ' 0) = csOf E := by simpa [csOf] using k2
  refine wp_valueS (fun w => by simp only [execOp, ho]; rfl) ⟨rfl, ?_⟩
  rw [← k3]
  exact done_lay H k1 (by rw [hcs]; exact k5) (by rw [k4, ← cs_length, ← hcs, cs_length]) hg
theorem op_pick (H : TabE B) (h : Rel X s a w Γ β) (hh : s.hd = []) {c x y : Operand} (ho : o.op = .pick c x y) (hg : G std M F n kl (stepOp std M o s k) r) : OpS P o a w (DoneS w X M F kl s.tm.length n k r) := by
  simp only [stepOp, ho] at hg
  split at hg
  · rename_i t hc
    have e := h.litPeek hc
    rcases G.cond_inv hg with ⟨ht, hg2⟩ | ⟨ht, hg2⟩
    · subst ht
      obtain ⟨E, hE⟩ := h.peek o.type x
      exact wp_valueS (fun w => by simp only [execOp, ho, e, asBool]; rfl) (done_def H h hh hE hg2)
    · subst ht
      obtain ⟨E, hE⟩ := h.peek o.type y
      exact wp_valueS (fun w => by simp only [execOp, ho, e, asBool]; rfl) (done_def H h hh hE hg2)
  · exact (G.no_inv hg).elim
theorem op_nilCheck (H : TabE B) (h : Rel X s a w Γ β) (hh : s.hd = []) {x : Operand} (ho : o.op = .nilCheck x) (hg : G std M F n kl (stepOp std M o s k) r) : OpS P o a w (DoneS w X M F kl s.tm.length n k r) := by
  simp only [stepOp, ho] at hg
  split at hg
  · rename_i p hx
    obtain ⟨E, hE⟩ := h.peek 0 x
    rw [hx] at hE
    obtain ⟨D, hl, hD, rfl⟩ := hE.one
    have e : ∃ ad, a.eval x = .pointer (some ad) := by
      simp only [LeafR] at hl
      cases hs : p.st with
      | nil => rw [hs] at hl; obtain ⟨t, _, _, h3⟩ := hl; exact ⟨_, h3⟩
      | cons y st => rw [hs] at hl; obtain ⟨_, _, ad, _, _, h3⟩ := hl; exact ⟨ad, h3⟩
    obtain ⟨ad, e⟩ := e
    exact wp_valueS (fun w => by simp only [execOp, ho, e]; rfl) (by rw [e] at hE; exact done_def H h hh hE hg)
  · exact (G.no_inv hg).elim
theorem op_unOp (H : TabE B) (h : Rel X s a w Γ β) (hh : s.hd = []) {op : UnOp} {t : TypeId} {x : Operand} (ho : o.op = .unOp op t x) (hg : G std M F n kl (stepOp std M o s k) r) : OpS P o a w (DoneS w X M F kl s.tm.length n k r) := by
  simp only [stepOp, ho] at hg
  split at hg
  · rename_i b hx
    have e := h.litPeek hx
    exact wp_valueS (v := .bool (std.not b)) (fun w => by simp [execOp, ho, e, Op.unary, std]) (done_def H h hh (peek_lit X Γ β w _ rfl) hg)
  · rename_i i m hx
    have e := h.litPeek hx
    exact wp_valueS (v := .int i (std.wrap i (std.sub 0 m))) (fun w => by simp [execOp, ho, e, Op.unary, Op.intArith, std]) (done_def H h hh (peek_lit X Γ β w _ rfl) hg)
  · exact (G.no_inv hg).elim
theorem guard_lit (op : BinOp) (t : TypeId) (x y : Operand) (u v : Value) (hu : u.oneCell' = true) (hn : u ≠ .nilIface) (w : World) : (eqGuard op t x y u v).run P w = .ok () w := by
  unfold eqGuard
  cases op <;> cases u <;> first | rfl | exact absurd rfl hn | simp [Value.oneCell'] at hu
end
end
end Go.I

/-! ISem11 -/
set_option linter.unusedVariables false
set_option linter.unusedSimpArgs false
namespace Go.I
open Go.RowKit Go.Proofs.YtogfddilolannaaDoorW.PrintWords
section
variable {B : Tab}
theorem own_cap {w : World} {n : Nat} {e : TypeId} {l : List (B.T e)} {c : Value} {D : Nat → Prop} (h : Own w n (.own e l : VT B) c D) : ∃ A cap, c = .slice A l.length cap ∧ l.length ≤ cap ∧ (0 < l.length → ∃ a, A = some a) := by
  cases n with
  | zero => exact h.elim
  | succ n =>
    obtain ⟨inner, hq, _⟩ := h
    obtain ⟨A, cap, rfl, hle⟩ := q_slice hq
    refine ⟨A, cap, rfl, hle, fun hp => ?_⟩
    obtain ⟨ad, ha, _⟩ := q_cells hq hp
    exact ⟨ad, ha⟩
theorem own_frozen {w : World} {n : Nat} {e : TypeId} {l : List (B.T e)} {c : Value} {D : Nat → Prop} (h : Own w n (.own e l : VT B) c D) {a : Addr} {m cap : Nat} (hc : c = .slice (some a) m cap) (j : Nat) : w.frozen? (a.add j) = false := by
  cases n with
  | zero => exact h.elim
  | succ n =>
    obtain ⟨inner, hq, _⟩ := h
    obtain ⟨_, cells, hb⟩ := q_typed hq a.block (by rw [hc]; rfl)
    unfold World.frozen?
    rw [add_block, hb]
    simp
theorem add_add (a : Addr) (m j : Nat) : (a.add m).add j = a.add (m + j) := by
  unfold Addr.add
  by_cases h1 : m = 0 <;> by_cases h2 : j = 0 <;> simp [h1, h2, Nat.add_assoc]
/-- A place in a row of one's own: the leaf that lies there, its cell. -/
theorem AddrR.leaf (H : TabE B) {w : World} {st : List (Int × Nat)} : ∀ {n : Nat} {v : VT B} {c D ad}, AddrR w st v c ad → Own w n v c D →
    ∃ u m D', w.cell? ad = some u ∧ w.frozen? ad = false ∧ Own w m (V.walk std v st) u D' ∧ ∀ b, D' b → D b := by
  induction st with
  | nil => intro n v c D ad h; exact h.elim
  | cons y st ih =>
    obtain ⟨i, off⟩ := y
    rintro n v c D ad ⟨e, l, rfl, a, cap, rfl, h0, h1, hs, h2⟩ ho
    cases n with
    | zero => exact ho.elim
    | succ n =>
      have hlen : off < (B.enc e (std.get (B.dflt e) l i)).length := by rw [H.enc_len]; exact hs
      have hg : (B.enc e (std.get (B.dflt e) l i))[off]? = some (B.enc e (std.get (B.dflt e) l i))[off] := List.getElem?_eq_getElem hlen
      have hstep : V.step std (.own e l : VT B) i off = (B.enc e (std.get (B.dflt e) l i))[off] := by simp [V.step, List.getD_eq_getElem?_getD, hg]
      obtain ⟨a', cap', u', Dk, hc, hDa, hu', hk, hsub⟩ := own_at H ho i h0 h1 hg
      injection hc with ha _ _
      injection ha with ha
      subst ha
      rcases h2 with ⟨rfl, rfl⟩ | ⟨hne, v', u, hv, hu, hr⟩
      · refine ⟨u', n, Dk, hu', own_frozen ho rfl _, ?_, hsub⟩
        show Own w n (V.step std (.own e l : VT B) i off) u' Dk
        rw [hstep]
        exact hk
      · rw [hg] at hv
        injection hv with hv
        rw [hu] at hu'
        injection hu' with hu'
        subst hu'
        obtain ⟨u2, m, D', h3, h4, h5, h6⟩ := ih hr (by rw [← hv]; exact hk)
        refine ⟨u2, m, D', h3, h4, ?_, fun b hb => hsub b (h6 b hb)⟩
        show Own w m (V.walk std (V.step std (.own e l : VT B) i off) st) u2 D'
        rw [hstep, hv]
        exact h5
theorem AddrR.snoc (H : TabE B) {w : World} {i : Int} {off : Nat} {e : TypeId} {l : List (B.T e)} {a : Addr} {cap : Nat} (h0 : 0 ≤ i) (h1 : i < l.length) (hs : off < B.size e) :
    ∀ {st : List (Int × Nat)} {v : VT B} {c ad}, AddrR w st v c ad → V.walk std v st = .own e l → w.cell? ad = some (.slice (some a) l.length cap) → AddrR w (st ++ [(i, off)]) v c (a.add (i.toNat * B.size e + off)) := by
  intro st
  induction st with
  | nil => intro v c ad h; exact h.elim
  | cons y st ih =>
    obtain ⟨j, o⟩ := y
    rintro v c ad ⟨e', l', rfl, a', cap', rfl, k0, k1, ks, h2⟩ hw hc
    refine ⟨e', l', rfl, a', cap', rfl, k0, k1, ks, .inr ⟨by simp, ?_⟩⟩
    have hlen : o < (B.enc e' (std.get (B.dflt e') l' j)).length := by rw [H.enc_len]; exact ks
    have hg : (B.enc e' (std.get (B.dflt e') l' j))[o]? = some (B.enc e' (std.get (B.dflt e') l' j))[o] := List.getElem?_eq_getElem hlen
    have hstep : V.step std (.own e' l' : VT B) j o = (B.enc e' (std.get (B.dflt e') l' j))[o] := by simp [V.step, List.getD_eq_getElem?_getD, hg]
    rcases h2 with ⟨rfl, rfl⟩ | ⟨hne, v', u, hv, hu, hr⟩
    · refine ⟨_, _, hg, hc, ?_⟩
      have hw' : (B.enc e' (std.get (B.dflt e') l' j))[o] = .own e l := by rw [← hstep]; exact hw
      rw [hw']
      exact ⟨e, l, rfl, a, cap, rfl, h0, h1, hs, .inl ⟨rfl, rfl⟩⟩
    · refine ⟨v', u, hv, hu, ih hr ?_ hc⟩
      rw [hg] at hv
      injection hv with hv
      rw [← hv, ← hstep]
      exact hw
theorem farL_ne (j : Nat) : ∀ st : List (Int × Nat), st ≠ [] → farL j st ≠ [] := by
  intro st h
  cases st with
  | nil => exact absurd rfl h
  | cons y st => obtain ⟨i, o⟩ := y; cases st <;> simp [farL]
theorem AddrR.far (H : TabE B) {w : World} (j : Nat) : ∀ {st : List (Int × Nat)} {v : VT B} {c ad}, AddrR w st v c ad → (V.walk std v (farL j st)).isDead = false → AddrR w (farL j st) v c (ad.add j) := by
  intro st
  induction st with
  | nil => intro v c ad h; exact h.elim
  | cons y st ih =>
    obtain ⟨i, o⟩ := y
    rintro v c ad ⟨e', l', rfl, a', cap', rfl, k0, k1, ks, h2⟩ hd
    cases st with
    | nil =>
      rcases h2 with ⟨_, rfl⟩ | ⟨hne, _⟩
      · have hlt : o + j < B.size e' := by
          rw [← H.enc_len e' (std.get (B.dflt e') l' i)]
          apply Nat.lt_of_not_le
          intro hle
          have : V.step std (.own e' l' : VT B) i (o + j) = .dead := by simp [V.step, List.getD_eq_getElem?_getD, List.getElem?_eq_none hle]
          have hd' : (V.step std (.own e' l' : VT B) i (o + j)).isDead = false := hd
          rw [this] at hd'
          cases hd'
        exact ⟨e', l', rfl, a', cap', rfl, k0, k1, hlt, .inl ⟨rfl, by rw [add_add]; congr 1; omega⟩⟩
      · exact absurd rfl hne
    | cons z st =>
      rcases h2 with ⟨h, _⟩ | ⟨_, v', u, hv, hu, hr⟩
      · cases h
      · refine ⟨e', l', rfl, a', cap', rfl, k0, k1, ks, .inr ⟨farL_ne j _ (by simp), v', u, hv, hu, ih hr ?_⟩⟩
        have hstep : V.step std (.own e' l' : VT B) i o = v' := by simp [V.step, List.getD_eq_getElem?_getD, hv]
        have hd' : (V.walk std (V.step std (.own e' l' : VT B) i o) (farL j (z :: st))).isDead = false := hd
        rw [hstep] at hd'
        exact hd'
theorem cell_of_blk {w : World} {g : Nat} {t : TypeId} {cs : Array Value} (h : w.heap[g]? = some (.cells cs t (0, 0))) (i : Nat) : w.cell? ⟨g, i, none⟩ = cs[i]? := blk_cell h i
section
variable {X : Base B} {s : S B} {a : Act} {w : World} {Γ : Gh B} {β : Nat → Nat}
/-- What a pointer of one's own points to. -/
theorem Rel.ptrLeaf (H : TabE B) (h : Rel X s a w Γ β) {p : Place} {c : Value} {D : Nat → Prop} (hl : LeafR X (okB X Γ β w) Γ β w (.ptr p) c D) (hd : (S.get std s p).isDead = false) :
    ∃ ad u, c = .pointer (some ad) ∧ w.cell? ad = some u ∧ w.frozen? ad = false ∧ LeafR X (okB X Γ β w) Γ β w ((S.get std s p).alias p) u none_ := by
  obtain ⟨r, k, st⟩ := p
  cases st with
  | nil =>
    obtain ⟨t, rfl, hne, rfl⟩ := hl
    simp only at hne
    obtain ⟨ty, hb⟩ := h.bx t hne
    have hg : S.get std s ⟨2 * t + 3, k, []⟩ = s.leaf (2 * t + 3) k := rfl
    have hnd : s.leaf (2 * t + 3) k ≠ .dead := fun e => by rw [hg, e] at hd; cases hd
    obtain ⟨y, hy, hyv⟩ := leaf_eq h rfl hnd
    refine ⟨_, y.c, rfl, ?_, ?_, ?_⟩
    · rw [blk_cell hb]
      simp [csOf, hy]
    · exact blk_frozen hb k
    · rw [hg, ← hyv]
      exact h.aliasLeaf (by omega) hy
  | cons z st =>
    obtain ⟨hr0, x, ad, hx, ha, rfl⟩ := hl
    simp only at hr0 hx
    have hlx := h.leaf r x (List.mem_of_getElem? hx)
    obtain ⟨i, off⟩ := z
    have ha' := ha
    obtain ⟨e, l, hxv, _⟩ := ha'
    rw [hxv] at hlx
    obtain ⟨n, hlx⟩ := hlx
    obtain ⟨u, m, D', h1, h2, h3, h4⟩ := AddrR.leaf H (by rw [hxv] at ha; exact ha) hlx
    refine ⟨ad, u, rfl, h1, h2, ?_⟩
    have hg : S.get std s ⟨r, k, (i, off) :: st⟩ = V.walk std (.own e l) ((i, off) :: st) := by
      show V.walk std (s.leaf r k) _ = _
      congr 1
      unfold S.leaf
      rw [h.root, List.getD_eq_getElem?_getD]
      simp [vs, hx, hxv]
    rw [hg]
    cases hv : V.walk std (.own e l : VT B) ((i, off) :: st) with
    | own e' l' => rw [hv] at h3; exact ⟨hr0, x, hx, by rw [hxv]; rfl, ad, ha, h1, own_one h3⟩
    | lit v' =>
      rw [hv] at h3
      cases m <;> exact h3
    | _ => rw [hv] at h3; cases m <;> exact h3.elim
theorem Rel.ptrFar (H : TabE B) (h : Rel X s a w Γ β) {p : Place} {ad : Addr} {D D' : Nat → Prop} (hl : LeafR X (okB X Γ β w) Γ β w (.ptr p) (.pointer (some ad)) D) {j : Nat} (hd : p.st ≠ [] → (S.get std s (p.far j)).isDead = false) :
    LeafR X (okB X Γ β w) Γ β w (.ptr (p.far j)) (.pointer (some (ad.add j))) D' := by
  obtain ⟨r, k, st⟩ := p
  cases st with
  | nil =>
    obtain ⟨t, rfl, hne, hc⟩ := hl
    injection hc with hc
    injection hc with hc
    subst hc
    refine ⟨t, rfl, hne, ?_⟩
    congr 2
    unfold Addr.add
    split
    · rename_i h0; subst h0; rfl
    · rfl
  | cons z st =>
    obtain ⟨hr0, x, ad', hx, ha, hc⟩ := hl
    injection hc with hc
    injection hc with hc
    subst hc
    have hf : Place.far ⟨r, k, z :: st⟩ j = ⟨r, k, farL j (z :: st)⟩ := rfl
    have hd := hd (by simp)
    rw [hf] at hd ⊢
    have hne := farL_ne j (z :: st) (by simp)
    obtain ⟨z', st', hst'⟩ : ∃ z' st', farL j (z :: st) = z' :: st' := by
      cases hq : farL j (z :: st) with
      | nil => exact absurd hq hne
      | cons a b => exact ⟨a, b, rfl⟩
    have hleaf : s.leaf r k = x.v := by
      unfold S.leaf
      rw [h.root, List.getD_eq_getElem?_getD]
      simp only at hx
      simp [vs, hx]
    have hw : (V.walk std x.v (farL j (z :: st))).isDead = false := by rw [← hleaf]; exact hd
    have := AddrR.far H j ha hw
    rw [hst'] at this ⊢
    exact ⟨hr0, x, _, hx, this, rfl⟩
end
end
end Go.I

/-! ISem12 -/
set_option linter.unusedVariables false
set_option linter.unusedSimpArgs false
namespace Go.I
open Go.RowKit Go.Proofs.YtogfddilolannaaDoorW.PrintWords
theorem run_isAgg_desc {P : Program} {t : TypeId} {d : TypeDesc} (h : P.underlying t = some d) (w : World) : (isAgg t).run P w = .ok (descAgg d) w := by
  simp only [isAgg, Sem.run_bind, run_underlying h, Result.andThen_ok]
  cases d <;> rfl
theorem run_sizeOf_info {P : Program} {t : TypeId} {i : TypeInfo} (h : P.info? t = some i) (w : World) : (sizeOf t).run P w = .ok i.size w := by
  simp [sizeOf, typeInfo, h]
theorem run_load_cell {P : Program} {w : World} {ad : Addr} {u : Value} (h : w.cell? ad = some u) : (load ad).run P w = .ok u w := by simp [h]
section
variable {P : Program} {B : Tab} {M : FuncId → List Md} {F : FuncId → Option (Fi B)} {kl : KL}
variable {X : Base B} {s : S B} {a : Act} {w : World} {Γ : Gh B} {β : Nat → Nat} {o : Oper} {n : Nat} {k : S B → Tr B} {r : Res B} {Q : Exit → Act → World → Prop}
/-- Leaves in line, as they are loaded. -/
theorem Rel.loadN (H : TabE B) (h : Rel X s a w Γ β) {p : Place} {ad : Addr} {D : Nat → Prop} (hl : LeafR X (okB X Γ β w) Γ β w (.ptr p) (.pointer (some ad)) D) : ∀ (m j : Nat), (loadN std s p j m).any V.isDead = false →
    ∃ E : List (Ent B), loadN std s p j m = vs E ∧ E.length = m ∧ (∀ y ∈ E, LeafR X (okB X Γ β w) Γ β w y.v y.c y.D ∧ ∀ b, ¬ y.D b) ∧ ∀ i v, (csOf E)[i]? = some v → w.cell? (ad.add (j + i)) = some v
  | 0, j, _ => ⟨[], rfl, rfl, (fun y hy => by cases hy), fun i v hv => by simp [csOf] at hv⟩
  | m + 1, j, hd => by
    simp only [I.loadN, List.any_cons, Bool.or_eq_false_iff] at hd
    have hdj : (S.get std s (p.far j)).isDead = false := by
      cases hv : S.get std s (p.far j) with
      | dead => rw [hv] at hd; simp [V.alias, V.isDead] at hd
      | _ => rfl
    obtain ⟨E, h1, h2, h3, h4⟩ := h.loadN H hl m (j + 1) hd.2
    have hf := h.ptrFar H (D' := none_) hl (fun _ => hdj)
    obtain ⟨ad', u, k1, k2, k3, k4⟩ := h.ptrLeaf H hf hdj
    injection k1 with k1
    injection k1 with k1
    subst k1
    refine ⟨⟨_, u, none_⟩ :: E, by simp only [I.loadN, h1]; rfl, by simp [h2], ?_, ?_⟩
    · intro y hy
      rcases List.mem_cons.1 hy with rfl | hy
      · exact ⟨k4, fun b hb => hb⟩
      · exact h3 y hy
    · intro i v hv
      cases i with
      | zero =>
        have : u = v := by simpa [csOf] using hv
        rw [← this]; exact k2
      | succ i =>
        have := h4 i v (by simpa [csOf] using hv)
        rw [show j + (i + 1) = j + 1 + i by omega]
        exact this
/-- What is loaded at an address, known cell by cell. -/
theorem run_loadAt {t : TypeId} {g : Bool} {m : Nat} (H : TabP P B) (ht : B.lay t = some (g, m)) {ad : Addr} {cs : List Value} (hm : cs.length = if g then m else 1) (hc : ∀ i v, cs[i]? = some v → w.cell? (ad.add i) = some v) :
    (Instr.loadAt t (.pointer (some ad))).run P w = .ok (if g then .agg cs.toArray else cs.headD undef) w := by
  obtain ⟨d, i, h1, h2, h3, h4, h5, h6⟩ := H.lay_ok t g m ht
  have e0 : (Instr.sureAddr (.pointer (some ad))).run P w = .ok ad w := rfl
  simp only [Instr.loadAt, Sem.run_bind, e0, Result.andThen_ok, loadVar, run_isAgg_desc h1, h2]
  cases g with
  | true =>
    simp only [if_true, Sem.run_bind, run_sizeOf_info h3, Result.andThen_ok, h4]
    have hl : cs.length = m := by simpa using hm
    have := run_loadCells_list (P := P) (w := w) ad cs hc
    rw [hl] at this
    rw [this]
    rfl
  | false =>
    match cs, hm with
    | [v], _ =>
      have := hc 0 v rfl
      have ha : ad.add 0 = ad := by simp [Addr.add]
      rw [ha] at this
      simp [this]
theorem op_load (H : TabP P B) (h : Rel X s a w Γ β) (hh : s.hd = []) {t : TypeId} {x : Operand} (ho : o.op = .load t x) (hg : G std M F n kl (stepOp std M o s k) r) : OpS P o a w (DoneS w X M F kl s.tm.length n k r) := by
  simp only [stepOp, ho] at hg
  split at hg
  · rename_i g m p hlay hx
    split at hg
    · exact (G.no_inv hg).elim
    rename_i hnd
    have hnd : (I.loadN std s p 0 m).any V.isDead = false := by simpa using hnd
    obtain ⟨E, hE⟩ := h.peek 0 x
    rw [hx] at hE
    obtain ⟨D, hl, hD, rfl⟩ := hE.one
    obtain ⟨d, i, h1, h2, h3, h4, h5, h6⟩ := H.lay_ok t g m hlay
    have hd0 : (S.get std s (p.far 0)).isDead = false := by
      obtain ⟨m', rfl⟩ : ∃ m', m = m' + 1 := ⟨m - 1, by omega⟩
      simp only [I.loadN, List.any_cons, Bool.or_eq_false_iff] at hnd
      cases hv : S.get std s (p.far 0) with
      | dead => rw [hv] at hnd; simp [V.alias, V.isDead] at hnd
      | _ => rfl
    have hfar : p.far 0 = p := by
      obtain ⟨q1, q2, st⟩ := p
      cases st with
      | nil => rfl
      | cons z st =>
        have : ∀ l : List (Int × Nat), farL 0 l = l := by
          intro l
          induction l with
          | nil => rfl
          | cons y l ih => obtain ⟨y1, y2⟩ := y; cases l with
            | nil => rfl
            | cons z l => show (y1, y2) :: farL 0 (z :: l) = _; rw [ih]
        simp [Place.far, this]
    obtain ⟨ad, u, e1, e2, e3, e4⟩ := h.ptrLeaf H.toTabE hl (by rw [← hfar]; exact hd0)
    rw [e1] at hl
    obtain ⟨E, k1, k2, k3, k4⟩ := h.loadN H.toTabE hl m 0 hnd
    have hcs : ∀ i v, (csOf E)[i]? = some v → w.cell? (ad.add i) = some v := fun i v hv => by have := k4 i v hv; rwa [Nat.zero_add] at this
    refine ⟨if g then .agg (csOf E).toArray else (csOf E).headD undef, fun w' hw' => ?_, ?_⟩
    · simp only [execOp, ho, e1, Sem.run_bind]
      rw [run_loadAt H hlay (cs := csOf E) (by rw [cs_length, k2]; cases g with
        | true => rfl
        | false => simp [h5 rfl]) (fun i v hv => (cell_same (by rw [add_block]; exact hw' _ (.inl ⟨t, x, ad, ho, e1, rfl⟩))).trans (hcs i v hv))]
      rfl
    · cases g with
      | true => exact done_def H.toTabE h hh (x := .agg (I.loadN std s p 0 m)) (c := .agg (csOf E).toArray) (E := E) ⟨k1, rfl, k3⟩ hg
      | false =>
        have hm1 := h5 rfl
        subst hm1
        refine done_def H.toTabE h hh (E := E) ⟨?_, ?_, k3⟩ hg
        · rw [← k1]; simp [I.loadN, W.leaves, hfar]
        · match E, k2 with
          | [y], _ => rfl
  · rename_i g m e y off hlay hx
    obtain ⟨E, hE⟩ := h.peek 0 x
    rw [hx] at hE
    obtain ⟨D, hl, hD, rfl⟩ := hE.one
    obtain ⟨ad, cs, n', e1, hokb, hls, hcell⟩ := hl
    obtain ⟨d, i, h1, h2, h3, h4, h5, h6⟩ := H.lay_ok t g m hlay
    split at hg
    · rename_i hle
      have hlen : cs.length = B.size e := by rw [← hls.1, H.enc_len]
      have hleaf : ∀ (q : Nat) (u : VT B) (c : Value), (B.enc e y)[q]? = some u → cs[q]? = some c → LeafR X (okB X Γ β w) Γ β w u.toImm c none_ := by
        intro q u c hu hc
        have := hls.2 q u c hu hc
        cases u with
        | lit v => cases n' <;> exact this
        | own e' l' =>
          cases n' with
          | zero => exact this.elim
          | succ n' => exact ⟨n' + 1, this⟩
        | imm e' l' => exact ⟨n', this⟩
        | _ => cases n' <;> exact this.elim
      -- the entries that are loaded
      have hE : ∃ E : List (Ent B), vs E = ((((B.enc e y).drop off).take m).map V.toImm) ∧ csOf E = (cs.drop off).take m ∧ ∀ z ∈ E, LeafR X (okB X Γ β w) Γ β w z.v z.c z.D ∧ ∀ b, ¬ z.D b := by
        have key : ∀ (us : List (VT B)) (cc : List Value), us.length = cc.length → (∀ (q : Nat) u c, us[q]? = some u → cc[q]? = some c → LeafR X (okB X Γ β w) Γ β w u.toImm c none_) →
            ∃ E : List (Ent B), vs E = us.map V.toImm ∧ csOf E = cc ∧ ∀ z ∈ E, LeafR X (okB X Γ β w) Γ β w z.v z.c z.D ∧ ∀ b, ¬ z.D b := by
          intro us
          induction us with
          | nil => intro cc hl _; cases cc with
            | nil => exact ⟨[], rfl, rfl, fun z hz => by cases hz⟩
            | cons _ _ => simp at hl
          | cons u us ih =>
            intro cc hl hq
            cases cc with
            | nil => simp at hl
            | cons c cc =>
              obtain ⟨E, k1, k2, k3⟩ := ih cc (by simpa using hl) (fun q u' c' hu hc => hq (q + 1) u' c' (by simpa using hu) (by simpa using hc))
              refine ⟨⟨u.toImm, c, none_⟩ :: E, by simp [vs, ← k1], by simp [csOf, ← k2], fun z hz => ?_⟩
              rcases List.mem_cons.1 hz with rfl | hz
              · exact ⟨hq 0 u c rfl rfl, fun b hb => hb⟩
              · exact k3 z hz
        refine key _ _ (by simp [hlen, H.enc_len]) (fun q u c hu hc => ?_)
        rw [List.getElem?_take] at hu hc
        split at hu
        · rename_i hqm
          rw [if_pos hqm] at hc
          rw [List.getElem?_drop] at hu hc
          exact hleaf _ u c hu hc
        · cases hu
      obtain ⟨E, k1, k2, k3⟩ := hE
      have hEl : (csOf E).length = m := by rw [k2, List.length_take, List.length_drop]; omega
      refine ⟨if g then .agg (csOf E).toArray else (csOf E).headD undef, fun w' hw' => ?_, ?_⟩
      · simp only [execOp, ho, e1, Sem.run_bind]
        rw [run_loadAt H hlay (cs := csOf E) (by rw [hEl]; cases g with
          | true => rfl
          | false => simp [h5 rfl]) (fun i v hv => by
            rw [k2, List.getElem?_take] at hv
            split at hv
            · rw [List.getElem?_drop] at hv
              exact (cell_same (by rw [add_block]; exact hw' _ (.inl ⟨t, x, ad, ho, e1, rfl⟩))).trans (hcell i v hv)
            · cases hv)]
        rfl
      · cases g with
        | true => exact done_def H.toTabE h hh (x := .agg ((((B.enc e y).drop off).take m).map V.toImm)) (c := .agg (csOf E).toArray) (E := E) ⟨k1.symm, rfl, k3⟩ hg
        | false =>
          have hm1 := h5 rfl
          subst hm1
          refine done_def H.toTabE h hh (E := E) ⟨?_, ?_, k3⟩ hg
          · rw [k1]
            have : off < (B.enc e y).length := by rw [H.enc_len]; omega
            simp only [if_false, W.leaves, List.getD_eq_getElem?_getD, List.getElem?_eq_getElem this, Option.getD_some, Bool.false_eq_true]
            rw [List.drop_eq_getElem_cons this]
            rfl
          · rw [cs_length] at hEl
            match E, hEl with
            | [z], _ => rfl
    · exact (G.no_inv hg).elim
  · exact (G.no_inv hg).elim
end
end Go.I

/-! ISem13 -/
set_option linter.unusedVariables false
set_option linter.unusedSimpArgs false
namespace Go.I
open Go.RowKit Go.Proofs.YtogfddilolannaaDoorW.PrintWords
section
variable {P : Program} {B : Tab} {M : FuncId → List Md} {F : FuncId → Option (Fi B)} {kl : KL}
variable {X : Base B} {s : S B} {a : Act} {w : World} {Γ : Gh B} {β : Nat → Nat} {o : Oper} {n : Nat} {k : S B → Tr B} {r : Res B} {Q : Exit → Act → World → Prop}
theorem peek_ptr {p : Place} {c : Value} {D : Nat → Prop} (hl : LeafR X (okB X Γ β w) Γ β w (.ptr p : VT B) c D) : Peek X Γ β w (.one (.ptr p)) c [⟨.ptr p, c, none_⟩] :=
  ⟨rfl, rfl, fun y hy => by simp at hy; subst hy; exact ⟨LeafR.any hl rfl, fun b hb => hb⟩⟩
theorem peek_leaf {v : VT B} {c : Value} (hl : LeafR X (okB X Γ β w) Γ β w v c none_) : Peek X Γ β w (.one v) c [⟨v, c, none_⟩] :=
  ⟨rfl, rfl, fun y hy => by simp at hy; subst hy; exact ⟨hl, fun b hb => hb⟩⟩
theorem run_fieldAt {t : TypeId} {f off m : Nat} (H : TabP P B) (ht : (B.flds t)[f]? = some (off, m)) (ad : Addr) : (Instr.fieldAt t (.pointer (some ad)) f).run P w = .ok (.pointer (some (ad.add off))) w := by
  obtain ⟨fs, fld, h1, h2, h3, i, h4, h5, h6⟩ := H.fld_ok t f off m ht
  simp only [Instr.fieldAt, Sem.run_bind, run_underlying h1, Result.andThen_ok, h2, Instr.sureAddr, Sem.run_pure, fieldPlace, run_sizeOf_info h4, h5, if_neg h6, h3]
theorem op_fieldAddr (H : TabP P B) (h : Rel X s a w Γ β) (hh : s.hd = []) {t : TypeId} {x : Operand} {f : Nat} (ho : o.op = .fieldAddr t x f) (hg : G std M F n kl (stepOp std M o s k) r) : OpS P o a w (DoneS w X M F kl s.tm.length n k r) := by
  simp only [stepOp, ho] at hg
  split at hg
  · rename_i p off m hx hf
    split at hg
    · exact (G.no_inv hg).elim
    rename_i hnd
    have hnd : p.st ≠ [] → (S.get std s (p.far off)).isDead = false := by
      intro hst
      cases hd : (S.get std s (p.far off)).isDead with
      | false => rfl
      | true => exact absurd (by simp [hst, hd]) hnd
    obtain ⟨E, hE⟩ := h.peek 0 x
    rw [hx] at hE
    obtain ⟨D, hl, hD, rfl⟩ := hE.one
    have e : ∃ ad, a.eval x = .pointer (some ad) := by
      simp only [LeafR] at hl
      cases hs : p.st with
      | nil => rw [hs] at hl; obtain ⟨t, _, _, h3⟩ := hl; exact ⟨_, h3⟩
      | cons y st => rw [hs] at hl; obtain ⟨_, _, ad, _, _, h3⟩ := hl; exact ⟨ad, h3⟩
    obtain ⟨ad, e⟩ := e
    rw [e] at hl
    refine wp_valueS (fun w => by simp only [execOp, ho, e, Sem.run_bind, run_fieldAt H hf]; rfl) ?_
    exact done_def H.toTabE h hh (peek_ptr (h.ptrFar (D' := none_) H.toTabE hl hnd)) hg
  · rename_i e y off' off m hx hf
    obtain ⟨E, hE⟩ := h.peek 0 x
    rw [hx] at hE
    obtain ⟨D, hl, hD, rfl⟩ := hE.one
    obtain ⟨ad, cs, n', e1, hokb, hls, hcell⟩ := hl
    refine wp_valueS (fun w => by simp only [execOp, ho, e1, Sem.run_bind, run_fieldAt H hf]; rfl) ?_
    refine done_def H.toTabE h hh (peek_leaf (v := .iptr e y (off' + off)) ⟨ad.add off, cs, n', rfl, by rw [add_block]; exact hokb, hls, fun i u hu => ?_⟩) hg
    rw [add_add]
    exact hcell (off + i) u (by rw [← Nat.add_assoc]; exact hu)
  · exact (G.no_inv hg).elim
/-- A row of one's own, by its place: its value. -/
theorem Rel.atOwn (H : TabE B) (h : Rel X s a w Γ β) {p : Place} {c : Value} {D : Nat → Prop} (hl : LeafR X (okB X Γ β w) Γ β w (.at p) c D) {e : TypeId} {l : List (B.T e)} (hg : S.get std s p = .own e l) :
    ∃ m D', Own w m (.own e l : VT B) c D' ∧ ∃ x, (Γ p.r)[p.k]? = some x ∧ ∀ b, D' b → x.D b := by
  obtain ⟨r, k, st⟩ := p
  obtain ⟨hr0, x, hx, hxo, hc⟩ := hl
  simp only at hr0 hx hc
  have hlx := h.leaf r x (List.mem_of_getElem? hx)
  have hleaf : s.leaf r k = x.v := by
    unfold S.leaf
    rw [h.root, List.getD_eq_getElem?_getD]
    simp [vs, hx]
  cases st with
  | nil =>
    obtain ⟨hc, _⟩ := hc
    subst hc
    have : x.v = .own e l := by rw [← hleaf]; exact hg
    rw [this] at hlx
    obtain ⟨m, hm⟩ := hlx
    exact ⟨m, x.D, hm, x, hx, fun b hb => hb⟩
  | cons z st =>
    obtain ⟨ad, ha, hcell, _⟩ := hc
    have ha' := ha
    obtain ⟨i, off⟩ := z
    obtain ⟨e', l', hxv, _⟩ := ha'
    rw [hxv] at hlx
    obtain ⟨n', hlx⟩ := hlx
    obtain ⟨u, m, D', h1, h2, h3, h4⟩ := AddrR.leaf H (by rw [hxv] at ha; exact ha) hlx
    rw [hcell] at h1
    injection h1 with h1
    subst h1
    have hw : V.walk std (.own e' l' : VT B) ((i, off) :: st) = .own e l := by rw [← hxv, ← hleaf]; exact hg
    rw [hw] at h3
    exact ⟨m, D', h3, x, hx, h4⟩
theorem run_indexAt {t e : TypeId} (H : TabP P B) (ht : P.underlying t = some (.slice e)) {i : TypeInfo} (hi : P.info? e = some i) {ad : Addr} {len cap : Nat} {ki : IntKind} {m : Int} (h0 : 0 ≤ m) (h1 : m < len) :
    (Instr.indexAt t (.slice (some ad) len cap) (.int ki m)).run P w = .ok (.pointer (some (ad.add (m.toNat * i.size)))) w := by
  have hi' := hi
  simp [Instr.indexAt, asIntOf, run_underlying ht, h0, h1, run_sizeOf_info hi]
theorem op_indexAddr (H : TabP P B) (h : Rel X s a w Γ β) (hh : s.hd = []) {t : TypeId} {x y : Operand} (ho : o.op = .indexAddr t x y) (hg : G std M F n kl (stepOp std M o s k) r) : OpS P o a w (DoneS w X M F kl s.tm.length n k r) := by
  simp only [stepOp, ho] at hg
  split at hg
  · rename_i p ki m hx hy
    have ey := h.litPeek hy
    obtain ⟨E, hE⟩ := h.peek 0 x
    rw [hx] at hE
    obtain ⟨D, hl, hD, rfl⟩ := hE.one
    split at hg
    · rename_i e l hget
      split at hg
      · rename_i hel
        have hel : B.elem t = some e := hel
        obtain ⟨ht, i, v, hi1, hi2, hi3, hi4, hi5, hi6, hi7⟩ := H.elem_ok t e hel
        obtain ⟨h0, hg⟩ := G.guard_inv hg
        obtain ⟨h1, hg⟩ := G.guard_inv hg
        have h0 : 0 ≤ m := by simpa [std] using h0
        have h1 : m < l.length := by simpa [std] using h1
        obtain ⟨m', D', hown, z, hz, hsub⟩ := h.atOwn H.toTabE hl hget
        obtain ⟨A, cap, hc, hle, hA⟩ := own_cap hown
        obtain ⟨ad, rfl⟩ := hA (by omega)
        refine wp_valueS (fun w => by simp only [execOp, ho, hc, ey, Sem.run_bind, run_indexAt H ht hi1 h0 h1]; rfl) ?_
        rw [hi3]
        refine done_def H.toTabE h hh (peek_ptr (D := none_) ?_) hg
        -- the element's place
        obtain ⟨q1, q2, st⟩ := p
        obtain ⟨hr0, z', hz', hzo, hcz⟩ := hl
        simp only at hr0 hz' hcz
        have hz2 : z' = z := by simp only at hz; rw [hz] at hz'; injection hz' with e; exact e.symm
        subst hz2
        have hleaf : s.leaf q1 q2 = z'.v := by
          unfold S.leaf
          rw [h.root, List.getD_eq_getElem?_getD]
          simp [vs, hz']
        cases st with
        | nil =>
          obtain ⟨hcz, _⟩ := hcz
          have hv : z'.v = .own e l := by rw [← hleaf]; exact hget
          refine ⟨hr0, z', ad.add (m.toNat * B.size e), hz', ?_, rfl⟩
          rw [hv, ← hcz, hc]
          exact ⟨e, l, rfl, ad, cap, rfl, h0, h1, hi6, .inl ⟨rfl, by simp⟩⟩
        | cons y' st =>
          obtain ⟨ad', ha, hcell, _⟩ := hcz
          have := AddrR.snoc H.toTabE (e := e) (l := l) (a := ad) (cap := cap) h0 h1 hi6 (off := 0) ha (by rw [← hleaf]; exact hget) (by rw [hcell, hc])
          simp only [Nat.add_zero] at this
          refine ⟨hr0, z', ad.add (m.toNat * B.size e), hz', ?_, rfl⟩
          exact this
      · exact (G.no_inv hg).elim
    · exact (G.no_inv hg).elim
  · rename_i e l ki m hx hy
    have ey := h.litPeek hy
    obtain ⟨E, hE⟩ := h.peek 0 x
    rw [hx] at hE
    obtain ⟨D, hl, hD, rfl⟩ := hE.one
    split at hg
    · rename_i hel
      have hel : B.elem t = some e := hel
      obtain ⟨ht, i, v, hi1, hi2, hi3, hi4, hi5, hi6, hi7⟩ := H.elem_ok t e hel
      obtain ⟨h0, hg⟩ := G.guard_inv hg
      obtain ⟨h1, hg⟩ := G.guard_inv hg
      have h0 : 0 ≤ m := by simpa [std] using h0
      have h1 : m < l.length := by simpa [std] using h1
      obtain ⟨n', hl⟩ := hl
      cases n' with
      | zero => exact hl.elim
      | succ n' =>
        obtain ⟨A, cap, hc, hle, hmx, hp⟩ := hl
        obtain ⟨ad, rfl, hokb, hrow⟩ := hp (by omega)
        obtain ⟨cs, hls, hcell⟩ := hrow m.toNat _ (std_get (B.dflt e) l m h0 h1)
        refine wp_valueS (fun w => by simp only [execOp, ho, hc, ey, Sem.run_bind, run_indexAt H ht hi1 h0 h1]; rfl) ?_
        rw [hi3]
        exact done_def H.toTabE h hh (peek_leaf (v := .iptr e (std.get (B.dflt e) l m) 0) ⟨ad.add (m.toNat * B.size e), cs, n', rfl, by rw [add_block]; exact hokb, hls, fun i u hu => by rw [add_add]; exact hcell i u (by simpa using hu)⟩) hg
    · exact (G.no_inv hg).elim
  · exact (G.no_inv hg).elim
theorem op_index (H : TabP P B) (h : Rel X s a w Γ β) (hh : s.hd = []) {t : TypeId} {x y : Operand} (ho : o.op = .index t x y) (hg : G std M F n kl (stepOp std M o s k) r) : OpS P o a w (DoneS w X M F kl s.tm.length n k r) := by
  simp only [stepOp, ho] at hg
  split at hg
  · rename_i v ki m hx hy
    have ex := h.litPeek hx
    have ey := h.litPeek hy
    split at hg
    · rename_i hs
      obtain ⟨h0, hg⟩ := G.guard_inv hg
      obtain ⟨h1, hg⟩ := G.guard_inv hg
      have h0 : 0 ≤ m := by simpa [std] using h0
      have h1 : m < v.size := by simpa [std] using h1
      have h1' : m.toNat < v.size := by omega
      refine wp_valueS (v := .int .u8 (std.sget v m)) (fun w => ?_) (done_def H.toTabE h hh (peek_lit X Γ β w _ rfl) hg)
      simp [execOp, ho, ex, ey, Instr.index, asIntOf, run_underlying (H.str_ok t hs), h0, h1', std]
    · exact (G.no_inv hg).elim
  · exact (G.no_inv hg).elim
end
end Go.I

/-! ISemF -/
set_option linter.unusedVariables false
set_option linter.unusedSimpArgs false
namespace Go.I
open Go.RowKit Go.Proofs.YtogfddilolannaaDoorW.PrintWords
section
variable {P : Program} {B : Tab} {M : FuncId → List Md} {F : FuncId → Option (Fi B)} {kl : KL}
variable {X : Base B} {a : Act} {β : Nat → Nat} {s : S B} {w : World} {Γ : Gh B}
/-- How entries are left: what is owned is owned still, or is read for good. -/
def Less (Γ Γ' : Gh B) : Prop := ∀ (r k : Nat) (y : Ent B), (Γ' r)[k]? = some y → ∃ y0, (Γ r)[k]? = some y0 ∧ (∀ b, y.D b → y0.D b) ∧ (y0.v.final = true → y.v.final = true) ∧ y.c = y0.c ∧ ∀ p, Alias y.v p → Alias y0.v p
theorem Less.trans {Γ1 Γ2 Γ3 : Gh B} (h : Less Γ1 Γ2) (h' : Less Γ2 Γ3) : Less Γ1 Γ3 := fun r k y hy => by
  obtain ⟨y0, k1, k2, k3, k4, k5⟩ := h' r k y hy
  obtain ⟨y1, m1, m2, m3, m4, m5⟩ := h r k y0 k1
  exact ⟨y1, m1, fun b hb => m2 b (k2 b hb), fun e => k3 (m3 e), k4.trans m4, fun p hp => m5 p (k5 p hp)⟩
theorem Less.rfl {Γ : Gh B} : Less Γ Γ := fun r k y hy => ⟨y, hy, fun _ h => h, fun h => h, Eq.refl _, fun _ h => h⟩
theorem alias_of {f : VT B → VT B} (hs : ∀ v : VT B, f v = v ∨ f v = .dead) {v : VT B} {p : Place} (h : Alias (f v) p) : Alias v p := by
  rcases hs v with e | e
  · rw [e] at h; exact h
  · rw [e] at h; rcases h with h | ⟨h, _⟩ <;> cases h
theorem Less.map {Γ : Gh B} {f : VT B → VT B} (hf : ∀ v : VT B, v.final = true → (f v).final = true) (hs : ∀ v : VT B, f v = v ∨ f v = .dead) : Less Γ (fun r => (Γ r).map fun x : Ent B => { x with v := f x.v }) := fun r k y hy => by
  simp only [List.getElem?_map, Option.map_eq_some_iff] at hy
  obtain ⟨y0, h0, rfl⟩ := hy
  exact ⟨y0, h0, fun _ h => h, fun h => hf _ h, Eq.refl _, fun _ h => alias_of hs h⟩
theorem kill_final (r k : Nat) (v : VT B) (h : v.final = true) : (V.kill r k v).final = true := by
  cases v <;> first | exact h | cases h
theorem killB_final (r : Nat) (v : VT B) (h : v.final = true) : (V.killB r v).final = true := by
  cases v <;> first | exact h | cases h
theorem Rel.freezeAt (H : TabE B) (h : Rel X s a w Γ β) {r k : Nat} (hr0 : r ≠ 0) {y : Ent B} (hy : (Γ r)[k]? = some y) {e : TypeId} {l : List (B.T e)} (hv : y.v = .own e l ∨ y.v = .imm e l) :
    ∃ Γ', Rel X ((s.kill r k).setLeaf r k (.imm e l)) a w Γ' β ∧ Less Γ Γ' ∧ (∀ b, y.D b ∨ okB X Γ β w b → okB X Γ' β w b) ∧ (∀ (q j : Nat) z b, (Γ q)[j]? = some z → z.D b → okB X Γ' β w b ∨ ∃ z', (Γ' q)[j]? = some z' ∧ z'.D b) ∧ ∀ (q j : Nat) z, q ≠ r → (Γ q)[j]? = some z → ∃ z', (Γ' q)[j]? = some z' ∧ z'.D = z.D := by
  have h1 := h.map H (V.kill r k) (kill_same r k) (kill_own r k)
  generalize hG : (fun q => (Γ q).map fun x : Ent B => { x with v := V.kill r k x.v }) = G at h1
  have hGq : ∀ q, G q = (Γ q).map fun x : Ent B => { x with v := V.kill r k x.v } := fun q => by rw [← hG]
  have hy1 : (G r)[k]? = some { y with v := V.kill r k y.v } := by rw [hGq, List.getElem?_map, hy]; rfl
  have hk : k < (G r).length := (List.getElem?_eq_some_iff.1 hy1).1
  -- entries of the new state
  have hget : ∀ (q j : Nat) z, (putG G 0 r k ⟨.imm e l, y.c, none_⟩ q)[j]? = some z → (q = r ∧ j = k ∧ z = ⟨.imm e l, y.c, none_⟩) ∨ ((q ≠ r ∨ j ≠ k) ∧ (G q)[j]? = some z) := by
    intro q j z hz
    unfold putG at hz
    by_cases hq : q = r
    · subst hq
      rw [setG_same, List.getElem?_set] at hz
      by_cases hj : k = j
      · subst hj
        rw [if_pos rfl, if_pos hk] at hz
        injection hz with hz
        exact .inl ⟨rfl, rfl, hz.symm⟩
      · rw [if_neg hj] at hz
        exact .inr ⟨.inr fun e => hj e.symm, hz⟩
    · rw [setG_ne _ _ hq] at hz
      refine .inr ⟨.inl hq, ?_⟩
      by_cases h0 : q = 0
      · subst h0; rw [setG_same, List.drop_zero] at hz; exact hz
      · rw [setG_ne _ _ h0] at hz; exact hz
  have hget2 : ∀ (q j : Nat) z, (q ≠ r ∨ j ≠ k) → (G q)[j]? = some z → (putG G 0 r k ⟨.imm e l, y.c, none_⟩ q)[j]? = some z := by
    intro q j z hne hz
    unfold putG
    by_cases hq : q = r
    · subst hq
      rw [setG_same, List.getElem?_set_ne (fun e => (hne.resolve_left fun h => h rfl) e.symm)]
      exact hz
    · rw [setG_ne _ _ hq]
      by_cases h0 : q = 0
      · subst h0; rw [setG_same, List.drop_zero]; exact hz
      · rw [setG_ne _ _ h0]; exact hz
  have hlen : ∀ t, putG G 0 r k ⟨.imm e l, y.c, none_⟩ (2 * t + 3) ≠ [] → Γ (2 * t + 3) ≠ [] := by
    intro t ht e0
    apply ht
    have e1 : G (2 * t + 3) = [] := by rw [hGq, e0]; rfl
    unfold putG
    by_cases hq : 2 * t + 3 = r
    · rw [← hq, setG_same, e1]; rfl
    · rw [setG_ne _ _ hq, setG_ne _ _ (by omega)]; exact e1
  have hback : ∀ q z, z ∈ putG G 0 r k ⟨.imm e l, y.c, none_⟩ q → ∀ b, z.D b → ∃ (j : Nat) (z0 : Ent B), (Γ q)[j]? = some z0 ∧ z0.D b ∧ (q ≠ r ∨ j ≠ k) := by
    intro q z hz b hb
    obtain ⟨j, hj⟩ := List.getElem?_of_mem hz
    rcases hget q j z hj with ⟨_, _, rfl⟩ | ⟨hne, h2⟩
    · exact hb.elim
    · rw [hGq, List.getElem?_map, Option.map_eq_some_iff] at h2
      obtain ⟨z0, h3, rfl⟩ := h2
      exact ⟨j, z0, h3, hb, hne⟩
  have hok : ∀ b, y.D b ∨ okB X Γ β w b → okB X (putG G 0 r k ⟨.imm e l, y.c, none_⟩) β w b := by
    rintro b (hb | hb)
    · obtain ⟨d1, d2⟩ := h.dlt r y b (List.mem_of_getElem? hy) hb
      refine ⟨d1, .inr d2, fun q z hz hzb => ?_, fun t ht e0 => ?_⟩
      · obtain ⟨j, z0, h3, h4, h5⟩ := hback q z hz b hzb
        obtain ⟨e1, e2⟩ := h.disj q j r k z0 y h3 hy b h4 hb
        rcases h5 with h5 | h5
        · exact h5 e1
        · exact h5 e2
      · subst e0
        exact h.bdisj r y t (List.mem_of_getElem? hy) (hlen t ht) hb
    · refine hb.imp (Nat.le_refl _) (fun q z hz hd => ?_) (fun t ht e0 => .inl ⟨hlen t ht, e0⟩)
      obtain ⟨j, z0, h3, h4, _⟩ := hback q z hz b hd
      exact .inl ⟨q, z0, List.mem_of_getElem? h3, h4⟩
  have hl : ∃ n, Imm w (okB X (putG G 0 r k ⟨.imm e l, y.c, none_⟩) β w) n (.imm e l : VT B) y.c := by
    have hl0 := h.leaf r y (List.mem_of_getElem? hy)
    rcases hv with hv | hv
    · rw [hv] at hl0
      obtain ⟨n, hn⟩ := hl0
      exact ⟨n, hn.toImm fun b hb => hok b (.inl hb)⟩
    · rw [hv] at hl0
      obtain ⟨n, hn⟩ := hl0
      exact ⟨n, Imm.mono (fun b hb => hok b (.inr hb)) hn⟩
  have hna : ∀ q x p, x ∈ G q → Alias x.v p → ¬ (p.r = r ∧ p.k = k) := by
    intro q x p hx hp
    rw [hGq] at hx
    obtain ⟨z, _, rfl⟩ := List.mem_map.1 hx
    exact kill_alias hp
  have h2 := h1.setL H (m := 0) (w' := w) hr0 hy1 (v := .imm e l) (c := y.c) (D := none_) (fun q x p hx hp => .inl (hna q x p hx hp)) hl (fun _ => rfl) (fun b hb => hb.elim) (fun _ _ _ _ => rfl)
    (fun t ty hrt hb => by
      have : csOf ((G r).set k ⟨.imm e l, y.c, none_⟩) = csOf (G r) := by
        apply List.ext_getElem?
        intro i
        simp only [csOf, List.getElem?_map, List.getElem?_set]
        split
        · rename_i hi
          subst hi
          rw [hy1]
          rfl
        · rfl
      rw [this]; exact hb) (Nat.le_refl _) rfl rfl rfl (.inr rfl)
  have hst : (({ s.map (V.kill r k) with hd := (s.map (V.kill r k)).hd.drop 0 } : S B).setLeaf r k (.imm e l)) = (s.kill r k).setLeaf r k (.imm e l) := by
    rw [List.drop_zero]; rfl
  rw [hst] at h2
  refine ⟨_, h2, fun q j z hz => ?_, hok, fun q j z b hz hb => ?_, fun q j z hq hz => ⟨{ z with v := V.kill r k z.v }, hget2 q j _ (.inl hq) (by rw [hGq, List.getElem?_map, hz]; rfl), rfl⟩⟩
  · rcases hget q j z hz with ⟨rfl, rfl, rfl⟩ | ⟨_, h3⟩
    · exact ⟨y, hy, fun _ h => h.elim, fun _ => rfl, rfl, fun p hp => by rcases hp with hp | ⟨hp, _⟩ <;> cases hp⟩
    · rw [hGq, List.getElem?_map, Option.map_eq_some_iff] at h3
      obtain ⟨z0, h4, rfl⟩ := h3
      exact ⟨z0, h4, fun _ h => h, fun h => kill_final r k _ h, rfl, fun _ h => alias_of (kill_same r k) h⟩
  · by_cases hqj : q = r ∧ j = k
    · obtain ⟨rfl, rfl⟩ := hqj
      rw [hy] at hz
      injection hz with hz
      subst hz
      exact .inl (hok b (.inl hb))
    · refine .inr ⟨{ z with v := V.kill r k z.v }, hget2 q j _ ?_ ?_, hb⟩
      · by_cases hq : q = r
        · exact .inr fun e => hqj ⟨hq, e⟩
        · exact .inl hq
      · rw [hGq, List.getElem?_map, hz]; rfl
theorem leaf_len (s : S B) (r k : Nat) (v : VT B) : ((s.kill r k).setLeaf r k v).tm.length = s.tm.length ∧ ((s.kill r k).setLeaf r k v).bx.length = s.bx.length := by
  obtain ⟨e1, e2, _⟩ := setRoot_tm (s.kill r k) r (setAt ((s.kill r k).root r) k v) (by simp [setAt_eq])
  exact ⟨e1.trans (by simp [S.kill, S.map]), e2.trans (by simp [S.kill, S.map])⟩
theorem Rel.freeze1 (H : TabE B) (h : Rel X s a w Γ β) {v : VT B} {s' : S B} (hg : s.freeze1 v = some s') : ∃ Γ', Rel X s' a w Γ' β ∧ Less Γ Γ' ∧ (s'.tm.length = s.tm.length ∧ s'.bx.length = s.bx.length) ∧
    (∀ b, (∃ p y, v = .at p ∧ (Γ p.r)[p.k]? = some y ∧ y.D b) ∨ okB X Γ β w b → okB X Γ' β w b) ∧ (∀ (q j : Nat) z b, (Γ q)[j]? = some z → z.D b → okB X Γ' β w b ∨ ∃ z', (Γ' q)[j]? = some z' ∧ z'.D b) ∧ ∀ (q j : Nat) z, (∀ p, v = .at p → p.r ≠ q) → (Γ q)[j]? = some z → ∃ z', (Γ' q)[j]? = some z' ∧ z'.D = z.D := by
  have plain : (∀ p, v ≠ .at p) → s' = s → ∃ Γ', Rel X s' a w Γ' β ∧ Less Γ Γ' ∧ (s'.tm.length = s.tm.length ∧ s'.bx.length = s.bx.length) ∧
    (∀ b, (∃ p y, v = .at p ∧ (Γ p.r)[p.k]? = some y ∧ y.D b) ∨ okB X Γ β w b → okB X Γ' β w b) ∧ (∀ (q j : Nat) z b, (Γ q)[j]? = some z → z.D b → okB X Γ' β w b ∨ ∃ z', (Γ' q)[j]? = some z' ∧ z'.D b) ∧ ∀ (q j : Nat) z, (∀ p, v = .at p → p.r ≠ q) → (Γ q)[j]? = some z → ∃ z', (Γ' q)[j]? = some z' ∧ z'.D = z.D := by
    rintro hv rfl
    exact ⟨Γ, h, Less.rfl, ⟨rfl, rfl⟩, fun b hb => hb.elim (fun ⟨p, y, e, _⟩ => absurd e (hv p)) id, fun q j z b hz hb => .inr ⟨z, hz, hb⟩, fun q j z _ hz => ⟨z, hz, rfl⟩⟩
  cases v with
  | «at» p =>
    obtain ⟨r, k, st⟩ := p
    cases st with
    | cons y st => simp [S.freeze1] at hg
    | nil =>
      simp only [S.freeze1] at hg
      split at hg
      · cases hg
      rename_i hr0
      have fin : ∀ (e : TypeId) (l : List (B.T e)), (s.leaf r k = .own e l ∨ s.leaf r k = .imm e l) → s' = (s.kill r k).setLeaf r k (.imm e l) → ∃ Γ', Rel X s' a w Γ' β ∧ Less Γ Γ' ∧ (s'.tm.length = s.tm.length ∧ s'.bx.length = s.bx.length) ∧
          (∀ b, (∃ p y, (V.at ⟨r, k, []⟩ : VT B) = .at p ∧ (Γ p.r)[p.k]? = some y ∧ y.D b) ∨ okB X Γ β w b → okB X Γ' β w b) ∧ (∀ (q j : Nat) z b, (Γ q)[j]? = some z → z.D b → okB X Γ' β w b ∨ ∃ z', (Γ' q)[j]? = some z' ∧ z'.D b) ∧ ∀ (q j : Nat) z, (∀ p, (V.at ⟨r, k, []⟩ : VT B) = .at p → p.r ≠ q) → (Γ q)[j]? = some z → ∃ z', (Γ' q)[j]? = some z' ∧ z'.D = z.D := by
        rintro e l hv rfl
        obtain ⟨y, hy, hyv⟩ : ∃ y, (Γ r)[k]? = some y ∧ (y.v = .own e l ∨ y.v = .imm e l) := by
          rcases hv with hv | hv
          · obtain ⟨y, h1, h2⟩ := leaf_eq h hv (by simp); exact ⟨y, h1, .inl h2⟩
          · obtain ⟨y, h1, h2⟩ := leaf_eq h hv (by simp); exact ⟨y, h1, .inr h2⟩
        obtain ⟨Γ', k1, k2, k3, k4, k5⟩ := h.freezeAt H hr0 hy hyv
        refine ⟨Γ', k1, k2, leaf_len s r k _, fun b hb => ?_, k4, fun q j z hq hz => k5 q j z (fun e => hq ⟨r, k, []⟩ rfl e.symm) hz⟩
        rcases hb with ⟨p, y', e1, h1, h2⟩ | hb
        · injection e1 with e1
          subst e1
          rw [hy] at h1
          injection h1 with h1
          subst h1
          exact k3 b (.inl h2)
        · exact k3 b (.inr hb)
      split at hg
      · rename_i e l hlf
        injection hg with hg
        exact fin e l (.inl hlf) hg.symm
      · rename_i e l hlf
        injection hg with hg
        exact fin e l (.inr hlf) hg.symm
      · cases hg
  | _ => exact plain (fun p e => by cases e) (by simpa [S.freeze1] using hg.symm)
end
end Go.I

/-! ISem14 -/
set_option linter.unusedVariables false
set_option linter.unusedSimpArgs false
namespace Go.I
open Go.RowKit Go.Proofs.YtogfddilolannaaDoorW.PrintWords
section
variable {P : Program} {B : Tab} {M : FuncId → List Md} {F : FuncId → Option (Fi B)} {kl : KL}
variable {X : Base B} {s : S B} {a : Act} {w : World} {Γ : Gh B} {β : Nat → Nat} {o : Oper} {n : Nat} {k : S B → Tr B} {r : Res B} {Q : Exit → Act → World → Prop}
/-- What a leaf looked at tells of its value. -/
theorem Rel.lookOwn (H : TabE B) (h : Rel X s a w Γ β) {v : VT B} {c : Value} {D : Nat → Prop} (hl : LeafR X (okB X Γ β w) Γ β w v c D) {e : TypeId} {l : List (B.T e)} (hg : S.look std s v = .own e l) : ∃ m D', Own w m (.own e l : VT B) c D' := by
  cases v with
  | «at» p => obtain ⟨m, D', h1, _⟩ := h.atOwn H hl hg; exact ⟨m, D', h1⟩
  | own e' l' =>
    have : (.own e' l' : VT B) = .own e l := hg
    obtain ⟨m, hm⟩ := hl
    rw [← this]
    exact ⟨m, D, hm⟩
  | _ => cases hg
theorem Rel.lookImm (h : Rel X s a w Γ β) {v : VT B} {c : Value} {D : Nat → Prop} (hl : LeafR X (okB X Γ β w) Γ β w v c D) {e : TypeId} {l : List (B.T e)} (hg : S.look std s v = .imm e l) (H : TabE B) : v = .imm e l := by
  cases v with
  | «at» p =>
    -- an alias tells of one's own
    obtain ⟨q, kk, st⟩ := p
    obtain ⟨hr0, x, hx, hxo, hc⟩ := hl
    simp only at hr0 hx hc
    have hleaf : s.leaf q kk = x.v := by
      unfold S.leaf
      rw [h.root, List.getD_eq_getElem?_getD]
      simp [vs, hx]
    have hg' : V.walk std (s.leaf q kk) st = .imm e l := hg
    rw [hleaf] at hg'
    have hlx := h.leaf q x (List.mem_of_getElem? hx)
    cases st with
    | nil =>
      have : x.v = .imm e l := hg'
      rw [this] at hxo; cases hxo
    | cons z st =>
      obtain ⟨ad, ha, hcell, _⟩ := hc
      obtain ⟨i, off⟩ := z
      have ha' := ha
      obtain ⟨e', l', hxv, _⟩ := ha'
      rw [hxv] at hlx ha hg'
      obtain ⟨n', hlx⟩ := hlx
      obtain ⟨u, m, D', h1, h2, h3, h4⟩ := AddrR.leaf H ha hlx
      rw [hg'] at h3
      cases m <;> exact h3.elim
  | _ => first | exact hg | cases hg
theorem Rel.lookLit (h : Rel X s a w Γ β) (H : TabE B) {v : VT B} {c u : Value} {D : Nat → Prop} (hl : LeafR X (okB X Γ β w) Γ β w v c D) (hg : S.look std s v = .lit u) : c = u := by
  cases v with
  | «at» p =>
    obtain ⟨q, kk, st⟩ := p
    obtain ⟨hr0, x, hx, hxo, hc⟩ := hl
    simp only at hr0 hx hc
    have hleaf : s.leaf q kk = x.v := by
      unfold S.leaf
      rw [h.root, List.getD_eq_getElem?_getD]
      simp [vs, hx]
    have hg' : V.walk std (s.leaf q kk) st = .lit u := hg
    rw [hleaf] at hg'
    have hlx := h.leaf q x (List.mem_of_getElem? hx)
    cases st with
    | nil =>
      have : x.v = .lit u := hg'
      rw [this] at hxo; cases hxo
    | cons z st =>
      obtain ⟨ad, ha, hcell, _⟩ := hc
      obtain ⟨i, off⟩ := z
      have ha' := ha
      obtain ⟨e', l', hxv, _⟩ := ha'
      rw [hxv] at hlx ha hg'
      obtain ⟨n', hlx⟩ := hlx
      obtain ⟨u', m, D', h1, h2, h3, h4⟩ := AddrR.leaf H ha hlx
      rw [hg'] at h3
      rw [hcell] at h1
      injection h1 with h1
      rw [h1]
      cases m <;> exact h3.1
  | lit v' =>
    have : (.lit v' : VT B) = .lit u := hg
    injection this with this
    rw [← this]; exact hl.1
  | _ => cases hg
theorem op_len (H : TabP P B) (h : Rel X s a w Γ β) (hh : s.hd = []) {args : Array Operand} {ats : Array TypeId} (ho : o.op = .call { callee := .builtin .len, args := args, argTypes := ats }) (hg : G std M F n kl (stepOp std M o s k) r) : OpS P o a w (DoneS w X M F kl s.tm.length n k r) := by
  simp only [stepOp, ho] at hg
  split at hg
  · rename_i x t hx ht
    have hx' : args = #[x] := by cases args; simp_all
    have ht' : ats = #[t] := by cases ats; simp_all
    subst hx'; subst ht'
    split at hg
    · rename_i v hv
      obtain ⟨E, hE⟩ := h.peek 0 x
      rw [hv] at hE
      obtain ⟨D, hl, hD, rfl⟩ := hE.one
      obtain ⟨y, hy, hg⟩ := G.ofOpt_inv hg
      have fin : ∀ m : Int, (∀ w, (Builtin.len_ #[t] o.type #[a.eval x]).run P w = .ok (.int .i64 m) w) → y = .lit (.int .i64 m) → OpS P o a w (DoneS w X M F kl s.tm.length n k r) := by
        intro m hr hym
        subst hym
        exact wp_valueS (v := .int .i64 m) (fun w => by simp [execOp, ho, resolve, invoke, builtin, hr]) (done_def H.toTabE h hh (peek_lit X Γ β w _ rfl) hg)
      unfold lenV at hy
      split at hy
      · rename_i e l hlook
        split at hy
        · rename_i hs
          injection hy with hy
          obtain ⟨e', he⟩ := Option.isSome_iff_exists.1 hs
          obtain ⟨m, D', hown⟩ := h.lookOwn H.toTabE hl hlook
          obtain ⟨A, cap, hc, _⟩ := own_cap hown
          exact fin _ (fun w => by simp [Builtin.len_, run_underlying (H.elem_ok t e' he).1, hc, goInt]; rfl) hy.symm
        · cases hy
      · rename_i e l hlook
        split at hy
        · rename_i hs
          injection hy with hy
          obtain ⟨e', he⟩ := Option.isSome_iff_exists.1 hs
          have := h.lookImm hl hlook H.toTabE
          subst this
          obtain ⟨n', hl⟩ := hl
          cases n' with
          | zero => exact hl.elim
          | succ n' =>
            obtain ⟨A, cap, hc, _⟩ := hl
            exact fin _ (fun w => by simp [Builtin.len_, run_underlying (H.elem_ok t e' he).1, hc, goInt]; rfl) hy.symm
        · cases hy
      · rename_i v' hlook
        split at hy
        · rename_i hs
          injection hy with hy
          have hc := h.lookLit H.toTabE hl hlook
          exact fin _ (fun w => by simp [Builtin.len_, run_underlying (H.str_ok t hs), hc, goInt]; rfl) hy.symm
        · cases hy
      · cases hy
    · exact (G.no_inv hg).elim
  · exact (G.no_inv hg).elim
theorem bound_eval (h : Rel X s a w Γ β) {lo : Option Operand} {b : Option Int} (hb : boundOf s lo = some b) : (lo = none ∧ b = none) ∨ ∃ x ki m, lo = some x ∧ b = some m ∧ a.eval x = .int ki m := by
  cases lo with
  | none => simp only [boundOf, Option.some.injEq] at hb; exact .inl ⟨rfl, hb.symm⟩
  | some x =>
    simp only [boundOf] at hb
    split at hb
    · rename_i ki m hx
      injection hb with hb
      exact .inr ⟨x, ki, m, rfl, hb.symm, h.litPeek hx⟩
    · cases hb
/-- The bounds of a cut that are in order. -/
theorem run_bounds (h : Rel X s a w Γ β) {lo hi : Option Operand} {b c : Option Int} (hb : boundOf s lo = some b) (hc : boundOf s hi = some c) (isS : Bool) (len cap : Nat) (h0 : 0 ≤ b.getD 0) (h1 : b.getD 0 ≤ c.getD len) (h2 : c.getD len ≤ len) (hl : len ≤ cap) (w2 : World) :
    (Instr.sliceBounds isS len cap (lo.map a.eval) (hi.map a.eval) none).run P w2 = .ok ((b.getD 0).toNat, (c.getD len).toNat, cap) w2 := by
  rcases bound_eval h hb with ⟨rfl, rfl⟩ | ⟨x, ki, m, rfl, rfl, ex⟩ <;> rcases bound_eval h hc with ⟨rfl, rfl⟩ | ⟨y, kj, m', rfl, rfl, ey⟩
  · simp [Instr.sliceBounds]
  · simp only [Option.getD_none, Option.getD_some] at h0 h1 h2 ⊢
    simp [Instr.sliceBounds, ey, run_sliceBound w2 kj m' cap _ h1 (by omega)]
  · simp only [Option.getD_none, Option.getD_some] at h0 h1 h2 ⊢
    simp [Instr.sliceBounds, ex, run_sliceBound w2 ki m len _ h0 (by omega)]
  · simp only [Option.getD_none, Option.getD_some] at h0 h1 h2 ⊢
    have : m ≤ (m'.toNat : Int) := by omega
    simp [Instr.sliceBounds, ex, ey, run_sliceBound w2 kj m' cap _ (by omega) (by omega), run_sliceBound w2 ki m m'.toNat _ h0 this]
theorem freeze1_hd {s s' : S B} {r k : Nat} (hg : s.freeze1 (.at ⟨r, k, []⟩) = some s') : s'.hd = s.hd.map (V.kill r k) := by
  simp only [S.freeze1] at hg
  split at hg
  · cases hg
  rename_i hr0
  have key : ∀ v : VT B, ((s.kill r k).setLeaf r k v).hd = s.hd.map (V.kill r k) := by
    intro v
    unfold S.setLeaf
    rcases root_cases r with rfl | rfl | ⟨t, rfl⟩ | ⟨t, rfl⟩
    · exact absurd rfl hr0
    · rfl
    · show (if 2 * t % 2 = 0 then _ else _ : S B).hd = _
      rw [if_pos (by omega)]; rfl
    · show (if (2 * t + 1) % 2 = 0 then _ else _ : S B).hd = _
      rw [if_neg (by omega)]; rfl
  split at hg
  · injection hg with hg; rw [← hg]; exact key _
  · injection hg with hg; rw [← hg]; exact key _
  · cases hg
theorem op_slice (H : TabP P B) (h : Rel X s a w Γ β) (hh : s.hd = []) {t : TypeId} {x : Operand} {lo hi : Option Operand} (ho : o.op = .slice t x lo hi none) (hg : G std M F n kl (stepOp std M o s k) r) : OpS P o a w (DoneS w X M F kl s.tm.length n k r) := by
  simp only [stepOp, ho] at hg
  split at hg
  · rename_i v b c hx hb hc
    have ex := h.litPeek hx
    split at hg
    · rename_i hs
      obtain ⟨h0, hg⟩ := G.guard_inv hg
      obtain ⟨h1, hg⟩ := G.guard_inv hg
      obtain ⟨h2, hg⟩ := G.guard_inv hg
      have h0 : 0 ≤ b.getD 0 := by simpa [std] using h0
      have h1 : b.getD 0 ≤ c.getD v.size := by simpa [std] using h1
      have h2 : c.getD v.size ≤ v.size := by simpa [std] using h2
      refine wp_valueS (v := .string (std.sext v (b.getD 0) (c.getD (std.ssize v)))) (fun w => ?_) (done_def H.toTabE h hh (peek_lit X Γ β w _ rfl) hg)
      have hr := run_bounds (P := P) h hb hc false v.size v.size h0 h1 h2 (Nat.le_refl _) w
      simp [execOp, ho, ex, Instr.sliceAt, run_underlying (H.str_ok t hs), Instr.slice, hr, std]
    · exact (G.no_inv hg).elim
  · rename_i e l b c hx hb hc
    obtain ⟨E, hE⟩ := h.peek 0 x
    rw [hx] at hE
    obtain ⟨D, hl, hD, rfl⟩ := hE.one
    split at hg
    · rename_i hel
      have hel : B.elem t = some e := hel
      obtain ⟨ht, i, vz, hi1, hi2, hi3, hi4, hi5, hi6, hi7⟩ := H.elem_ok t e hel
      obtain ⟨h0, hg⟩ := G.guard_inv hg
      obtain ⟨h1, hg⟩ := G.guard_inv hg
      obtain ⟨h2, hg⟩ := G.guard_inv hg
      have h0 : 0 ≤ b.getD 0 := by simpa [std] using h0
      have h1 : b.getD 0 ≤ c.getD l.length := by simpa [std] using h1
      have h2 : c.getD l.length ≤ l.length := by simpa [std] using h2
      obtain ⟨n', hl⟩ := hl
      cases n' with
      | zero => exact hl.elim
      | succ n' =>
        obtain ⟨A, cap, hcv, hle, hmx, hp⟩ := hl
        have hr := fun w => run_bounds (P := P) h hb hc true l.length cap h0 h1 h2 hle w
        generalize hu : b.getD 0 = u at *
        generalize hv : c.getD (l.length : Int) = v at *
        have hlen : (std.ext l u v).length = v.toNat - u.toNat := by simp [std]; omega
        refine wp_valueS (v := .slice (if cap = u.toNat then A else A.map (·.add (u.toNat * i.size))) (v.toNat - u.toNat) (cap - u.toNat)) (fun w => ?_) ?_
        · simp [execOp, ho, hcv, Instr.sliceAt, run_underlying ht, Instr.slice, hr, run_sizeOf_info hi1]
        · have hv' : c.getD (std.len l) = v := hv
          rw [hv'] at hg
          refine done_def H.toTabE h hh (peek_leaf (v := .imm e (std.ext l u v)) ⟨n' + 1, ?_⟩) hg
          refine ⟨_, _, by rw [hlen], by rw [hlen]; omega, by rw [hlen]; omega, fun hpos => ?_⟩
          rw [hlen] at hpos
          obtain ⟨ad, rfl, hokb, hrow⟩ := hp (by omega)
          refine ⟨ad.add (u.toNat * B.size e), by rw [if_neg (by omega), hi3]; rfl, by rw [add_block]; exact hokb, fun j y hy => ?_⟩
          have hy' : l[u.toNat + j]? = some y := by
            have : ((l.drop u.toNat).take (v.toNat - u.toNat))[j]? = some y := hy
            rw [List.getElem?_take] at this
            split at this
            · rwa [List.getElem?_drop] at this
            · cases this
          obtain ⟨cs, k1, k2⟩ := hrow _ y hy'
          refine ⟨cs, k1, fun i' u' hu' => ?_⟩
          rw [add_add, show u.toNat * B.size e + (j * B.size e + i') = (u.toNat + j) * B.size e + i' by rw [Nat.add_mul]; omega]
          exact k2 i' u' hu'
    · exact (G.no_inv hg).elim
  · rename_i q b c hx hb hc
    obtain ⟨E, hE⟩ := h.peek 0 x
    rw [hx] at hE
    obtain ⟨D, hl, hD, rfl⟩ := hE.one
    split at hg
    · rename_i r0 k0
      split at hg
      · rename_i e l hq
        split at hg
        · rename_i hel
          have hel : B.elem t = some e := hel
          obtain ⟨s1, hf, hg⟩ := G.ofOpt_inv hg
          obtain ⟨Γ1, f1, f2, f3, f4, _, _⟩ := h.freeze1 H.toTabE hf
          obtain ⟨ht, i, vz, hi1, hi2, hi3, hi4, hi5, hi6, hi7⟩ := H.elem_ok t e hel
          obtain ⟨h0, hg⟩ := G.guard_inv hg
          obtain ⟨h1, hg⟩ := G.guard_inv hg
          obtain ⟨h2, hg⟩ := G.guard_inv hg
          have h0 : 0 ≤ b.getD 0 := by simpa [std] using h0
          have h1 : b.getD 0 ≤ c.getD l.length := by simpa [std] using h1
          have h2 : c.getD l.length ≤ l.length := by simpa [std] using h2
          -- the row that is frozen, read
          obtain ⟨hr0, y, hy, hyo, hyc, hy1⟩ := hl
          simp only at hy hyc
          have hyv : y.v = .own e l := by
            have e1 : s.leaf r0 k0 = y.v := by
              unfold S.leaf
              rw [h.root, List.getD_eq_getElem?_getD]
              simp [vs, hy]
            rw [← e1]
            exact hq
          have hly := h.leaf r0 y (List.mem_of_getElem? hy)
          rw [hyv] at hly
          obtain ⟨n0, hly⟩ := hly
          have himm : Imm w (okB X Γ1 β w) n0 (.imm e l : VT B) (a.eval x) := by
            rw [hyc]
            exact Own.toImm hly fun b hb => f4 b (.inl ⟨_, y, rfl, hy, hb⟩)
          cases n0 with
          | zero => exact himm.elim
          | succ n' =>
            obtain ⟨A, cap, hcv, hle, hmx, hp⟩ := himm
            have hr := fun w => run_bounds (P := P) h hb hc true l.length cap h0 h1 h2 hle w
            generalize hu : b.getD 0 = u at *
            generalize hv : c.getD (l.length : Int) = v at *
            have hlen : (std.ext l u v).length = v.toNat - u.toNat := by simp [std]; omega
            have hh1 : s1.hd = [] := by
              obtain ⟨m1, m2⟩ : s1.hd = s.hd.map (V.kill r0 k0) ∧ True := ⟨freeze1_hd hf, trivial⟩
              rw [m1, hh]; rfl
            rw [← f3.1]
            refine wp_valueS (v := .slice (if cap = u.toNat then A else A.map (·.add (u.toNat * i.size))) (v.toNat - u.toNat) (cap - u.toNat)) (fun w => ?_) ?_
            · simp [execOp, ho, hcv, Instr.sliceAt, run_underlying ht, Instr.slice, hr, run_sizeOf_info hi1]
            · have hv' : c.getD (std.len l) = v := hv
              rw [hv'] at hg
              refine done_def H.toTabE f1 hh1 (peek_leaf (v := .imm e (std.ext l u v)) ⟨n' + 1, ?_⟩) hg
              refine ⟨_, _, by rw [hlen], by rw [hlen]; omega, by rw [hlen]; omega, fun hpos => ?_⟩
              rw [hlen] at hpos
              obtain ⟨ad, rfl, hokb, hrow⟩ := hp (by omega)
              refine ⟨ad.add (u.toNat * B.size e), by rw [if_neg (by omega), hi3]; rfl, by rw [add_block]; exact hokb, fun j y hy => ?_⟩
              have hy' : l[u.toNat + j]? = some y := by
                have : ((l.drop u.toNat).take (v.toNat - u.toNat))[j]? = some y := hy
                rw [List.getElem?_take] at this
                split at this
                · rwa [List.getElem?_drop] at this
                · cases this
              obtain ⟨cs, k1, k2⟩ := hrow _ y hy'
              refine ⟨cs, k1, fun i' u' hu' => ?_⟩
              rw [add_add, show u.toNat * B.size e + (j * B.size e + i') = (u.toNat + j) * B.size e + i' by rw [Nat.add_mul]; omega]
              exact k2 i' u' hu'
        · exact (G.no_inv hg).elim
      · exact (G.no_inv hg).elim
    · exact (G.no_inv hg).elim
  · exact (G.no_inv hg).elim
theorem cmp1_inv {c : Option IntKind} {x y : VT B} {b : Bool} (h : cmp1 std c x y = some b) : (∃ i a b', c = some i ∧ x = .lit (.int i a) ∧ y = .lit (.int i b') ∧ b = std.eq a b') ∨ (∃ a b', c = none ∧ x = .lit (.string a) ∧ y = .lit (.string b') ∧ b = std.seq a b') := by
  unfold cmp1 at h
  split at h
  · split at h
    · rename_i hi
      obtain ⟨rfl, rfl⟩ := hi
      injection h with h
      exact .inl ⟨_, _, _, rfl, rfl, rfl, h.symm⟩
    · cases h
  · injection h with h
    exact .inr ⟨_, _, rfl, rfl, rfl, h.symm⟩
  · cases h
theorem cmp1_run {ok : Nat → Prop} {w : World} {c : Option IntKind} {y1 y2 : Ent B} {b : Bool} (hb : cmp1 std c y1.v y2.v = some b) {D1 D2 : Nat → Prop} (h1 : LeafR X ok Γ β w y1.v y1.c D1) (h2 : LeafR X ok Γ β w y2.v y2.c D2)
    (d : Nat) {t : TypeId} (ht : P.underlying t = some (skD c)) (w' : World) : (Op.equalIn (d + 1) t y1.c y2.c).run P w' = .ok b w' := by
  rcases cmp1_inv hb with ⟨i, a, b', rfl, e1, e2, rfl⟩ | ⟨a, b', rfl, e1, e2, rfl⟩
  · rw [e1] at h1; rw [e2] at h2
    rw [show y1.c = .int i a from h1.1, show y2.c = .int i b' from h2.1, run_equalIn_int (P := P) w' d t i i a b' ht]
    rfl
  · rw [e1] at h1; rw [e2] at h2
    rw [show y1.c = .string a from h1.1, show y2.c = .string b' from h2.1, run_equalIn_string (P := P) w' d t a b' ht]
    rfl
theorem cmp_run {ok : Nat → Prop} {w : World} (d : Nat) : ∀ (ks : List (Option IntKind)) (fs : List Field) (o : Nat) (p1 p2 : List Value) (E1 E2 : List (Ent B)), SeqL P o ks fs → p1.length = o → p2.length = o →
    (∀ y ∈ E1, LeafR X ok Γ β w y.v y.c y.D) → (∀ y ∈ E2, LeafR X ok Γ β w y.v y.c y.D) → ∀ {kk : Bool → Tr B}, G std M F n kl (cmpT std ks (vs E1) (vs E2) kk) r →
    ∃ b, (∀ w' : World, (Op.eqFields (d + 1) (p1 ++ csOf E1).toArray (p2 ++ csOf E2).toArray fs).run P w' = .ok b w') ∧ G std M F n kl (kk b) r := by
  intro ks
  induction ks with
  | nil =>
    intro fs o p1 p2 E1 E2 hs _ _ _ _ kk hg
    cases E1 with
    | cons y E1 => exact (G.no_inv hg).elim
    | nil =>
    cases E2 with
    | cons y E2 => exact (G.no_inv hg).elim
    | nil =>
    cases fs with
    | cons f fs => exact hs.elim
    | nil => exact ⟨true, fun w' => by simp [Op.eqFields], hg⟩
  | cons c ks ih =>
    intro fs o p1 p2 E1 E2 hs hp1 hp2 hE1 hE2 kk hg
    cases E1 with
    | nil => exact (G.no_inv hg).elim
    | cons y1 E1 =>
    cases E2 with
    | nil => exact (G.no_inv hg).elim
    | cons y2 E2 =>
    cases fs with
    | nil => exact hs.elim
    | cons f fs =>
    obtain ⟨hn, ho, ht, hs⟩ := hs
    obtain ⟨b, hb, hg⟩ := G.ofOpt_inv hg
    have l1 := hE1 y1 (List.mem_cons_self ..)
    have l2 := hE2 y2 (List.mem_cons_self ..)
    have hrun := fun w' => cmp1_run hb l1 l2 d ht w'
    have hpk : P.plainKey f.type = true := by
      unfold Program.plainKey
      rw [ht]
      cases c <;> rfl
    have pt : ∀ (p : List Value) (y : Ent B) (E : List (Ent B)) (w' : World), p.length = o → (part f.type (p ++ csOf (y :: E)).toArray f.offset).run P w' = .ok y.c w' := by
      intro p y E w' hp
      refine run_part_plain w' hpk ?_
      rw [ho, ← hp]
      show (p ++ y.c :: csOf E).toArray[p.length]? = some y.c
      simp
    have step : ∀ w' : World, (Op.eqFields (d + 1) (p1 ++ csOf (y1 :: E1)).toArray (p2 ++ csOf (y2 :: E2)).toArray (f :: fs)).run P w' = if (!b) = true then .ok false w' else (Op.eqFields (d + 1) (p1 ++ csOf (y1 :: E1)).toArray (p2 ++ csOf (y2 :: E2)).toArray fs).run P w' := by
      intro w'
      rw [Op.eqFields]
      simp only [if_pos hn, Sem.run_bind, pt p1 y1 E1 w' hp1, pt p2 y2 E2 w' hp2, hrun w', Result.andThen_ok]
      cases b <;> simp
    rcases G.cond_inv hg with ⟨rfl, hg2⟩ | ⟨rfl, hg2⟩
    · obtain ⟨b', hb', hg'⟩ := ih fs (o + 1) (p1 ++ [y1.c]) (p2 ++ [y2.c]) E1 E2 hs (by simp [hp1]) (by simp [hp2]) (fun y hy => hE1 y (List.mem_cons_of_mem _ hy)) (fun y hy => hE2 y (List.mem_cons_of_mem _ hy)) hg2
      refine ⟨b', fun w' => ?_, hg'⟩
      rw [step, if_neg (by decide)]
      have := hb' w'
      rwa [List.append_assoc, List.append_assoc] at this
    · exact ⟨false, fun w' => by rw [step, if_pos (by decide)], hg2⟩
theorem op_binOp (H : TabP P B) (h : Rel X s a w Γ β) (hh : s.hd = []) {op : BinOp} {t u : TypeId} {x y : Operand} (ho : o.op = .binOp op t x y u)
    (hg : G std M F n kl (stepOp std M o s k) r) : OpS P o a w (DoneS w X M F kl s.tm.length n k r) := by
  simp only [stepOp, ho] at hg
  split at hg
  · rename_i u1 v1 hx hy
    have ex := h.litPeek hx
    have ey := h.litPeek hy
    have fin : ∀ c : Value, c.oneCell' = true → u1.oneCell' = true → u1 ≠ .nilIface → (∀ w, (binOp op t u1 v1).run P w = .ok c w) → G std M F n kl (k (s.def_ o.dst (.one (.lit c)))) r → OpS P o a w (DoneS w X M F kl s.tm.length n k r) := by
      intro c hc hu1 hn hr hg
      exact wp_valueS (v := c) (fun w => by simp [execOp, ho, ex, ey, guard_lit _ _ _ _ _ _ hu1 hn, hr]) (done_def H.toTabE h hh (peek_lit X Γ β w c hc) hg)
    split at hg
    · rename_i s1 s2
      obtain ⟨hle, hg⟩ := G.guard_inv hg
      refine fin _ rfl rfl (by simp) ?_ hg
      intro w
      have : ¬ ((s1.size + s2.size : Nat) : Int) > IntKind.i64.max := by
        have := of_decide_eq_true hle
        simp only [std] at this
        have e : IntKind.i64.max = 9223372036854775807 := by decide
        rw [e]; omega
      simp only [binOp, Op.stringOp, if_neg this]
      rfl
    · rename_i i1 a1 j1 b1
      split at hg
      · rename_i hij
        subst hij
        rcases G.cond_inv hg with ⟨_, hg⟩ | ⟨hb, hg⟩
        · exact (G.no_inv hg).elim
        · have : b1 ≠ 0 := by simpa [std] using hb
          refine fin _ rfl rfl (by simp) ?_ hg
          intro w
          simp [binOp, Op.intDiv, this, std]
      · exact (G.no_inv hg).elim
    · rename_i i1 a1 j1 b1
      split at hg
      · rename_i hij
        subst hij
        rcases G.cond_inv hg with ⟨_, hg⟩ | ⟨hb, hg⟩
        · exact (G.no_inv hg).elim
        · have : b1 ≠ 0 := by simpa [std] using hb
          refine fin _ rfl rfl (by simp) ?_ hg
          intro w
          simp [binOp, Op.intDiv, this, std]
      · exact (G.no_inv hg).elim
    · rename_i i1 a1 j1 b1
      obtain ⟨hle, hg⟩ := G.guard_inv hg
      have : ¬ b1 < 0 := by have := of_decide_eq_true hle; omega
      refine fin _ rfl rfl (by simp) ?_ hg
      intro w
      simp [binOp, Op.shift, this, std]
    · rename_i i1 a1 j1 b1
      obtain ⟨hle, hg⟩ := G.guard_inv hg
      have : ¬ b1 < 0 := by have := of_decide_eq_true hle; omega
      refine fin _ rfl rfl (by simp) ?_ hg
      intro w
      simp [binOp, Op.shift, this, std]
    · rename_i a1 b1
      split at hg
      · rename_i hb
        refine fin _ rfl rfl (by simp) ?_ hg
        intro w
        simp only [binOp, Op.equal, Sem.run_bind, show Op.maxDepth = 9999 + 1 from rfl, run_equalIn_bool' w 9999 t a1 b1 (H.bool_ok t hb), Result.andThen_ok]
        rfl
      · exact (G.no_inv hg).elim
    · rename_i a1 b1
      split at hg
      · rename_i hb
        refine fin _ rfl rfl (by simp) ?_ hg
        intro w
        simp only [binOp, Op.equal, Sem.run_bind, show Op.maxDepth = 9999 + 1 from rfl, run_equalIn_bool' w 9999 t a1 b1 (H.bool_ok t hb), Result.andThen_ok]
        rfl
      · exact (G.no_inv hg).elim
    · obtain ⟨c, hb, hg⟩ := G.ofOpt_inv hg
      unfold binB at hb
      split at hb
      · rename_i i1 a1 j1 b1
        split at hb
        · rename_i hij
          subst hij
          split at hb <;> first
            | (injection hb with hb; subst hb; refine fin _ rfl rfl (by simp) ?_ hg; intro w; simp [binOp, Op.intArith, Op.intCmp, Op.intBits, std, bne]; done)
            | cases hb
        · cases hb
      · rename_i a1 b1
        split at hb <;> first
          | (injection hb with hb; subst hb; refine fin _ rfl rfl (by simp) ?_ hg; intro w; simp [binOp, Op.stringOp, std, bne]; done)
          | cases hb
      · cases hb
  · rename_i v hx hnn
    obtain ⟨E, hE⟩ := h.peek 0 x
    rw [hx] at hE
    obtain ⟨D, hl, hD, rfl⟩ := hE.one
    have key : ∀ (A : Option Addr) (len cap : Nat) (e : TypeId), a.eval x = .slice A len cap → B.elem t = some e → (0 < len → ∃ ad, A = some ad) → ∀ (neg : Bool) (op' : BinOp), op = op' → y = .const (.slice none 0 0) → (op' = .eql ∧ neg = false ∨ op' = .neq ∧ neg = true) → ∀ {kk : Bool → Tr B}, (∀ b, kk b = k (s.def_ o.dst (.one (.lit (.bool (xor neg b)))))) →
        G std M F n kl (.cond (std.lt 0 (len : Int)) (fun _ => kk false) fun _ => .both (kk true) (kk false)) r → OpS P o a w (DoneS w X M F kl s.tm.length n k r) := by
      intro A len cap e hc he hA neg op' hop hy hneg kk hkk hg2
      clear hg
      subst hop; subst hy
      obtain ⟨ht, _⟩ := H.elem_ok t e he
      have fin : ∀ b : Bool, A.isNone = b → G std M F n kl (kk b) r → OpS P o a w (DoneS w X M F kl s.tm.length n k r) := by
        intro b hb hg
        rw [hkk] at hg
        refine wp_valueS (v := .bool (xor neg b)) (fun w => ?_) (done_def H.toTabE h hh (peek_lit X Γ β w _ rfl) hg)
        have hgd : (eqGuard op t x (.const (.slice none 0 0)) (.slice A len cap) (.slice none 0 0)).run P w = .ok () w := by
          unfold eqGuard
          cases op <;> rfl
        have hy0 : a.eval (.const (.slice none 0 0)) = .slice none 0 0 := rfl
        have hb1 : (binOp op t (.slice A len cap) (.slice none 0 0)).run P w = .ok (.bool (xor neg b)) w := by
          rcases hneg with ⟨rfl, rfl⟩ | ⟨rfl, rfl⟩
          · simp only [binOp, Sem.run_bind, run_equal_slice_nil (P := P) w t e A len cap ht, Result.andThen_ok, hb]
            cases b <;> rfl
          · rw [run_neq_slice_nil (P := P) w t e A len cap ht, hb]
            cases b <;> rfl
        simp [execOp, ho, hc, hy0, hgd, hb1]
      rcases G.cond_inv hg2 with ⟨h1, hg⟩ | ⟨h1, hg⟩
      · have h1 : 0 < len := by simpa [std] using h1
        obtain ⟨ad, rfl⟩ := hA h1
        exact fin false rfl hg
      · cases hg with
        | both g1 g2 =>
        cases hAn : A.isNone with
        | true => exact fin true hAn g1
        | false => exact fin false hAn g2
    have nilG : ∀ {kk : Bool → Tr B} (neg : Bool) (op' : BinOp) (e : TypeId), op = op' → y = .const (.slice none 0 0) → B.elem t = some e → (op' = .eql ∧ neg = false ∨ op' = .neq ∧ neg = true) → (∀ b, kk b = k (s.def_ o.dst (.one (.lit (.bool (xor neg b)))))) → G std M F n kl (nilT std s v kk) r →
        OpS P o a w (DoneS w X M F kl s.tm.length n k r) := by
      intro kk neg op' e hop hy he hneg hkk hg2
      clear hg
      unfold nilT at hg2
      split at hg2
      · rename_i e' l hlook
        obtain ⟨m, D', hown⟩ := h.lookOwn H.toTabE hl hlook
        obtain ⟨A, cap, hc, _, hA⟩ := own_cap hown
        exact key A l.length cap e hc he hA neg op' hop hy hneg hkk hg2
      · rename_i e' l hlook
        have := h.lookImm hl hlook H.toTabE
        subst this
        obtain ⟨n', hl⟩ := hl
        cases n' with
        | zero => exact hl.elim
        | succ n' =>
          obtain ⟨A, cap, hc, _, _, hA⟩ := hl
          exact key A l.length cap e hc he (fun h0 => by obtain ⟨ad, h1, _⟩ := hA h0; exact ⟨ad, h1⟩) neg op' hop hy hneg hkk hg2
      · exact (G.no_inv hg2).elim
    split at hg
    · rename_i e he
      exact nilG false .eql e rfl rfl he (.inl ⟨rfl, rfl⟩) (fun b => by cases b <;> rfl) hg
    · rename_i e he
      exact nilG true .neq e rfl rfl he (.inr ⟨rfl, rfl⟩) (fun b => by cases b <;> rfl) hg
    · exact (G.no_inv hg).elim
  · rename_i xs ys hx hy
    obtain ⟨E1, h1⟩ := h.peek 0 x
    obtain ⟨E2, h2⟩ := h.peek 0 y
    rw [hx] at h1; rw [hy] at h2
    have e1 : a.eval x = .agg (csOf E1).toArray := h1.wr
    have e2 : a.eval y = .agg (csOf E2).toArray := h2.wr
    have v1 : xs = vs E1 := h1.lv
    have v2 : ys = vs E2 := h2.lv
    have key : ∀ ks, B.sq t = some ks → ∀ {kk : Bool → Tr B}, G std M F n kl (cmpT std ks xs ys kk) r → ∃ b, (∀ w' : World, (Op.equalIn 10000 t (.agg (csOf E1).toArray) (.agg (csOf E2).toArray)).run P w' = .ok b w') ∧ G std M F n kl (kk b) r := by
      intro ks hks kk hg
      obtain ⟨hst, _, fs, hu, hs⟩ := H.sq_ok t ks hks
      have hf : P.fieldsOf t = fs := by simp [Program.fieldsOf, hu]
      rw [v1, v2] at hg
      obtain ⟨b, hb, hg⟩ := cmp_run 9998 ks fs.toList 0 [] [] E1 E2 hs rfl rfl (fun y hy => (h1.lf y hy).1) (fun y hy => (h2.lf y hy).1) hg
      refine ⟨b, fun w' => ?_, hg⟩
      rw [run_equalIn_struct (P := P) w' 9999 t _ _ (by rw [hf]; exact hu) hst, hf]
      exact hb w'
    split at hg
    · rename_i ks hks
      obtain ⟨b, hb, hg⟩ := key ks hks hg
      obtain ⟨_, hgd, _⟩ := H.sq_ok t ks hks
      refine wp_valueS (v := .bool b) (fun w => ?_) (done_def H.toTabE h hh (peek_lit X Γ β w _ rfl) hg)
      have hb1 : (binOp .eql t (.agg (csOf E1).toArray) (.agg (csOf E2).toArray)).run P w = .ok (.bool b) w := by rw [run_eql_struct, hb w]; rfl
      simp [execOp, ho, e1, e2, run_eqGuard_agg (P := P) w .eql t x y _ _ hgd, hb1]
    · rename_i ks hks
      obtain ⟨b, hb, hg⟩ := key ks hks hg
      obtain ⟨_, hgd, _⟩ := H.sq_ok t ks hks
      refine wp_valueS (v := .bool (!b)) (fun w => ?_) (done_def H.toTabE h hh (peek_lit X Γ β w _ rfl) hg)
      have hb1 : (binOp .neq t (.agg (csOf E1).toArray) (.agg (csOf E2).toArray)).run P w = .ok (.bool (!b)) w := by rw [run_neq_struct, hb w]; rfl
      simp [execOp, ho, e1, e2, run_eqGuard_agg (P := P) w .neq t x y _ _ hgd, hb1]
    · exact (G.no_inv hg).elim
  · exact (G.no_inv hg).elim
end
end Go.I
