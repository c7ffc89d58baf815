/- What each function that the law reaches answers, by the interpreter. No condition. -/
import Derived.Test.YtogfddilolannaaDoorGKD
set_option linter.unusedVariables false
set_option linter.unusedSimpArgs false
set_option maxRecDepth 100000
set_option maxHeartbeats 40000000
namespace Go.I
open Go
/-! ### loop.example/g00100/laws.big -/
def laws_big.e (r : Bool) : Res tab := (([], []), .one (.lit (.bool r)))
def laws_big.f (a0 : List Int) : Option Bool := (some (decide (1048576 < (a0.length : Int))))
theorem laws_big.le (O : Prim) (hO : O = std) (a0 : List Int) : Le F O M fi20.kills laws_big.e (laws_big.f a0) (den O M fi20.kills fi20.fn fi20.body (tab.gives 20) (M 20) [.one (.imm 5 a0)] : Tr tab) := by
  refine Le.eqS 0 (by conv => lhs; cbv) ?_
  unfold laws_big.f
  exact Le.ret2 (by subst hO; rfl)
/-! ### loop.example/g00100/spec.l01New -/
def spec_l01New.e (r : GL01Cur) : Res tab := (([], []), .one (.pb true 107 r))
def spec_l01New.l0 : Nat → (List Int) → Int → Int → Option GL01Cur
  | 0, _, _, _ => none
  | k + 1, a0, x_2, x_3 => (if x_3 < (a0.length : Int) then (if x_3 < 4000 then (if 0 ≤ x_3 then (if x_3 < (a0.length : Int) then (spec_l01New.l0 k a0 (std.bits .and .i64 (IntKind.wrap .i64 ((IntKind.wrap .i64 ((IntKind.wrap .i64 (x_2 * 131)) + (IntKind.wrap .i64 (a0.getD (Int.toNat x_3) 0)))) + 7)) 1073741823) (IntKind.wrap .i64 (x_3 + 1))) else none) else none) else (some (⟨a0, 0, x_2⟩ : GL01Cur))) else (some (⟨a0, 0, x_2⟩ : GL01Cur)))
def spec_l01New.f (k : Nat) (a0 : List Int) : Option GL01Cur := (spec_l01New.l0 k a0 (IntKind.wrap .i64 (100100 + (a0.length : Int))) 0)
theorem spec_l01New.le (O : Prim) (hO : O = std) (k : Nat) (a0 : List Int) : Le F O M fi46.kills spec_l01New.e (spec_l01New.f k a0) (den O M fi46.kills fi46.fn fi46.body (tab.gives 46) (M 46) [.one (.imm 5 a0)] : Tr tab) := by
  refine Le.eqS 0 (by conv => lhs; cbv) ?_
  unfold spec_l01New.f
  refine Le.loopS (fun (n : Nat) (v : Int × Int) => spec_l01New.l0 n a0 v.1 v.2) (fun (v : Int × Int) => match v with | (x_2, x_3) => (⟨[], [.one (.imm 5 a0), D_, D_, .one (.lit (.int .i64 x_2)), .one (.lit (.int .i64 x_3)), D_, D_, D_, D_, D_, D_, D_, D_, D_, D_, D_, D_, D_, D_, D_, D_, D_, D_, D_, D_, D_, D_, D_, D_, D_, D_, D_], [[], [], [], [], [], [], [], [], [], [], [], [], [], [], [], [], [], [], [], [], [], [], [], [], [], [], [], [], [], [], [], [], []], []⟩ : S tab)) k ((O.wrap .i64 (O.add 100100 (O.len a0))), 0) (by subst hO; rfl) rfl (fun _ => rfl) ?_
  intro n0 hn0 ih0 v0
  obtain ⟨x_2, x_3⟩ := v0
  refine Le.eqS 0 (by conv => lhs; cbv) ?_
  show Le F O M _ _ (spec_l01New.l0 (n0 + 1) a0 x_2 x_3) _
  rw [spec_l01New.l0]
  refine Le.condP 2 3 (by subst hO; rfl) (by conv => lhs; cbv) (by conv => lhs; cbv) ?_ ?_
  · refine Le.condP 0 0 (by subst hO; rfl) (by conv => lhs; cbv) (by conv => lhs; cbv) ?_ ?_
    · refine Le.guardP 0 (by subst hO; rfl) (by conv => lhs; cbv) ?_
      refine Le.guardP 0 (by subst hO; rfl) (by conv => lhs; cbv) ?_
      exact Le.again (ih0 n0 (by omega) ((O.bits .and .i64 (O.wrap .i64 (O.add (O.wrap .i64 (O.add (O.wrap .i64 (O.mul x_2 131)) (O.wrap .i64 (O.get 0 a0 x_3)))) 7)) 1073741823), (O.wrap .i64 (O.add x_3 1)))) (by subst hO; rfl) rfl
    · exact Le.ret2 (by subst hO; rfl)
  · exact Le.ret2 (by subst hO; rfl)
/-! ### loop.example/g00100/spec.l01Size -/
def spec_l01Size.e (r : Int) : Res tab := (([], []), .one (.lit (.int .i64 r)))
def spec_l01Size.f (a0 : List Int) (a1 : Int) : Option Int := (if 20 = 0 then none else (if a1 < (IntKind.wrap .i64 (2 + (IntKind.wrap .i64 (Int.tdiv (a0.length : Int) 20)))) then (some a1) else (some (IntKind.wrap .i64 (2 + (IntKind.wrap .i64 (Int.tdiv (a0.length : Int) 20)))))))
theorem spec_l01Size.le (O : Prim) (hO : O = std) (a0 : List Int) (a1 : Int) : Le F O M fi48.kills spec_l01Size.e (spec_l01Size.f a0 a1) (den O M fi48.kills fi48.fn fi48.body (tab.gives 48) (M 48) [.one (.imm 5 a0), .one (.lit (.int .i64 a1))] : Tr tab) := by
  refine Le.eqS 0 (by conv => lhs; cbv) ?_
  unfold spec_l01Size.f
  refine Le.guardN 0 (by subst hO; rfl) (by conv => lhs; cbv) ?_
  refine Le.condP 0 0 (by subst hO; rfl) (by conv => lhs; cbv) (by conv => lhs; cbv) ?_ ?_
  · exact Le.ret2 (by subst hO; rfl)
  · exact Le.ret2 (by subst hO; rfl)
/-! ### loop.example/g00100/spec.l01Byte -/
def spec_l01Byte_i.e (r : Int × GL01Cur) : Res tab := (([], [[.imm 5 r.2.B, .lit (.int .i64 r.2.I), .lit (.int .i64 r.2.H)]]), .one (.lit (.int .i64 r.1)))
def spec_l01Byte_i.f (a0 : GL01Cur) : Option (Int × GL01Cur) := (if 0 ≤ 33 then (if 0 ≤ 45 then (if a0.I < (a0.B.length : Int) then (if 0 ≤ a0.I then (if a0.I < (a0.B.length : Int) then (some ((std.bits .and .i64 (IntKind.wrap .i64 ((std.bits .and .i64 (std.bits .xor .i64 (std.shr .i64 (IntKind.wrap .i64 ((IntKind.wrap .i64 (a0.H * 6364136223846793005)) + 1442695040888963407)) 33) (std.shr .i64 (IntKind.wrap .i64 ((IntKind.wrap .i64 (a0.H * 6364136223846793005)) + 1442695040888963407)) 45)) 255) + (IntKind.wrap .i64 (a0.B.getD (Int.toNat a0.I) 0)))) 255), (⟨a0.B, (IntKind.wrap .i64 (a0.I + 1)), (IntKind.wrap .i64 ((IntKind.wrap .i64 (a0.H * 6364136223846793005)) + 1442695040888963407))⟩ : GL01Cur))) else none) else none) else (some ((std.bits .and .i64 (std.bits .xor .i64 (std.shr .i64 (IntKind.wrap .i64 ((IntKind.wrap .i64 (a0.H * 6364136223846793005)) + 1442695040888963407)) 33) (std.shr .i64 (IntKind.wrap .i64 ((IntKind.wrap .i64 (a0.H * 6364136223846793005)) + 1442695040888963407)) 45)) 255), (⟨a0.B, a0.I, (IntKind.wrap .i64 ((IntKind.wrap .i64 (a0.H * 6364136223846793005)) + 1442695040888963407))⟩ : GL01Cur)))) else none) else none)
theorem spec_l01Byte_i.le (O : Prim) (hO : O = std) (a0 : GL01Cur) : Le F O M fi110.kills spec_l01Byte_i.e (spec_l01Byte_i.f a0) (den O M fi110.kills fi110.fn fi110.body (tab.gives 110) (M 110) [.agg [.imm 5 a0.B, .lit (.int .i64 a0.I), .lit (.int .i64 a0.H)]] : Tr tab) := by
  refine Le.eqS 0 (by conv => lhs; cbv) ?_
  unfold spec_l01Byte_i.f
  refine Le.guardP 0 (by subst hO; rfl) (by conv => lhs; cbv) ?_
  refine Le.guardP 0 (by subst hO; rfl) (by conv => lhs; cbv) ?_
  refine Le.condP 0 0 (by subst hO; rfl) (by conv => lhs; cbv) (by conv => lhs; cbv) ?_ ?_
  · refine Le.guardP 0 (by subst hO; rfl) (by conv => lhs; cbv) ?_
    refine Le.guardP 0 (by subst hO; rfl) (by conv => lhs; cbv) ?_
    exact Le.ret2 (by subst hO; rfl)
  · exact Le.ret2 (by subst hO; rfl)
/-! ### loop.example/g00100/spec.l01Below -/
def spec_l01Below_i.e (r : Int × GL01Cur) : Res tab := (([], [[.imm 5 r.2.B, .lit (.int .i64 r.2.I), .lit (.int .i64 r.2.H)]]), .one (.lit (.int .i64 r.1)))
def spec_l01Below_i.f (a0 : GL01Cur) (a1 : Int) : Option (Int × GL01Cur) := (if a1 ≤ 0 then (some (0, a0)) else (if a1 ≤ 256 then ((spec_l01Byte_i.f a0).bind fun r0 => (if a1 = 0 then none else (some ((Int.tmod r0.1 a1), r0.2)))) else ((spec_l01Byte_i.f a0).bind fun r1 => ((spec_l01Byte_i.f r1.2).bind fun r2 => ((spec_l01Byte_i.f r2.2).bind fun r3 => ((spec_l01Byte_i.f r3.2).bind fun r4 => (if a1 = 0 then none else (some ((Int.tmod (IntKind.wrap .i64 ((IntKind.wrap .i64 ((IntKind.wrap .i64 ((IntKind.wrap .i64 (r1.1 * 16777216)) + (IntKind.wrap .i64 (r2.1 * 65536)))) + (IntKind.wrap .i64 (r3.1 * 256)))) + r4.1)) a1), r4.2)))))))))
theorem spec_l01Below_i.le (O : Prim) (hO : O = std) (a0 : GL01Cur) (a1 : Int) : Le F O M fi84.kills spec_l01Below_i.e (spec_l01Below_i.f a0 a1) (den O M fi84.kills fi84.fn fi84.body (tab.gives 84) (M 84) [.agg [.imm 5 a0.B, .lit (.int .i64 a0.I), .lit (.int .i64 a0.H)], .one (.lit (.int .i64 a1))] : Tr tab) := by
  refine Le.eqS 0 (by conv => lhs; cbv) ?_
  unfold spec_l01Below_i.f
  refine Le.condP 0 0 (by subst hO; rfl) (by conv => lhs; cbv) (by conv => lhs; cbv) ?_ ?_
  · exact Le.ret2 (by subst hO; rfl)
  · refine Le.condP 0 0 (by subst hO; rfl) (by conv => lhs; cbv) (by conv => lhs; cbv) ?_ ?_
    · refine Le.callC 0 (fi := fi110) rfl (spec_l01Byte_i.le O hO a0) (by subst hO; rfl) (by intro r0; conv => lhs; cbv) ?_
      intro r0
      refine Le.guardN 0 (by subst hO; rfl) (by conv => lhs; cbv) ?_
      exact Le.ret2 (by subst hO; rfl)
    · refine Le.callC 0 (fi := fi110) rfl (spec_l01Byte_i.le O hO a0) (by subst hO; rfl) (by intro r1; conv => lhs; cbv) ?_
      intro r1
      refine Le.callC 0 (fi := fi110) rfl (spec_l01Byte_i.le O hO r1.2) (by subst hO; rfl) (by intro r2; conv => lhs; cbv) ?_
      intro r2
      refine Le.callC 0 (fi := fi110) rfl (spec_l01Byte_i.le O hO r2.2) (by subst hO; rfl) (by intro r3; conv => lhs; cbv) ?_
      intro r3
      refine Le.callC 0 (fi := fi110) rfl (spec_l01Byte_i.le O hO r3.2) (by subst hO; rfl) (by intro r4; conv => lhs; cbv) ?_
      intro r4
      refine Le.guardN 0 (by subst hO; rfl) (by conv => lhs; cbv) ?_
      exact Le.ret2 (by subst hO; rfl)
/-! ### loop.example/g00100/spec.l01Once -/
def spec_l01Once_i.e (r : Bool × GL01Cur) : Res tab := (([], [[.imm 5 r.2.B, .lit (.int .i64 r.2.I), .lit (.int .i64 r.2.H)]]), .one (.lit (.bool r.1)))
def spec_l01Once_i.f (a0 : GL01Cur) (a1 : Int) : Option (Bool × GL01Cur) := ((spec_l01Below_i.f a0 a1).bind fun r0 => (some ((decide (r0.1 = 0)), r0.2)))
theorem spec_l01Once_i.le (O : Prim) (hO : O = std) (a0 : GL01Cur) (a1 : Int) : Le F O M fi83.kills spec_l01Once_i.e (spec_l01Once_i.f a0 a1) (den O M fi83.kills fi83.fn fi83.body (tab.gives 83) (M 83) [.agg [.imm 5 a0.B, .lit (.int .i64 a0.I), .lit (.int .i64 a0.H)], .one (.lit (.int .i64 a1))] : Tr tab) := by
  refine Le.eqS 0 (by conv => lhs; cbv) ?_
  unfold spec_l01Once_i.f
  refine Le.callC 0 (fi := fi84) rfl (spec_l01Below_i.le O hO a0 a1) (by subst hO; rfl) (by intro r0; conv => lhs; cbv) ?_
  intro r0
  exact Le.ret2 (by subst hO; rfl)
/-! ### loop.example/g00100/spec.l01Pick -/
def spec_l01Pick_i.e (r : ByteArray × GL01Cur) : Res tab := (([], [[.imm 5 r.2.B, .lit (.int .i64 r.2.I), .lit (.int .i64 r.2.H)]]), .one (.lit (.string r.1)))
def spec_l01Pick_i.f (a0 : GL01Cur) (a1 : List ByteArray) : Option (ByteArray × GL01Cur) := ((spec_l01Below_i.f a0 (a1.length : Int)).bind fun r0 => (if 0 ≤ r0.1 then (if r0.1 < (a1.length : Int) then (some ((a1.getD (Int.toNat r0.1) (⟨#[]⟩ : ByteArray)), r0.2)) else none) else none))
theorem spec_l01Pick_i.le (O : Prim) (hO : O = std) (a0 : GL01Cur) (a1 : List ByteArray) : Le F O M fi111.kills spec_l01Pick_i.e (spec_l01Pick_i.f a0 a1) (den O M fi111.kills fi111.fn fi111.body (tab.gives 111) (M 111) [.agg [.imm 5 a0.B, .lit (.int .i64 a0.I), .lit (.int .i64 a0.H)], .one (.imm 9 a1)] : Tr tab) := by
  refine Le.eqS 0 (by conv => lhs; cbv) ?_
  unfold spec_l01Pick_i.f
  refine Le.callC 0 (fi := fi84) rfl (spec_l01Below_i.le O hO a0 (O.len a1)) (by subst hO; rfl) (by intro r0; conv => lhs; cbv) ?_
  intro r0
  refine Le.guardP 0 (by subst hO; rfl) (by conv => lhs; cbv) ?_
  refine Le.guardP 0 (by subst hO; rfl) (by conv => lhs; cbv) ?_
  exact Le.ret2 (by subst hO; rfl)
/-! ### loop.example/g00100/spec.l02Name -/
def spec_l02Name_i.e (r : ByteArray × GL01Cur) : Res tab := (([], [[.imm 5 r.2.B, .lit (.int .i64 r.2.I), .lit (.int .i64 r.2.H)]]), .one (.lit (.string r.1)))
def spec_l02Name_i.f (a0 : GL01Cur) : Option (ByteArray × GL01Cur) := ((spec_l01Pick_i.f a0 [(⟨#[97]⟩ : ByteArray), (⟨#[98]⟩ : ByteArray), (⟨#[99]⟩ : ByteArray), (⟨#[100, 111, 99, 115]⟩ : ByteArray), (⟨#[105, 109, 103]⟩ : ByteArray), (⟨#[120, 46, 116, 120, 116]⟩ : ByteArray), (⟨#[121, 46, 116, 120, 116]⟩ : ByteArray), (⟨#[122, 46, 111]⟩ : ByteArray), (⟨#[110, 111, 116, 101, 95, 49]⟩ : ByteArray), (⟨#[66]⟩ : ByteArray), (⟨#[111, 108, 100]⟩ : ByteArray), (⟨#[107, 101, 101, 112, 46, 109, 101]⟩ : ByteArray), (⟨#[97, 45, 98]⟩ : ByteArray), (⟨#[108, 105, 98]⟩ : ByteArray)]).bind fun r0 => (some (r0.1, r0.2)))
theorem spec_l02Name_i.le (O : Prim) (hO : O = std) (a0 : GL01Cur) : Le F O M fi86.kills spec_l02Name_i.e (spec_l02Name_i.f a0) (den O M fi86.kills fi86.fn fi86.body (tab.gives 86) (M 86) [.agg [.imm 5 a0.B, .lit (.int .i64 a0.I), .lit (.int .i64 a0.H)]] : Tr tab) := by
  refine Le.eqS 0 (by conv => lhs; cbv) ?_
  unfold spec_l02Name_i.f
  refine Le.callC 0 (fi := fi111) rfl (spec_l01Pick_i.le O hO a0 [(⟨#[97]⟩ : ByteArray), (⟨#[98]⟩ : ByteArray), (⟨#[99]⟩ : ByteArray), (⟨#[100, 111, 99, 115]⟩ : ByteArray), (⟨#[105, 109, 103]⟩ : ByteArray), (⟨#[120, 46, 116, 120, 116]⟩ : ByteArray), (⟨#[121, 46, 116, 120, 116]⟩ : ByteArray), (⟨#[122, 46, 111]⟩ : ByteArray), (⟨#[110, 111, 116, 101, 95, 49]⟩ : ByteArray), (⟨#[66]⟩ : ByteArray), (⟨#[111, 108, 100]⟩ : ByteArray), (⟨#[107, 101, 101, 112, 46, 109, 101]⟩ : ByteArray), (⟨#[97, 45, 98]⟩ : ByteArray), (⟨#[108, 105, 98]⟩ : ByteArray)]) (by subst hO; rfl) (by intro r0; conv => lhs; cbv) ?_
  intro r0
  exact Le.ret2 (by subst hO; rfl)
/-! ### loop.example/g00100/spec.l02Names -/
def spec_l02Names.e (r : List ByteArray) : Res tab := (([], []), .one (.own 9 r))
def spec_l02Names.l0 : Nat → ByteArray → (List ByteArray) → Int → Int → Option (List ByteArray)
  | 0, _, _, _, _ => none
  | k + 1, a0, x_3, x_4, x_5 => (if x_5 < (a0.size : Int) then (if 0 ≤ x_5 then (if x_5 < (a0.size : Int) then (if (std.sget a0 x_5) = 47 then (if 0 ≤ x_4 then (if x_4 ≤ x_5 then (if x_5 ≤ (a0.size : Int) then (if (((x_3.length : Int) + ([(a0.extract (Int.toNat x_4) (Int.toNat x_5))].length : Int)) * 16) ≤ 140737488351232 then (spec_l02Names.l0 k a0 (x_3 ++ [(a0.extract (Int.toNat x_4) (Int.toNat x_5))]) (IntKind.wrap .i64 (x_5 + 1)) (IntKind.wrap .i64 (x_5 + 1))) else none) else none) else none) else none) else (spec_l02Names.l0 k a0 x_3 x_4 (IntKind.wrap .i64 (x_5 + 1)))) else none) else none) else (if 0 ≤ x_4 then (if x_4 ≤ (a0.size : Int) then (if (a0.size : Int) ≤ (a0.size : Int) then (if (((x_3.length : Int) + ([(a0.extract (Int.toNat x_4) (Int.toNat (a0.size : Int)))].length : Int)) * 16) ≤ 140737488351232 then (some (x_3 ++ [(a0.extract (Int.toNat x_4) (Int.toNat (a0.size : Int)))])) else none) else none) else none) else none))
def spec_l02Names.f (k : Nat) (a0 : ByteArray) : Option (List ByteArray) := (spec_l02Names.l0 k a0 ([] : List ByteArray) 0 0)
theorem spec_l02Names.le (O : Prim) (hO : O = std) (k : Nat) (a0 : ByteArray) : Le F O M fi101.kills spec_l02Names.e (spec_l02Names.f k a0) (den O M fi101.kills fi101.fn fi101.body (tab.gives 101) (M 101) [.one (.lit (.string a0))] : Tr tab) := by
  refine Le.eqS 0 (by conv => lhs; cbv) ?_
  unfold spec_l02Names.f
  refine Le.loopS (fun (n : Nat) (v : List ByteArray × Int × Int) => spec_l02Names.l0 n a0 v.1 v.2.1 v.2.2) (fun (v : List ByteArray × Int × Int) => match v with | (x_3, x_4, x_5) => (⟨[], [.one (.lit (.string a0)), D_, D_, .one (.own 9 x_3), .one (.lit (.int .i64 x_4)), .one (.lit (.int .i64 x_5)), D_, D_, D_, D_, D_, D_, D_, D_, D_, D_, D_, D_, D_, D_, D_, D_, D_, D_, D_, D_, D_, D_, D_, D_, D_, D_], [[], [], [], [], [], [], [], [], [], [], [], [], [], [], [], [], [], [], [], [], [], [], [], [], [], [], [], [], [], [], [], [], []], []⟩ : S tab)) k (([] : List ByteArray), 0, 0) (by subst hO; rfl) rfl (fun _ => rfl) ?_
  intro n0 hn0 ih0 v0
  obtain ⟨x_3, x_4, x_5⟩ := v0
  refine Le.eqS 0 (by conv => lhs; cbv) ?_
  show Le F O M _ _ (spec_l02Names.l0 (n0 + 1) a0 x_3 x_4 x_5) _
  rw [spec_l02Names.l0]
  refine Le.condP 0 0 (by subst hO; rfl) (by conv => lhs; cbv) (by conv => lhs; cbv) ?_ ?_
  · refine Le.guardP 0 (by subst hO; rfl) (by conv => lhs; cbv) ?_
    refine Le.guardP 0 (by subst hO; rfl) (by conv => lhs; cbv) ?_
    refine Le.condP 0 0 (by subst hO; rfl) (by conv => lhs; cbv) (by conv => lhs; cbv) ?_ ?_
    · refine Le.guardP 0 (by subst hO; rfl) (by conv => lhs; cbv) ?_
      refine Le.guardP 0 (by subst hO; rfl) (by conv => lhs; cbv) ?_
      refine Le.guardP 0 (by subst hO; rfl) (by conv => lhs; cbv) ?_
      refine Le.guardP 0 (by subst hO; rfl) (by conv => lhs; cbv) ?_
      exact Le.again (ih0 n0 (by omega) ((O.app x_3 [(O.sext a0 x_4 x_5)]), (O.wrap .i64 (O.add x_5 1)), (O.wrap .i64 (O.add x_5 1)))) (by subst hO; rfl) rfl
    · exact Le.again (ih0 n0 (by omega) (x_3, x_4, (O.wrap .i64 (O.add x_5 1)))) (by subst hO; rfl) rfl
  · refine Le.guardP 0 (by subst hO; rfl) (by conv => lhs; cbv) ?_
    refine Le.guardP 0 (by subst hO; rfl) (by conv => lhs; cbv) ?_
    refine Le.guardP 0 (by subst hO; rfl) (by conv => lhs; cbv) ?_
    refine Le.guardP 0 (by subst hO; rfl) (by conv => lhs; cbv) ?_
    exact Le.ret2 (by subst hO; rfl)
/-! ### loop.example/g00100/spec.l01In -/
def spec_l01In.e (r : Bool) : Res tab := (([], []), .one (.lit (.bool r)))
def spec_l01In.f (a0 : Int) (a1 : Int) (a2 : Int) : Option Bool := (if a1 ≤ a0 then (some (decide (a0 ≤ a2))) else (some false))
theorem spec_l01In.le (O : Prim) (hO : O = std) (a0 : Int) (a1 : Int) (a2 : Int) : Le F O M fi67.kills spec_l01In.e (spec_l01In.f a0 a1 a2) (den O M fi67.kills fi67.fn fi67.body (tab.gives 67) (M 67) [.one (.lit (.int .i64 a0)), .one (.lit (.int .i64 a1)), .one (.lit (.int .i64 a2))] : Tr tab) := by
  refine Le.eqS 0 (by conv => lhs; cbv) ?_
  unfold spec_l01In.f
  refine Le.condP 3 3 (by subst hO; rfl) (by conv => lhs; cbv) (by conv => lhs; cbv) ?_ ?_
  · exact Le.ret2 (by subst hO; rfl)
  · exact Le.ret2 (by subst hO; rfl)
/-! ### loop.example/g00100/spec.NameOk -/
def spec_NameOk.e (r : Bool) : Res tab := (([], []), .one (.lit (.bool r)))
def spec_NameOk.l0 : Nat → ByteArray → Int → Option Bool
  | 0, _, _ => none
  | k + 1, a0, x_8 => (if x_8 < (a0.size : Int) then (if 0 ≤ x_8 then (if x_8 < (a0.size : Int) then ((spec_l01In.f (IntKind.wrap .i64 (std.sget a0 x_8)) 97 122).bind fun r9 => (if r9 = true then (spec_NameOk.l0 k a0 (IntKind.wrap .i64 (x_8 + 1))) else ((spec_l01In.f (IntKind.wrap .i64 (std.sget a0 x_8)) 65 90).bind fun r10 => (if r10 = true then (spec_NameOk.l0 k a0 (IntKind.wrap .i64 (x_8 + 1))) else ((spec_l01In.f (IntKind.wrap .i64 (std.sget a0 x_8)) 48 57).bind fun r11 => (if r11 = true then (spec_NameOk.l0 k a0 (IntKind.wrap .i64 (x_8 + 1))) else (if 0 ≤ x_8 then (if x_8 < (a0.size : Int) then (if (std.sget a0 x_8) = 46 then (spec_NameOk.l0 k a0 (IntKind.wrap .i64 (x_8 + 1))) else (if 0 ≤ x_8 then (if x_8 < (a0.size : Int) then (if (std.sget a0 x_8) = 95 then (spec_NameOk.l0 k a0 (IntKind.wrap .i64 (x_8 + 1))) else (if 0 ≤ x_8 then (if x_8 < (a0.size : Int) then (if (std.sget a0 x_8) = 45 then (spec_NameOk.l0 k a0 (IntKind.wrap .i64 (x_8 + 1))) else (some false)) else none) else none)) else none) else none)) else none) else none))))))) else none) else none) else (some true))
def spec_NameOk.f (k : Nat) (a0 : ByteArray) : Option Bool := ((spec_l01In.f (a0.size : Int) 1 20).bind fun r0 => (if r0 = true then (if a0 = (⟨#[46]⟩ : ByteArray) then (some false) else (if a0 = (⟨#[46, 46]⟩ : ByteArray) then (some false) else (spec_NameOk.l0 k a0 0))) else (some false)))
theorem spec_NameOk.le (O : Prim) (hO : O = std) (k : Nat) (a0 : ByteArray) : Le F O M fi102.kills spec_NameOk.e (spec_NameOk.f k a0) (den O M fi102.kills fi102.fn fi102.body (tab.gives 102) (M 102) [.one (.lit (.string a0))] : Tr tab) := by
  refine Le.eqS 0 (by conv => lhs; cbv) ?_
  unfold spec_NameOk.f
  refine Le.callC 0 (fi := fi67) rfl (spec_l01In.le O hO (O.ssize a0) 1 20) (by subst hO; rfl) (by intro r0; conv => lhs; cbv) ?_
  intro r0
  refine Le.condN 6 2 (by subst hO; exact Bool.decide_eq_true.trans (Bool.not_not _).symm) (by conv => lhs; cbv) (by conv => lhs; cbv) ?_ ?_
  · exact Le.ret2 (by subst hO; rfl)
  · refine Le.condP 3 2 (by subst hO; exact seq_dec _ _) (by conv => lhs; cbv) (by conv => lhs; cbv) ?_ ?_
    · exact Le.ret2 (by subst hO; rfl)
    · refine Le.condP 0 0 (by subst hO; exact seq_dec _ _) (by conv => lhs; cbv) (by conv => lhs; cbv) ?_ ?_
      · exact Le.ret2 (by subst hO; rfl)
      · refine Le.loopS (fun (n : Nat) (v : Int) => spec_NameOk.l0 n a0 v) (fun (x_8 : Int) => (⟨[], [.one (.lit (.string a0)), D_, D_, .one (.lit (.int .i64 x_8)), D_, D_, D_, D_, D_, D_, D_, D_, D_, D_, D_, D_, D_, D_, D_, D_, D_, D_, D_, D_, D_, D_, D_, D_, D_, D_, D_, D_, D_, D_, D_, D_, D_, D_, D_, D_, D_, D_, D_, D_, D_, D_, D_, D_, D_, D_, D_, D_, D_, D_, D_, D_, D_, D_], [[], [], [], [], [], [], [], [], [], [], [], [], [], [], [], [], [], [], [], [], [], [], [], [], [], [], [], [], [], [], [], [], [], [], [], [], [], [], [], [], [], [], [], [], [], [], [], [], [], [], [], [], [], [], [], [], [], [], []], []⟩ : S tab)) k 0 (by subst hO; rfl) rfl (fun _ => rfl) ?_
        intro n0 hn0 ih0 x_8
        refine Le.eqS 0 (by conv => lhs; cbv) ?_
        show Le F O M _ _ (spec_NameOk.l0 (n0 + 1) a0 x_8) _
        rw [spec_NameOk.l0]
        refine Le.condP 0 0 (by subst hO; rfl) (by conv => lhs; cbv) (by conv => lhs; cbv) ?_ ?_
        · refine Le.guardP 0 (by subst hO; rfl) (by conv => lhs; cbv) ?_
          refine Le.guardP 0 (by subst hO; rfl) (by conv => lhs; cbv) ?_
          refine Le.callC 0 (fi := fi67) rfl (spec_l01In.le O hO (O.wrap .i64 (O.sget a0 x_8)) 97 122) (by subst hO; rfl) (by intro r9; conv => lhs; cbv) ?_
          intro r9
          refine Le.condN 1 23 (by subst hO; exact Bool.decide_eq_true.trans (Bool.not_not _).symm) (by conv => lhs; cbv) (by conv => lhs; cbv) ?_ ?_
          · refine Le.callC 2 (fi := fi67) rfl (spec_l01In.le O hO (O.wrap .i64 (O.sget a0 x_8)) 65 90) (by subst hO; rfl) (by intro r10; conv => lhs; cbv) ?_
            intro r10
            refine Le.condN 1 19 (by subst hO; exact Bool.decide_eq_true.trans (Bool.not_not _).symm) (by conv => lhs; cbv) (by conv => lhs; cbv) ?_ ?_
            · refine Le.callC 2 (fi := fi67) rfl (spec_l01In.le O hO (O.wrap .i64 (O.sget a0 x_8)) 48 57) (by subst hO; rfl) (by intro r11; conv => lhs; cbv) ?_
              intro r11
              refine Le.condN 2 15 (by subst hO; exact Bool.decide_eq_true.trans (Bool.not_not _).symm) (by conv => lhs; cbv) (by conv => lhs; cbv) ?_ ?_
              · refine Le.guardP 0 (by subst hO; rfl) (by conv => lhs; cbv) ?_
                refine Le.guardP 2 (by subst hO; rfl) (by conv => lhs; cbv) ?_
                refine Le.condN 2 10 (by subst hO; exact (Bool.not_not _).symm) (by conv => lhs; cbv) (by conv => lhs; cbv) ?_ ?_
                · refine Le.guardP 0 (by subst hO; rfl) (by conv => lhs; cbv) ?_
                  refine Le.guardP 2 (by subst hO; rfl) (by conv => lhs; cbv) ?_
                  refine Le.condN 2 5 (by subst hO; exact (Bool.not_not _).symm) (by conv => lhs; cbv) (by conv => lhs; cbv) ?_ ?_
                  · refine Le.guardP 0 (by subst hO; rfl) (by conv => lhs; cbv) ?_
                    refine Le.guardP 2 (by subst hO; rfl) (by conv => lhs; cbv) ?_
                    refine Le.condN 0 0 (by subst hO; exact (Bool.not_not _).symm) (by conv => lhs; cbv) (by conv => lhs; cbv) ?_ ?_
                    · exact Le.ret2 (by subst hO; rfl)
                    · exact Le.again (ih0 n0 (by omega) (O.wrap .i64 (O.add x_8 1))) (by subst hO; rfl) rfl
                  · exact Le.again (ih0 n0 (by omega) (O.wrap .i64 (O.add x_8 1))) (by subst hO; rfl) rfl
                · exact Le.again (ih0 n0 (by omega) (O.wrap .i64 (O.add x_8 1))) (by subst hO; rfl) rfl
              · exact Le.again (ih0 n0 (by omega) (O.wrap .i64 (O.add x_8 1))) (by subst hO; rfl) rfl
            · exact Le.again (ih0 n0 (by omega) (O.wrap .i64 (O.add x_8 1))) (by subst hO; rfl) rfl
          · exact Le.again (ih0 n0 (by omega) (O.wrap .i64 (O.add x_8 1))) (by subst hO; rfl) rfl
        · exact Le.ret2 (by subst hO; rfl)
/-! ### loop.example/g00100/spec.PathOk -/
def spec_PathOk.e (r : Bool) : Res tab := (([], []), .one (.lit (.bool r)))
def spec_PathOk.l0 : Nat → (List ByteArray) → Int → Option Bool
  | 0, _, _ => none
  | k + 1, r0, x_4 => (if x_4 < (r0.length : Int) then (if 0 ≤ x_4 then (if x_4 < (r0.length : Int) then ((spec_NameOk.f k (r0.getD (Int.toNat x_4) (⟨#[]⟩ : ByteArray))).bind fun r5 => (if r5 = true then (spec_PathOk.l0 k r0 (IntKind.wrap .i64 (x_4 + 1))) else (some false))) else none) else none) else (some (decide ((r0.length : Int) ≤ 8))))
def spec_PathOk.f (k : Nat) (a0 : ByteArray) : Option Bool := (if 200 < (a0.size : Int) then (some false) else ((spec_l02Names.f k a0).bind fun r0 => (spec_PathOk.l0 k r0 0)))
theorem spec_PathOk.le (O : Prim) (hO : O = std) (k : Nat) (a0 : ByteArray) : Le F O M fi66.kills spec_PathOk.e (spec_PathOk.f k a0) (den O M fi66.kills fi66.fn fi66.body (tab.gives 66) (M 66) [.one (.lit (.string a0))] : Tr tab) := by
  refine Le.eqS 0 (by conv => lhs; cbv) ?_
  unfold spec_PathOk.f
  refine Le.condP 0 0 (by subst hO; rfl) (by conv => lhs; cbv) (by conv => lhs; cbv) ?_ ?_
  · exact Le.ret2 (by subst hO; rfl)
  · refine Le.callC 0 (fi := fi101) rfl (spec_l02Names.le O hO k a0) (by subst hO; rfl) (by intro r0; conv => lhs; cbv) ?_
    intro r0
    refine Le.loopS (fun (n : Nat) (v : Int) => spec_PathOk.l0 n r0 v) (fun (x_4 : Int) => (⟨[], [D_, D_, D_, .one (.own 9 r0), .one (.lit (.int .i64 x_4)), D_, D_, D_, D_, D_, D_, D_, D_, D_, D_, D_, D_, D_, D_, D_, D_, D_, D_, D_, D_], [[], [], [], [], [], [], [], [], [], [], [], [], [], [], [], [], [], [], [], [], [], [], [], [], [], []], []⟩ : S tab)) k 0 (by subst hO; rfl) rfl (fun _ => rfl) ?_
    intro n0 hn0 ih0 x_4
    refine Le.eqS 0 (by conv => lhs; cbv) ?_
    show Le F O M _ _ (spec_PathOk.l0 (n0 + 1) r0 x_4) _
    rw [spec_PathOk.l0]
    refine Le.condP 0 0 (by subst hO; rfl) (by conv => lhs; cbv) (by conv => lhs; cbv) ?_ ?_
    · refine Le.guardP 0 (by subst hO; rfl) (by conv => lhs; cbv) ?_
      refine Le.guardP 0 (by subst hO; rfl) (by conv => lhs; cbv) ?_
      refine Le.callC 0 (fi := fi102) rfl (spec_NameOk.le O hO n0 (O.get (⟨#[]⟩ : ByteArray) r0 x_4)) (by subst hO; rfl) (by intro r5; conv => lhs; cbv) ?_
      intro r5
      refine Le.condN 0 0 (by subst hO; exact Bool.decide_eq_true.trans (Bool.not_not _).symm) (by conv => lhs; cbv) (by conv => lhs; cbv) ?_ ?_
      · exact Le.ret2 (by subst hO; rfl)
      · exact Le.again (ih0 n0 (by omega) (O.wrap .i64 (O.add x_4 1))) (by subst hO; rfl) rfl
    · exact Le.ret2 (by subst hO; rfl)
/-! ### loop.example/g00100/spec.JoinPath -/
def spec_JoinPath.e (r : ByteArray) : Res tab := (([], []), .one (.lit (.string r)))
def spec_JoinPath.f (k : Nat) (a0 : ByteArray) (a1 : ByteArray) : Option ByteArray := (if a0 = (⟨#[]⟩ : ByteArray) then (if a0 = (⟨#[]⟩ : ByteArray) then ((spec_NameOk.f k a1).bind fun r8 => (if r8 = true then ((spec_PathOk.f k a1).bind fun r9 => (if r9 = true then (some a1) else (some (⟨#[]⟩ : ByteArray)))) else (some (⟨#[]⟩ : ByteArray)))) else ((spec_PathOk.f k a0).bind fun r5 => (if r5 = true then ((spec_NameOk.f k a1).bind fun r6 => (if r6 = true then ((spec_PathOk.f k a1).bind fun r7 => (if r7 = true then (some a1) else (some (⟨#[]⟩ : ByteArray)))) else (some (⟨#[]⟩ : ByteArray)))) else (some (⟨#[]⟩ : ByteArray))))) else (if ((a0.size : Int) + ((⟨#[47]⟩ : ByteArray).size : Int)) ≤ 140737488351232 then (if (((a0 ++ (⟨#[47]⟩ : ByteArray)).size : Int) + (a1.size : Int)) ≤ 140737488351232 then (if a0 = (⟨#[]⟩ : ByteArray) then ((spec_NameOk.f k a1).bind fun r3 => (if r3 = true then ((spec_PathOk.f k ((a0 ++ (⟨#[47]⟩ : ByteArray)) ++ a1)).bind fun r4 => (if r4 = true then (some ((a0 ++ (⟨#[47]⟩ : ByteArray)) ++ a1)) else (some (⟨#[]⟩ : ByteArray)))) else (some (⟨#[]⟩ : ByteArray)))) else ((spec_PathOk.f k a0).bind fun r0 => (if r0 = true then ((spec_NameOk.f k a1).bind fun r1 => (if r1 = true then ((spec_PathOk.f k ((a0 ++ (⟨#[47]⟩ : ByteArray)) ++ a1)).bind fun r2 => (if r2 = true then (some ((a0 ++ (⟨#[47]⟩ : ByteArray)) ++ a1)) else (some (⟨#[]⟩ : ByteArray)))) else (some (⟨#[]⟩ : ByteArray)))) else (some (⟨#[]⟩ : ByteArray))))) else none) else none))
theorem spec_JoinPath.le (O : Prim) (hO : O = std) (k : Nat) (a0 : ByteArray) (a1 : ByteArray) : Le F O M fi85.kills spec_JoinPath.e (spec_JoinPath.f k a0 a1) (den O M fi85.kills fi85.fn fi85.body (tab.gives 85) (M 85) [.one (.lit (.string a0)), .one (.lit (.string a1))] : Tr tab) := by
  refine Le.eqS 0 (by conv => lhs; cbv) ?_
  unfold spec_JoinPath.f
  refine Le.condN 0 0 (by subst hO; exact (seq_dec _ _).trans (Bool.not_not _).symm) (by conv => lhs; cbv) (by conv => lhs; cbv) ?_ ?_
  · refine Le.guardP 0 (by subst hO; rfl) (by conv => lhs; cbv) ?_
    refine Le.guardP 0 (by subst hO; rfl) (by conv => lhs; cbv) ?_
    refine Le.condN 1 5 (by subst hO; exact (seq_dec _ _).trans (Bool.not_not _).symm) (by conv => lhs; cbv) (by conv => lhs; cbv) ?_ ?_
    · refine Le.callC 2 (fi := fi66) rfl (spec_PathOk.le O hO k a0) (by subst hO; rfl) (by intro r0; conv => lhs; cbv) ?_
      intro r0
      refine Le.condN 8 1 (by subst hO; exact Bool.decide_eq_true.trans (Bool.not_not _).symm) (by conv => lhs; cbv) (by conv => lhs; cbv) ?_ ?_
      · exact Le.ret2 (by subst hO; rfl)
      · refine Le.callC 2 (fi := fi102) rfl (spec_NameOk.le O hO k a1) (by subst hO; rfl) (by intro r1; conv => lhs; cbv) ?_
        intro r1
        refine Le.condN 4 1 (by subst hO; exact Bool.decide_eq_true.trans (Bool.not_not _).symm) (by conv => lhs; cbv) (by conv => lhs; cbv) ?_ ?_
        · exact Le.ret2 (by subst hO; rfl)
        · refine Le.callC 2 (fi := fi66) rfl (spec_PathOk.le O hO k (O.scat (O.scat a0 (⟨#[47]⟩ : ByteArray)) a1)) (by subst hO; rfl) (by intro r2; conv => lhs; cbv) ?_
          intro r2
          refine Le.condN 0 0 (by subst hO; exact Bool.decide_eq_true.trans (Bool.not_not _).symm) (by conv => lhs; cbv) (by conv => lhs; cbv) ?_ ?_
          · exact Le.ret2 (by subst hO; rfl)
          · exact Le.ret2 (by subst hO; rfl)
    · refine Le.callC 2 (fi := fi102) rfl (spec_NameOk.le O hO k a1) (by subst hO; rfl) (by intro r3; conv => lhs; cbv) ?_
      intro r3
      refine Le.condN 4 1 (by subst hO; exact Bool.decide_eq_true.trans (Bool.not_not _).symm) (by conv => lhs; cbv) (by conv => lhs; cbv) ?_ ?_
      · exact Le.ret2 (by subst hO; rfl)
      · refine Le.callC 2 (fi := fi66) rfl (spec_PathOk.le O hO k (O.scat (O.scat a0 (⟨#[47]⟩ : ByteArray)) a1)) (by subst hO; rfl) (by intro r4; conv => lhs; cbv) ?_
        intro r4
        refine Le.condN 0 0 (by subst hO; exact Bool.decide_eq_true.trans (Bool.not_not _).symm) (by conv => lhs; cbv) (by conv => lhs; cbv) ?_ ?_
        · exact Le.ret2 (by subst hO; rfl)
        · exact Le.ret2 (by subst hO; rfl)
  · refine Le.condN 1 5 (by subst hO; exact (seq_dec _ _).trans (Bool.not_not _).symm) (by conv => lhs; cbv) (by conv => lhs; cbv) ?_ ?_
    · refine Le.callC 2 (fi := fi66) rfl (spec_PathOk.le O hO k a0) (by subst hO; rfl) (by intro r5; conv => lhs; cbv) ?_
      intro r5
      refine Le.condN 8 1 (by subst hO; exact Bool.decide_eq_true.trans (Bool.not_not _).symm) (by conv => lhs; cbv) (by conv => lhs; cbv) ?_ ?_
      · exact Le.ret2 (by subst hO; rfl)
      · refine Le.callC 2 (fi := fi102) rfl (spec_NameOk.le O hO k a1) (by subst hO; rfl) (by intro r6; conv => lhs; cbv) ?_
        intro r6
        refine Le.condN 4 1 (by subst hO; exact Bool.decide_eq_true.trans (Bool.not_not _).symm) (by conv => lhs; cbv) (by conv => lhs; cbv) ?_ ?_
        · exact Le.ret2 (by subst hO; rfl)
        · refine Le.callC 2 (fi := fi66) rfl (spec_PathOk.le O hO k a1) (by subst hO; rfl) (by intro r7; conv => lhs; cbv) ?_
          intro r7
          refine Le.condN 0 0 (by subst hO; exact Bool.decide_eq_true.trans (Bool.not_not _).symm) (by conv => lhs; cbv) (by conv => lhs; cbv) ?_ ?_
          · exact Le.ret2 (by subst hO; rfl)
          · exact Le.ret2 (by subst hO; rfl)
    · refine Le.callC 2 (fi := fi102) rfl (spec_NameOk.le O hO k a1) (by subst hO; rfl) (by intro r8; conv => lhs; cbv) ?_
      intro r8
      refine Le.condN 4 1 (by subst hO; exact Bool.decide_eq_true.trans (Bool.not_not _).symm) (by conv => lhs; cbv) (by conv => lhs; cbv) ?_ ?_
      · exact Le.ret2 (by subst hO; rfl)
      · refine Le.callC 2 (fi := fi66) rfl (spec_PathOk.le O hO k a1) (by subst hO; rfl) (by intro r9; conv => lhs; cbv) ?_
        intro r9
        refine Le.condN 0 0 (by subst hO; exact Bool.decide_eq_true.trans (Bool.not_not _).symm) (by conv => lhs; cbv) (by conv => lhs; cbv) ?_ ?_
        · exact Le.ret2 (by subst hO; rfl)
        · exact Le.ret2 (by subst hO; rfl)
/-! ### loop.example/g00100/spec.l10At -/
def spec_l10At.e (r : Int) : Res tab := (([], []), .one (.lit (.int .i64 r)))
def spec_l10At.l0 : Nat → (List GNode) → ByteArray → Int → Option Int
  | 0, _, _, _ => none
  | k + 1, a0, a1, x_1 => (if x_1 < (a0.length : Int) then (if 0 ≤ x_1 then (if x_1 < (a0.length : Int) then (if (a0.getD (Int.toNat x_1) (⟨(⟨#[]⟩ : ByteArray), 0, 0, 0, (⟨#[]⟩ : ByteArray), (⟨#[]⟩ : ByteArray), 0⟩ : GNode)).Path = a1 then (some x_1) else (spec_l10At.l0 k a0 a1 (IntKind.wrap .i64 (x_1 + 1)))) else none) else none) else (some (-1)))
def spec_l10At.f (k : Nat) (a0 : List GNode) (a1 : ByteArray) : Option Int := (spec_l10At.l0 k a0 a1 0)
theorem spec_l10At.le (O : Prim) (hO : O = std) (k : Nat) (a0 : List GNode) (a1 : ByteArray) : Le F O M fi87.kills spec_l10At.e (spec_l10At.f k a0 a1) (den O M fi87.kills fi87.fn fi87.body (tab.gives 87) (M 87) [.one (.imm 26 a0), .one (.lit (.string a1))] : Tr tab) := by
  refine Le.eqS 0 (by conv => lhs; cbv) ?_
  unfold spec_l10At.f
  refine Le.loopS (fun (n : Nat) (v : Int) => spec_l10At.l0 n a0 a1 v) (fun (x_1 : Int) => (⟨[], [.one (.imm 26 a0), .one (.lit (.string a1)), D_, D_, D_, .one (.lit (.int .i64 x_1)), D_, D_, D_, D_, D_, D_, D_, D_, D_, D_, D_, D_, D_, D_], [[], [], [], [], [], [], [], [], [], [], [], [], [], [], [], [], [], [], [], [], [], []], []⟩ : S tab)) k 0 (by subst hO; rfl) rfl (fun _ => rfl) ?_
  intro n0 hn0 ih0 x_1
  refine Le.eqS 0 (by conv => lhs; cbv) ?_
  show Le F O M _ _ (spec_l10At.l0 (n0 + 1) a0 a1 x_1) _
  rw [spec_l10At.l0]
  refine Le.condP 0 0 (by subst hO; rfl) (by conv => lhs; cbv) (by conv => lhs; cbv) ?_ ?_
  · refine Le.guardP 0 (by subst hO; rfl) (by conv => lhs; cbv) ?_
    refine Le.guardP 0 (by subst hO; rfl) (by conv => lhs; cbv) ?_
    refine Le.condP 0 0 (by subst hO; exact seq_dec _ _) (by conv => lhs; cbv) (by conv => lhs; cbv) ?_ ?_
    · exact Le.ret2 (by subst hO; rfl)
    · exact Le.again (ih0 n0 (by omega) (O.wrap .i64 (O.add x_1 1))) (by subst hO; rfl) rfl
  · exact Le.ret2 (by subst hO; rfl)
/-! ### loop.example/g00100/spec.l01PickInt -/
def spec_l01PickInt_i.e (r : Int × GL01Cur) : Res tab := (([], [[.imm 5 r.2.B, .lit (.int .i64 r.2.I), .lit (.int .i64 r.2.H)]]), .one (.lit (.int .i64 r.1)))
def spec_l01PickInt_i.f (a0 : GL01Cur) (a1 : List Int) : Option (Int × GL01Cur) := ((spec_l01Below_i.f a0 (a1.length : Int)).bind fun r0 => (if 0 ≤ r0.1 then (if r0.1 < (a1.length : Int) then (some ((a1.getD (Int.toNat r0.1) 0), r0.2)) else none) else none))
theorem spec_l01PickInt_i.le (O : Prim) (hO : O = std) (a0 : GL01Cur) (a1 : List Int) : Le F O M fi112.kills spec_l01PickInt_i.e (spec_l01PickInt_i.f a0 a1) (den O M fi112.kills fi112.fn fi112.body (tab.gives 112) (M 112) [.agg [.imm 5 a0.B, .lit (.int .i64 a0.I), .lit (.int .i64 a0.H)], .one (.imm 3 a1)] : Tr tab) := by
  refine Le.eqS 0 (by conv => lhs; cbv) ?_
  unfold spec_l01PickInt_i.f
  refine Le.callC 0 (fi := fi84) rfl (spec_l01Below_i.le O hO a0 (O.len a1)) (by subst hO; rfl) (by intro r0; conv => lhs; cbv) ?_
  intro r0
  refine Le.guardP 0 (by subst hO; rfl) (by conv => lhs; cbv) ?_
  refine Le.guardP 0 (by subst hO; rfl) (by conv => lhs; cbv) ?_
  exact Le.ret2 (by subst hO; rfl)
/-! ### loop.example/g00100/spec.l01Text -/
def spec_l01Text_i.e (r : ByteArray × GL01Cur) : Res tab := (([], [[.imm 5 r.2.B, .lit (.int .i64 r.2.I), .lit (.int .i64 r.2.H)]]), .one (.lit (.string r.1)))
mutual
def spec_l01Text_i.l3 : Nat → Int → (Int × GL01Cur) → (Int × GL01Cur) → (List Int) → Int → Option (ByteArray × GL01Cur)
  | 0, _, _, _, _, _ => none
  | k + 1, a1, r40, r41, x_44, x_45 => (if x_45 < r40.1 then (if (((x_44.length : Int) + ([(IntKind.wrap .u8 (IntKind.wrap .i64 (97 + r41.1)))].length : Int)) * 1) ≤ 140737488351232 then (spec_l01Text_i.l3 k a1 r40 r41 (x_44 ++ [(IntKind.wrap .u8 (IntKind.wrap .i64 (97 + r41.1)))]) (IntKind.wrap .i64 (x_45 + 1))) else none) else (spec_l01Text_i.l0 k a1 x_44 r41.2.B r41.2.I r41.2.H))
def spec_l01Text_i.l5 : Nat → Int → (Int × GL01Cur) → (Int × GL01Cur) → (List Int) → Int → Option (ByteArray × GL01Cur)
  | 0, _, _, _, _, _ => none
  | k + 1, a1, r46, r47, x_50, x_51 => (if x_51 < r47.1 then (if (IntKind.wrap .i64 (r46.1 + x_51)) < (x_50.length : Int) then (if 0 ≤ (IntKind.wrap .i64 (r46.1 + x_51)) then (if (IntKind.wrap .i64 (r46.1 + x_51)) < (x_50.length : Int) then (if (((x_50.length : Int) + ([(x_50.getD (Int.toNat (IntKind.wrap .i64 (r46.1 + x_51))) 0)].length : Int)) * 1) ≤ 140737488351232 then (spec_l01Text_i.l5 k a1 r46 r47 (x_50 ++ [(x_50.getD (Int.toNat (IntKind.wrap .i64 (r46.1 + x_51))) 0)]) (IntKind.wrap .i64 (x_51 + 1))) else none) else none) else none) else (spec_l01Text_i.l0 k a1 x_50 r47.2.B r47.2.I r47.2.H)) else (spec_l01Text_i.l0 k a1 x_50 r47.2.B r47.2.I r47.2.H))
def spec_l01Text_i.l0 : Nat → Int → (List Int) → (List Int) → Int → Int → Option (ByteArray × GL01Cur)
  | 0, _, _, _, _, _ => none
  | k + 1, a1, x_34, b_35, b_36, b_37 => (if (x_34.length : Int) < a1 then ((spec_l01Below_i.f (⟨b_35, b_36, b_37⟩ : GL01Cur) 5).bind fun r38 => (if r38.1 = 0 then ((spec_l01Byte_i.f r38.2).bind fun r39 => (if (((x_34.length : Int) + ([(IntKind.wrap .u8 r39.1)].length : Int)) * 1) ≤ 140737488351232 then (spec_l01Text_i.l0 k a1 (x_34 ++ [(IntKind.wrap .u8 r39.1)]) r39.2.B r39.2.I r39.2.H) else none)) else (if r38.1 = 1 then ((spec_l01Below_i.f r38.2 9).bind fun r40 => ((spec_l01Below_i.f r40.2 4).bind fun r41 => (spec_l01Text_i.l3 k a1 r40 r41 x_34 0))) else (if r38.1 = 2 then (if 0 < (x_34.length : Int) then ((spec_l01Below_i.f r38.2 (x_34.length : Int)).bind fun r46 => ((spec_l01Below_i.f r46.2 20).bind fun r47 => (spec_l01Text_i.l5 k a1 r46 r47 x_34 0))) else (spec_l01Text_i.l0 k a1 x_34 r38.2.B r38.2.I r38.2.H)) else ((spec_l01Below_i.f r38.2 26).bind fun r52 => (if (((x_34.length : Int) + ([(IntKind.wrap .u8 (IntKind.wrap .i64 (97 + r52.1)))].length : Int)) * 1) ≤ 140737488351232 then (spec_l01Text_i.l0 k a1 (x_34 ++ [(IntKind.wrap .u8 (IntKind.wrap .i64 (97 + r52.1)))]) r52.2.B r52.2.I r52.2.H) else none)))))) else (if 0 ≤ 0 then (if 0 ≤ a1 then (if a1 ≤ (x_34.length : Int) then (some ((std.strOf (std.ext x_34 0 a1)), (⟨b_35, b_36, b_37⟩ : GL01Cur))) else none) else none) else none))
end
def spec_l01Text_i.f (k : Nat) (a0 : GL01Cur) (a1 : Int) : Option (ByteArray × GL01Cur) := (spec_l01Text_i.l0 k a1 ([] : List Int) a0.B a0.I a0.H)
theorem spec_l01Text_i.le (O : Prim) (hO : O = std) (k : Nat) (a0 : GL01Cur) (a1 : Int) : Le F O M fi113.kills spec_l01Text_i.e (spec_l01Text_i.f k a0 a1) (den O M fi113.kills fi113.fn fi113.body (tab.gives 113) (M 113) [.agg [.imm 5 a0.B, .lit (.int .i64 a0.I), .lit (.int .i64 a0.H)], .one (.lit (.int .i64 a1))] : Tr tab) := by
  refine Le.eqS 0 (by conv => lhs; cbv) ?_
  unfold spec_l01Text_i.f
  refine Le.loopS (fun (n : Nat) (v : List Int × List Int × Int × Int) => spec_l01Text_i.l0 n a1 v.1 v.2.1 v.2.2.1 v.2.2.2) (fun (v : List Int × List Int × Int × Int) => match v with | (x_34, b_35, b_36, b_37) => (⟨[], [.one (.ptr ⟨179, 0, []⟩), .one (.lit (.int .i64 a1)), D_, D_, D_, .one (.own 5 x_34), D_, D_, D_, D_, D_, D_, D_, D_, D_, D_, D_, D_, D_, D_, D_, D_, D_, D_, D_, D_, D_, D_, D_, D_, D_, D_, D_, D_, D_, D_, D_, D_, D_, D_, D_, D_, D_, D_, D_, D_, D_, D_, D_, D_, D_, D_, D_, D_, D_, D_, D_, D_, D_, D_, D_, D_, D_, D_, D_, D_, D_, D_, D_, D_, D_, D_, D_, D_, D_, D_, D_, D_, D_, D_, D_, D_, D_, D_, D_, D_, D_, D_], [[], [], [], [], [], [], [], [], [], [], [], [], [], [], [], [], [], [], [], [], [], [], [], [], [], [], [], [], [], [], [], [], [], [], [], [], [], [], [], [], [], [], [], [], [], [], [], [], [], [], [], [], [], [], [], [], [], [], [], [], [], [], [], [], [], [], [], [], [], [], [], [], [], [], [], [], [], [], [], [], [], [], [], [], [], [], [], [], [.imm 5 b_35, .lit (.int .i64 b_36), .lit (.int .i64 b_37)], []], []⟩ : S tab)) k (([] : List Int), a0.B, a0.I, a0.H) (by subst hO; rfl) rfl (fun _ => rfl) ?_
  intro n0 hn0 ih0 v0
  obtain ⟨x_34, b_35, b_36, b_37⟩ := v0
  refine Le.eqS 0 (by conv => lhs; cbv) ?_
  show Le F O M _ _ (spec_l01Text_i.l0 (n0 + 1) a1 x_34 b_35 b_36 b_37) _
  rw [spec_l01Text_i.l0]
  refine Le.condP 0 0 (by subst hO; rfl) (by conv => lhs; cbv) (by conv => lhs; cbv) ?_ ?_
  · refine Le.callC 0 (fi := fi84) rfl (spec_l01Below_i.le O hO (⟨b_35, b_36, b_37⟩ : GL01Cur) 5) (by subst hO; rfl) (by intro r38; conv => lhs; cbv) ?_
    intro r38
    refine Le.condP 0 0 (by subst hO; rfl) (by conv => lhs; cbv) (by conv => lhs; cbv) ?_ ?_
    · refine Le.callC 0 (fi := fi110) rfl (spec_l01Byte_i.le O hO r38.2) (by subst hO; rfl) (by intro r39; conv => lhs; cbv) ?_
      intro r39
      refine Le.guardP 0 (by subst hO; rfl) (by conv => lhs; cbv) ?_
      exact Le.again (ih0 n0 (by omega) ((O.app x_34 [(O.wrap .u8 r39.1)]), r39.2.B, r39.2.I, r39.2.H)) (by subst hO; rfl) rfl
    · refine Le.condP 0 0 (by subst hO; rfl) (by conv => lhs; cbv) (by conv => lhs; cbv) ?_ ?_
      · refine Le.callC 0 (fi := fi84) rfl (spec_l01Below_i.le O hO r38.2 9) (by subst hO; rfl) (by intro r40; conv => lhs; cbv) ?_
        intro r40
        refine Le.callC 0 (fi := fi84) rfl (spec_l01Below_i.le O hO r40.2 4) (by subst hO; rfl) (by intro r41; conv => lhs; cbv) ?_
        intro r41
        refine Le.loopS (fun (n : Nat) (v : List Int × Int) => spec_l01Text_i.l3 n a1 r40 r41 v.1 v.2) (fun (v : List Int × Int) => match v with | (x_44, x_45) => (⟨[], [.one (.ptr ⟨179, 0, []⟩), .one (.lit (.int .i64 a1)), D_, D_, D_, .one (.own 5 x_44), .one (.lit (.int .i64 r40.1)), .one (.lit (.int .u8 (O.wrap .u8 (O.wrap .i64 (O.add 97 r41.1))))), .one (.lit (.int .i64 x_45)), D_, D_, D_, D_, D_, D_, D_, D_, D_, D_, D_, D_, D_, D_, D_, D_, D_, D_, D_, D_, D_, D_, D_, D_, D_, D_, D_, D_, D_, D_, D_, D_, D_, D_, D_, D_, D_, D_, D_, D_, D_, D_, D_, D_, D_, D_, D_, D_, D_, D_, D_, D_, D_, D_, D_, D_, D_, D_, D_, D_, D_, D_, D_, D_, D_, D_, D_, D_, D_, D_, D_, D_, D_, D_, D_, D_, D_, D_, D_], [[], [], [], [], [], [], [], [], [], [], [], [], [], [], [], [], [], [], [], [], [], [], [], [], [], [], [], [], [], [], [], [], [], [], [], [], [], [], [], [], [], [], [], [], [], [], [], [], [], [], [], [], [], [], [], [], [], [], [], [], [], [], [], [], [], [], [], [], [], [], [], [], [], [], [], [], [], [], [], [], [], [], [], [], [], [], [], [], [.imm 5 r41.2.B, .lit (.int .i64 r41.2.I), .lit (.int .i64 r41.2.H)], []], []⟩ : S tab)) n0 (x_34, 0) (by subst hO; rfl) rfl (fun _ => rfl) ?_
        intro n3 hn3 ih3 v3
        obtain ⟨x_44, x_45⟩ := v3
        refine Le.eqS 0 (by conv => lhs; cbv) ?_
        show Le F O M _ _ (spec_l01Text_i.l3 (n3 + 1) a1 r40 r41 x_44 x_45) _
        rw [spec_l01Text_i.l3]
        refine Le.condP 0 0 (by subst hO; rfl) (by conv => lhs; cbv) (by conv => lhs; cbv) ?_ ?_
        · refine Le.guardP 0 (by subst hO; rfl) (by conv => lhs; cbv) ?_
          exact Le.again (ih3 n3 (by omega) ((O.app x_44 [(O.wrap .u8 (O.wrap .i64 (O.add 97 r41.1)))]), (O.wrap .i64 (O.add x_45 1)))) (by subst hO; rfl) rfl
        · exact Le.again (ih0 n3 (by omega) (x_44, r41.2.B, r41.2.I, r41.2.H)) (by subst hO; rfl) rfl
      · refine Le.condP 0 0 (by subst hO; rfl) (by conv => lhs; cbv) (by conv => lhs; cbv) ?_ ?_
        · refine Le.condP 0 0 (by subst hO; rfl) (by conv => lhs; cbv) (by conv => lhs; cbv) ?_ ?_
          · refine Le.callC 0 (fi := fi84) rfl (spec_l01Below_i.le O hO r38.2 (O.len x_34)) (by subst hO; rfl) (by intro r46; conv => lhs; cbv) ?_
            intro r46
            refine Le.callC 0 (fi := fi84) rfl (spec_l01Below_i.le O hO r46.2 20) (by subst hO; rfl) (by intro r47; conv => lhs; cbv) ?_
            intro r47
            refine Le.loopS (fun (n : Nat) (v : List Int × Int) => spec_l01Text_i.l5 n a1 r46 r47 v.1 v.2) (fun (v : List Int × Int) => match v with | (x_50, x_51) => (⟨[], [.one (.ptr ⟨179, 0, []⟩), .one (.lit (.int .i64 a1)), D_, D_, D_, .one (.own 5 x_50), D_, D_, D_, .one (.lit (.int .i64 r46.1)), .one (.lit (.int .i64 r47.1)), .one (.lit (.int .i64 x_51)), D_, D_, D_, D_, D_, D_, D_, D_, D_, D_, D_, D_, D_, D_, D_, D_, D_, D_, D_, D_, D_, D_, D_, D_, D_, D_, D_, D_, D_, D_, D_, D_, D_, D_, D_, D_, D_, D_, D_, D_, D_, D_, D_, D_, D_, D_, D_, D_, D_, D_, D_, D_, D_, D_, D_, D_, D_, D_, D_, D_, D_, D_, D_, D_, D_, D_, D_, D_, D_, D_, D_, D_, D_, D_, D_, D_], [[], [], [], [], [], [], [], [], [], [], [], [], [], [], [], [], [], [], [], [], [], [], [], [], [], [], [], [], [], [], [], [], [], [], [], [], [], [], [], [], [], [], [], [], [], [], [], [], [], [], [], [], [], [], [], [], [], [], [], [], [], [], [], [], [], [], [], [], [], [], [], [], [], [], [], [], [], [], [], [], [], [], [], [], [], [], [], [], [.imm 5 r47.2.B, .lit (.int .i64 r47.2.I), .lit (.int .i64 r47.2.H)], []], []⟩ : S tab)) n0 (x_34, 0) (by subst hO; rfl) rfl (fun _ => rfl) ?_
            intro n5 hn5 ih5 v5
            obtain ⟨x_50, x_51⟩ := v5
            refine Le.eqS 0 (by conv => lhs; cbv) ?_
            show Le F O M _ _ (spec_l01Text_i.l5 (n5 + 1) a1 r46 r47 x_50 x_51) _
            rw [spec_l01Text_i.l5]
            refine Le.condP 6 7 (by subst hO; rfl) (by conv => lhs; cbv) (by conv => lhs; cbv) ?_ ?_
            · refine Le.condP 0 0 (by subst hO; rfl) (by conv => lhs; cbv) (by conv => lhs; cbv) ?_ ?_
              · refine Le.guardP 0 (by subst hO; rfl) (by conv => lhs; cbv) ?_
                refine Le.guardP 0 (by subst hO; rfl) (by conv => lhs; cbv) ?_
                refine Le.guardP 0 (by subst hO; rfl) (by conv => lhs; cbv) ?_
                exact Le.again (ih5 n5 (by omega) ((O.app x_50 [(O.get 0 x_50 (O.wrap .i64 (O.add r46.1 x_51)))]), (O.wrap .i64 (O.add x_51 1)))) (by subst hO; rfl) rfl
              · exact Le.again (ih0 n5 (by omega) (x_50, r47.2.B, r47.2.I, r47.2.H)) (by subst hO; rfl) rfl
            · exact Le.again (ih0 n5 (by omega) (x_50, r47.2.B, r47.2.I, r47.2.H)) (by subst hO; rfl) rfl
          · exact Le.again (ih0 n0 (by omega) (x_34, r38.2.B, r38.2.I, r38.2.H)) (by subst hO; rfl) rfl
        · refine Le.callC 0 (fi := fi84) rfl (spec_l01Below_i.le O hO r38.2 26) (by subst hO; rfl) (by intro r52; conv => lhs; cbv) ?_
          intro r52
          refine Le.guardP 0 (by subst hO; rfl) (by conv => lhs; cbv) ?_
          exact Le.again (ih0 n0 (by omega) ((O.app x_34 [(O.wrap .u8 (O.wrap .i64 (O.add 97 r52.1)))]), r52.2.B, r52.2.I, r52.2.H)) (by subst hO; rfl) rfl
  · refine Le.guardP 0 (by subst hO; rfl) (by conv => lhs; cbv) ?_
    refine Le.guardP 0 (by subst hO; rfl) (by conv => lhs; cbv) ?_
    refine Le.guardP 0 (by subst hO; rfl) (by conv => lhs; cbv) ?_
    exact Le.ret2 (by subst hO; rfl)
/-! ### loop.example/g00100/spec.l10Node -/
def spec_l10Node_i.e (r : GNode × GL01Cur) : Res tab := (([], [[.imm 5 r.2.B, .lit (.int .i64 r.2.I), .lit (.int .i64 r.2.H)]]), .agg [.lit (.string r.1.Path), .lit (.int .i64 r.1.Kind), .lit (.int .i64 r.1.Mode), .lit (.int .i64 r.1.Time), .lit (.string r.1.Data), .lit (.string r.1.Target), .lit (.int .i64 r.1.Group)])
def spec_l10Node_i.f (k : Nat) (a0 : GL01Cur) (a1 : ByteArray) : Option (GNode × GL01Cur) := ((spec_l01PickInt_i.f a0 [0, 1, 1, 1, 2]).bind fun r0 => ((spec_l01PickInt_i.f r0.2 [420, 493, 384, 511, 0]).bind fun r1 => ((spec_l01Below_i.f r1.2 6).bind fun r2 => (if r0.1 = 1 then ((spec_l01Below_i.f r2.2 40).bind fun r3 => ((spec_l01Text_i.f k r3.2 r3.1).bind fun r4 => (some ((⟨a1, r0.1, r1.1, (IntKind.wrap .i64 (100 + r2.1)), r4.1, (⟨#[]⟩ : ByteArray), 0⟩ : GNode), r4.2)))) else (if r0.1 = 2 then ((spec_l01Pick_i.f r2.2 [(⟨#[97]⟩ : ByteArray), (⟨#[46, 46, 47, 120]⟩ : ByteArray), (⟨#[100, 111, 99, 115, 47, 121, 46, 116, 120, 116]⟩ : ByteArray), (⟨#[47, 101, 116, 99]⟩ : ByteArray)]).bind fun r5 => (some ((⟨a1, r0.1, 0, (IntKind.wrap .i64 (100 + r2.1)), (⟨#[]⟩ : ByteArray), r5.1, 0⟩ : GNode), r5.2))) else (some ((⟨a1, r0.1, r1.1, (IntKind.wrap .i64 (100 + r2.1)), (⟨#[]⟩ : ByteArray), (⟨#[]⟩ : ByteArray), 0⟩ : GNode), r2.2)))))))
theorem spec_l10Node_i.le (O : Prim) (hO : O = std) (k : Nat) (a0 : GL01Cur) (a1 : ByteArray) : Le F O M fi89.kills spec_l10Node_i.e (spec_l10Node_i.f k a0 a1) (den O M fi89.kills fi89.fn fi89.body (tab.gives 89) (M 89) [.agg [.imm 5 a0.B, .lit (.int .i64 a0.I), .lit (.int .i64 a0.H)], .one (.lit (.string a1))] : Tr tab) := by
  refine Le.eqS 0 (by conv => lhs; cbv) ?_
  unfold spec_l10Node_i.f
  refine Le.callC 0 (fi := fi112) rfl (spec_l01PickInt_i.le O hO a0 [0, 1, 1, 1, 2]) (by subst hO; rfl) (by intro r0; conv => lhs; cbv) ?_
  intro r0
  refine Le.callC 0 (fi := fi112) rfl (spec_l01PickInt_i.le O hO r0.2 [420, 493, 384, 511, 0]) (by subst hO; rfl) (by intro r1; conv => lhs; cbv) ?_
  intro r1
  refine Le.callC 0 (fi := fi84) rfl (spec_l01Below_i.le O hO r1.2 6) (by subst hO; rfl) (by intro r2; conv => lhs; cbv) ?_
  intro r2
  refine Le.condP 0 0 (by subst hO; rfl) (by conv => lhs; cbv) (by conv => lhs; cbv) ?_ ?_
  · refine Le.callC 0 (fi := fi84) rfl (spec_l01Below_i.le O hO r2.2 40) (by subst hO; rfl) (by intro r3; conv => lhs; cbv) ?_
    intro r3
    refine Le.callC 0 (fi := fi113) rfl (spec_l01Text_i.le O hO k r3.2 r3.1) (by subst hO; rfl) (by intro r4; conv => lhs; cbv) ?_
    intro r4
    exact Le.ret2 (by subst hO; rfl)
  · refine Le.condP 0 0 (by subst hO; rfl) (by conv => lhs; cbv) (by conv => lhs; cbv) ?_ ?_
    · refine Le.callC 0 (fi := fi111) rfl (spec_l01Pick_i.le O hO r2.2 [(⟨#[97]⟩ : ByteArray), (⟨#[46, 46, 47, 120]⟩ : ByteArray), (⟨#[100, 111, 99, 115, 47, 121, 46, 116, 120, 116]⟩ : ByteArray), (⟨#[47, 101, 116, 99]⟩ : ByteArray)]) (by subst hO; rfl) (by intro r5; conv => lhs; cbv) ?_
      intro r5
      exact Le.ret2 (by subst hO; rfl)
    · exact Le.ret2 (by subst hO; rfl)
/-! ### loop.example/g00100/spec.l10Put -/
def spec_l10Put.e (r : List GNode) : Res tab := (([], []), .one (.own 26 r))
def spec_l10Put.l0 : Nat → (List GNode) → GNode → (List GNode) → Bool → Int → Option (List GNode)
  | 0, _, _, _, _, _ => none
  | k + 1, a0, a1, x_3, x_4, x_5 => (if x_5 < (a0.length : Int) then (if x_4 = true then (if 0 ≤ x_5 then (if x_5 < (a0.length : Int) then (if (a0.getD (Int.toNat x_5) (⟨(⟨#[]⟩ : ByteArray), 0, 0, 0, (⟨#[]⟩ : ByteArray), (⟨#[]⟩ : ByteArray), 0⟩ : GNode)).Path = a1.Path then (spec_l10Put.l0 k a0 a1 x_3 x_4 (IntKind.wrap .i64 (x_5 + 1))) else (if 0 ≤ x_5 then (if x_5 < (a0.length : Int) then (if (((x_3.length : Int) + ([(a0.getD (Int.toNat x_5) (⟨(⟨#[]⟩ : ByteArray), 0, 0, 0, (⟨#[]⟩ : ByteArray), (⟨#[]⟩ : ByteArray), 0⟩ : GNode))].length : Int)) * 80) ≤ 140737488351232 then (spec_l10Put.l0 k a0 a1 (x_3 ++ [(a0.getD (Int.toNat x_5) (⟨(⟨#[]⟩ : ByteArray), 0, 0, 0, (⟨#[]⟩ : ByteArray), (⟨#[]⟩ : ByteArray), 0⟩ : GNode))]) x_4 (IntKind.wrap .i64 (x_5 + 1))) else none) else none) else none)) else none) else none) else (if 0 ≤ x_5 then (if x_5 < (a0.length : Int) then (if (std.slt (a0.getD (Int.toNat x_5) (⟨(⟨#[]⟩ : ByteArray), 0, 0, 0, (⟨#[]⟩ : ByteArray), (⟨#[]⟩ : ByteArray), 0⟩ : GNode)).Path a1.Path) = true then (if 0 ≤ x_5 then (if x_5 < (a0.length : Int) then (if (a0.getD (Int.toNat x_5) (⟨(⟨#[]⟩ : ByteArray), 0, 0, 0, (⟨#[]⟩ : ByteArray), (⟨#[]⟩ : ByteArray), 0⟩ : GNode)).Path = a1.Path then (spec_l10Put.l0 k a0 a1 x_3 x_4 (IntKind.wrap .i64 (x_5 + 1))) else (if 0 ≤ x_5 then (if x_5 < (a0.length : Int) then (if (((x_3.length : Int) + ([(a0.getD (Int.toNat x_5) (⟨(⟨#[]⟩ : ByteArray), 0, 0, 0, (⟨#[]⟩ : ByteArray), (⟨#[]⟩ : ByteArray), 0⟩ : GNode))].length : Int)) * 80) ≤ 140737488351232 then (spec_l10Put.l0 k a0 a1 (x_3 ++ [(a0.getD (Int.toNat x_5) (⟨(⟨#[]⟩ : ByteArray), 0, 0, 0, (⟨#[]⟩ : ByteArray), (⟨#[]⟩ : ByteArray), 0⟩ : GNode))]) x_4 (IntKind.wrap .i64 (x_5 + 1))) else none) else none) else none)) else none) else none) else (if (((x_3.length : Int) + ([a1].length : Int)) * 80) ≤ 140737488351232 then (if 0 ≤ x_5 then (if x_5 < (a0.length : Int) then (if (a0.getD (Int.toNat x_5) (⟨(⟨#[]⟩ : ByteArray), 0, 0, 0, (⟨#[]⟩ : ByteArray), (⟨#[]⟩ : ByteArray), 0⟩ : GNode)).Path = a1.Path then (spec_l10Put.l0 k a0 a1 (x_3 ++ [a1]) true (IntKind.wrap .i64 (x_5 + 1))) else (if 0 ≤ x_5 then (if x_5 < (a0.length : Int) then (if ((((x_3 ++ [a1]).length : Int) + ([(a0.getD (Int.toNat x_5) (⟨(⟨#[]⟩ : ByteArray), 0, 0, 0, (⟨#[]⟩ : ByteArray), (⟨#[]⟩ : ByteArray), 0⟩ : GNode))].length : Int)) * 80) ≤ 140737488351232 then (spec_l10Put.l0 k a0 a1 ((x_3 ++ [a1]) ++ [(a0.getD (Int.toNat x_5) (⟨(⟨#[]⟩ : ByteArray), 0, 0, 0, (⟨#[]⟩ : ByteArray), (⟨#[]⟩ : ByteArray), 0⟩ : GNode))]) true (IntKind.wrap .i64 (x_5 + 1))) else none) else none) else none)) else none) else none) else none)) else none) else none)) else (if x_4 = true then (some x_3) else (if (((x_3.length : Int) + ([a1].length : Int)) * 80) ≤ 140737488351232 then (some (x_3 ++ [a1])) else none)))
def spec_l10Put.f (k : Nat) (a0 : List GNode) (a1 : GNode) : Option (List GNode) := (spec_l10Put.l0 k a0 a1 ([] : List GNode) false 0)
theorem spec_l10Put.le (O : Prim) (hO : O = std) (k : Nat) (a0 : List GNode) (a1 : GNode) : Le F O M fi88.kills spec_l10Put.e (spec_l10Put.f k a0 a1) (den O M fi88.kills fi88.fn fi88.body (tab.gives 88) (M 88) [.one (.imm 26 a0), .agg [.lit (.string a1.Path), .lit (.int .i64 a1.Kind), .lit (.int .i64 a1.Mode), .lit (.int .i64 a1.Time), .lit (.string a1.Data), .lit (.string a1.Target), .lit (.int .i64 a1.Group)]] : Tr tab) := by
  refine Le.eqS 0 (by conv => lhs; cbv) ?_
  unfold spec_l10Put.f
  refine Le.loopS (fun (n : Nat) (v : List GNode × Bool × Int) => spec_l10Put.l0 n a0 a1 v.1 v.2.1 v.2.2) (fun (v : List GNode × Bool × Int) => match v with | (x_3, x_4, x_5) => (⟨[], [.one (.imm 26 a0), D_, D_, .one (.ptr ⟨9, 0, []⟩), D_, .one (.own 26 x_3), .one (.lit (.bool x_4)), .one (.lit (.int .i64 x_5)), D_, D_, D_, D_, D_, D_, D_, D_, D_, D_, D_, D_, D_, D_, D_, D_, D_, D_, D_, D_, D_, D_, D_, D_, D_, D_, D_, D_, D_, D_, D_, D_, D_, D_, D_, D_, D_, D_, D_, D_, D_, D_, D_, D_, D_], [[], [], [], [.lit (.string a1.Path), .lit (.int .i64 a1.Kind), .lit (.int .i64 a1.Mode), .lit (.int .i64 a1.Time), .lit (.string a1.Data), .lit (.string a1.Target), .lit (.int .i64 a1.Group)], [], [], [], [], [], [], [], [], [], [], [], [], [], [], [], [], [], [], [], [], [], [], [], [], [], [], [], [], [], [], [], [], [], [], [], [], [], [], [], [], [], [], [], [], [], [], [], [], [], [], []], []⟩ : S tab)) k (([] : List GNode), false, 0) (by subst hO; rfl) rfl (fun _ => rfl) ?_
  intro n0 hn0 ih0 v0
  obtain ⟨x_3, x_4, x_5⟩ := v0
  refine Le.eqS 0 (by conv => lhs; cbv) ?_
  show Le F O M _ _ (spec_l10Put.l0 (n0 + 1) a0 a1 x_3 x_4 x_5) _
  rw [spec_l10Put.l0]
  refine Le.condP 0 0 (by subst hO; rfl) (by conv => lhs; cbv) (by conv => lhs; cbv) ?_ ?_
  · refine Le.condN 2 9 (by subst hO; exact Bool.decide_eq_true.trans (Bool.not_not _).symm) (by conv => lhs; cbv) (by conv => lhs; cbv) ?_ ?_
    · refine Le.guardP 0 (by subst hO; rfl) (by conv => lhs; cbv) ?_
      refine Le.guardP 6 (by subst hO; rfl) (by conv => lhs; cbv) ?_
      refine Le.condN 0 0 (by subst hO; exact Bool.decide_eq_true.trans (Bool.not_not _).symm) (by conv => lhs; cbv) (by conv => lhs; cbv) ?_ ?_
      · refine Le.guardP 0 (by subst hO; rfl) (by conv => lhs; cbv) ?_
        refine Le.guardP 0 (by subst hO; rfl) (by conv => lhs; cbv) ?_
        refine Le.guardP 0 (by subst hO; rfl) (by conv => lhs; cbv) ?_
        refine Le.condN 0 0 (by subst hO; exact (seq_dec _ _).trans (Bool.not_not _).symm) (by conv => lhs; cbv) (by conv => lhs; cbv) ?_ ?_
        · refine Le.guardP 0 (by subst hO; rfl) (by conv => lhs; cbv) ?_
          refine Le.guardP 0 (by subst hO; rfl) (by conv => lhs; cbv) ?_
          refine Le.guardP 0 (by subst hO; rfl) (by conv => lhs; cbv) ?_
          exact Le.again (ih0 n0 (by omega) ((O.app (O.app x_3 [a1]) [(O.get (⟨(⟨#[]⟩ : ByteArray), 0, 0, 0, (⟨#[]⟩ : ByteArray), (⟨#[]⟩ : ByteArray), 0⟩ : GNode) a0 x_5)]), true, (O.wrap .i64 (O.add x_5 1)))) (by subst hO; rfl) rfl
        · exact Le.again (ih0 n0 (by omega) ((O.app x_3 [a1]), true, (O.wrap .i64 (O.add x_5 1)))) (by subst hO; rfl) rfl
      · refine Le.guardP 0 (by subst hO; rfl) (by conv => lhs; cbv) ?_
        refine Le.guardP 0 (by subst hO; rfl) (by conv => lhs; cbv) ?_
        refine Le.condN 0 0 (by subst hO; exact (seq_dec _ _).trans (Bool.not_not _).symm) (by conv => lhs; cbv) (by conv => lhs; cbv) ?_ ?_
        · refine Le.guardP 0 (by subst hO; rfl) (by conv => lhs; cbv) ?_
          refine Le.guardP 0 (by subst hO; rfl) (by conv => lhs; cbv) ?_
          refine Le.guardP 0 (by subst hO; rfl) (by conv => lhs; cbv) ?_
          exact Le.again (ih0 n0 (by omega) ((O.app x_3 [(O.get (⟨(⟨#[]⟩ : ByteArray), 0, 0, 0, (⟨#[]⟩ : ByteArray), (⟨#[]⟩ : ByteArray), 0⟩ : GNode) a0 x_5)]), x_4, (O.wrap .i64 (O.add x_5 1)))) (by subst hO; rfl) rfl
        · exact Le.again (ih0 n0 (by omega) (x_3, x_4, (O.wrap .i64 (O.add x_5 1)))) (by subst hO; rfl) rfl
    · refine Le.guardP 0 (by subst hO; rfl) (by conv => lhs; cbv) ?_
      refine Le.guardP 0 (by subst hO; rfl) (by conv => lhs; cbv) ?_
      refine Le.condN 0 0 (by subst hO; exact (seq_dec _ _).trans (Bool.not_not _).symm) (by conv => lhs; cbv) (by conv => lhs; cbv) ?_ ?_
      · refine Le.guardP 0 (by subst hO; rfl) (by conv => lhs; cbv) ?_
        refine Le.guardP 0 (by subst hO; rfl) (by conv => lhs; cbv) ?_
        refine Le.guardP 0 (by subst hO; rfl) (by conv => lhs; cbv) ?_
        exact Le.again (ih0 n0 (by omega) ((O.app x_3 [(O.get (⟨(⟨#[]⟩ : ByteArray), 0, 0, 0, (⟨#[]⟩ : ByteArray), (⟨#[]⟩ : ByteArray), 0⟩ : GNode) a0 x_5)]), x_4, (O.wrap .i64 (O.add x_5 1)))) (by subst hO; rfl) rfl
      · exact Le.again (ih0 n0 (by omega) (x_3, x_4, (O.wrap .i64 (O.add x_5 1)))) (by subst hO; rfl) rfl
  · refine Le.condN 0 0 (by subst hO; exact Bool.decide_eq_true.trans (Bool.not_not _).symm) (by conv => lhs; cbv) (by conv => lhs; cbv) ?_ ?_
    · refine Le.guardP 0 (by subst hO; rfl) (by conv => lhs; cbv) ?_
      exact Le.ret2 (by subst hO; rfl)
    · exact Le.ret2 (by subst hO; rfl)
/-! ### loop.example/g00100/spec.l10Lone -/
def spec_l10Lone.e (r : List GNode) : Res tab := (([], []), .one (.own 26 r))
mutual
def spec_l10Lone.l2 : Nat → (List GNode) → (List GNode) → Int → Int → Int → Option (List GNode)
  | 0, _, _, _, _, _ => none
  | k + 1, a0, x_10, x_11, x_14, x_15 => (if x_15 < (a0.length : Int) then (if 0 ≤ x_15 then (if x_15 < (a0.length : Int) then (if 0 ≤ x_11 then (if x_11 < (a0.length : Int) then (if (a0.getD (Int.toNat x_15) (⟨(⟨#[]⟩ : ByteArray), 0, 0, 0, (⟨#[]⟩ : ByteArray), (⟨#[]⟩ : ByteArray), 0⟩ : GNode)).Group = (a0.getD (Int.toNat x_11) (⟨(⟨#[]⟩ : ByteArray), 0, 0, 0, (⟨#[]⟩ : ByteArray), (⟨#[]⟩ : ByteArray), 0⟩ : GNode)).Group then (spec_l10Lone.l2 k a0 x_10 x_11 (IntKind.wrap .i64 (x_14 + 1)) (IntKind.wrap .i64 (x_15 + 1))) else (spec_l10Lone.l2 k a0 x_10 x_11 x_14 (IntKind.wrap .i64 (x_15 + 1)))) else none) else none) else none) else none) else (if x_14 < 2 then (if 0 ≤ x_11 then (if x_11 < (x_10.length : Int) then (spec_l10Lone.l0 k a0 (x_10.modify (Int.toNat x_11) (fun (z : GNode) => (⟨z.Path, z.Kind, z.Mode, z.Time, z.Data, z.Target, 0⟩ : GNode))) (IntKind.wrap .i64 (x_11 + 1))) else none) else none) else (spec_l10Lone.l0 k a0 x_10 (IntKind.wrap .i64 (x_11 + 1)))))
def spec_l10Lone.l0 : Nat → (List GNode) → (List GNode) → Int → Option (List GNode)
  | 0, _, _, _ => none
  | k + 1, a0, x_10, x_11 => (if x_11 < (a0.length : Int) then (spec_l10Lone.l2 k a0 x_10 x_11 0 0) else (some x_10))
end
def spec_l10Lone.f (k : Nat) (a0 : List GNode) : Option (List GNode) := (if (((([] : List GNode).length : Int) + (a0.length : Int)) * 80) ≤ 140737488351232 then (spec_l10Lone.l0 k a0 (([] : List GNode) ++ a0) 0) else none)
theorem spec_l10Lone.le (O : Prim) (hO : O = std) (k : Nat) (a0 : List GNode) : Le F O M fi90.kills spec_l10Lone.e (spec_l10Lone.f k a0) (den O M fi90.kills fi90.fn fi90.body (tab.gives 90) (M 90) [.one (.imm 26 a0)] : Tr tab) := by
  refine Le.eqS 0 (by conv => lhs; cbv) ?_
  unfold spec_l10Lone.f
  refine Le.guardP 0 (by subst hO; rfl) (by conv => lhs; cbv) ?_
  refine Le.loopS (fun (n : Nat) (v : List GNode × Int) => spec_l10Lone.l0 n a0 v.1 v.2) (fun (v : List GNode × Int) => match v with | (x_10, x_11) => (⟨[], [.one (.imm 26 a0), D_, D_, .one (.own 26 x_10), .one (.lit (.int .i64 x_11)), D_, D_, D_, D_, D_, D_, D_, D_, D_, D_, D_, D_, D_, D_, D_, D_, D_, D_, D_, D_, D_, D_, D_, D_, D_, D_, D_, D_, D_, D_, D_, D_, D_, D_, D_, D_, D_], [[], [], [], [], [], [], [], [], [], [], [], [], [], [], [], [], [], [], [], [], [], [], [], [], [], [], [], [], [], [], [], [], [], [], [], [], [], [], [], [], [], [], []], []⟩ : S tab)) k ((O.app ([] : List GNode) a0), 0) (by subst hO; rfl) rfl (fun _ => rfl) ?_
  intro n0 hn0 ih0 v0
  obtain ⟨x_10, x_11⟩ := v0
  refine Le.eqS 0 (by conv => lhs; cbv) ?_
  show Le F O M _ _ (spec_l10Lone.l0 (n0 + 1) a0 x_10 x_11) _
  rw [spec_l10Lone.l0]
  refine Le.condP 0 0 (by subst hO; rfl) (by conv => lhs; cbv) (by conv => lhs; cbv) ?_ ?_
  · refine Le.loopS (fun (n : Nat) (v : Int × Int) => spec_l10Lone.l2 n a0 x_10 x_11 v.1 v.2) (fun (v : Int × Int) => match v with | (x_14, x_15) => (⟨[], [.one (.imm 26 a0), D_, D_, .one (.own 26 x_10), .one (.lit (.int .i64 x_11)), .one (.lit (.int .i64 x_14)), .one (.lit (.int .i64 x_15)), D_, D_, D_, D_, D_, D_, D_, D_, D_, D_, D_, D_, D_, D_, D_, D_, D_, D_, D_, D_, D_, D_, D_, D_, D_, D_, D_, D_, D_, D_, D_, D_, D_, D_, D_], [[], [], [], [], [], [], [], [], [], [], [], [], [], [], [], [], [], [], [], [], [], [], [], [], [], [], [], [], [], [], [], [], [], [], [], [], [], [], [], [], [], [], []], []⟩ : S tab)) n0 (0, 0) (by subst hO; rfl) rfl (fun _ => rfl) ?_
    intro n2 hn2 ih2 v2
    obtain ⟨x_14, x_15⟩ := v2
    refine Le.eqS 0 (by conv => lhs; cbv) ?_
    show Le F O M _ _ (spec_l10Lone.l2 (n2 + 1) a0 x_10 x_11 x_14 x_15) _
    rw [spec_l10Lone.l2]
    refine Le.condP 0 0 (by subst hO; rfl) (by conv => lhs; cbv) (by conv => lhs; cbv) ?_ ?_
    · refine Le.guardP 0 (by subst hO; rfl) (by conv => lhs; cbv) ?_
      refine Le.guardP 0 (by subst hO; rfl) (by conv => lhs; cbv) ?_
      refine Le.guardP 0 (by subst hO; rfl) (by conv => lhs; cbv) ?_
      refine Le.guardP 0 (by subst hO; rfl) (by conv => lhs; cbv) ?_
      refine Le.condP 0 0 (by subst hO; rfl) (by conv => lhs; cbv) (by conv => lhs; cbv) ?_ ?_
      · exact Le.again (ih2 n2 (by omega) ((O.wrap .i64 (O.add x_14 1)), (O.wrap .i64 (O.add x_15 1)))) (by subst hO; rfl) rfl
      · exact Le.again (ih2 n2 (by omega) (x_14, (O.wrap .i64 (O.add x_15 1)))) (by subst hO; rfl) rfl
    · refine Le.condP 0 0 (by subst hO; rfl) (by conv => lhs; cbv) (by conv => lhs; cbv) ?_ ?_
      · refine Le.guardP 0 (by subst hO; rfl) (by conv => lhs; cbv) ?_
        refine Le.guardP 0 (by subst hO; rfl) (by conv => lhs; cbv) ?_
        exact Le.again (ih0 n2 (by omega) ((O.modf x_10 x_11 (fun (z : GNode) => (⟨z.Path, z.Kind, z.Mode, z.Time, z.Data, z.Target, 0⟩ : GNode))), (O.wrap .i64 (O.add x_11 1)))) (by subst hO; rfl) rfl
      · exact Le.again (ih0 n2 (by omega) (x_10, (O.wrap .i64 (O.add x_11 1)))) (by subst hO; rfl) rfl
  · exact Le.ret2 (by subst hO; rfl)
/-! ### loop.example/g00100/spec.l10Tree -/
def spec_l10Tree_i.e (r : List GNode × GL01Cur) : Res tab := (([], [[.imm 5 r.2.B, .lit (.int .i64 r.2.I), .lit (.int .i64 r.2.H)]]), .one (.own 26 r.1))
def spec_l10Tree_i.l2 : Nat → (List GNode) → Int → Int → (List Int) → Int → Int → Option (List GNode × GL01Cur)
  | 0, _, _, _, _, _, _ => none
  | k + 1, x_85, x_86, x_87, b_88, b_89, b_90 => (if x_87 < (x_85.length : Int) then (if 0 ≤ x_87 then (if x_87 < (x_85.length : Int) then (if (x_85.getD (Int.toNat x_87) (⟨(⟨#[]⟩ : ByteArray), 0, 0, 0, (⟨#[]⟩ : ByteArray), (⟨#[]⟩ : ByteArray), 0⟩ : GNode)).Kind = 1 then (if x_86 < 0 then (spec_l10Tree_i.l2 k x_85 x_87 (IntKind.wrap .i64 (x_87 + 1)) b_88 b_89 b_90) else ((spec_l01Once_i.f (⟨b_88, b_89, b_90⟩ : GL01Cur) 2).bind fun r91 => (if r91.1 = true then (if 0 ≤ x_87 then (if x_87 < (x_85.length : Int) then (if 0 ≤ x_86 then (if x_86 < (x_85.length : Int) then (if 0 ≤ x_86 then (if x_86 < ((x_85.modify (Int.toNat x_86) (fun (z : GNode) => (⟨z.Path, z.Kind, z.Mode, z.Time, z.Data, z.Target, 3⟩ : GNode))).length : Int) then (if 0 ≤ x_87 then (if x_87 < ((x_85.modify (Int.toNat x_86) (fun (z : GNode) => (⟨z.Path, z.Kind, z.Mode, z.Time, z.Data, z.Target, 3⟩ : GNode))).length : Int) then (if 0 ≤ x_87 then (if x_87 < (((((((((x_85.modify (Int.toNat x_86) (fun (z : GNode) => (⟨z.Path, z.Kind, z.Mode, z.Time, z.Data, z.Target, 3⟩ : GNode))).modify (Int.toNat x_87) (fun (z : GNode) => (⟨((x_85.modify (Int.toNat x_86) (fun (z : GNode) => (⟨z.Path, z.Kind, z.Mode, z.Time, z.Data, z.Target, 3⟩ : GNode))).getD (Int.toNat x_86) (⟨(⟨#[]⟩ : ByteArray), 0, 0, 0, (⟨#[]⟩ : ByteArray), (⟨#[]⟩ : ByteArray), 0⟩ : GNode)).Path, z.Kind, z.Mode, z.Time, z.Data, z.Target, z.Group⟩ : GNode))).modify (Int.toNat x_87) (fun (z : GNode) => (⟨z.Path, ((x_85.modify (Int.toNat x_86) (fun (z : GNode) => (⟨z.Path, z.Kind, z.Mode, z.Time, z.Data, z.Target, 3⟩ : GNode))).getD (Int.toNat x_86) (⟨(⟨#[]⟩ : ByteArray), 0, 0, 0, (⟨#[]⟩ : ByteArray), (⟨#[]⟩ : ByteArray), 0⟩ : GNode)).Kind, z.Mode, z.Time, z.Data, z.Target, z.Group⟩ : GNode))).modify (Int.toNat x_87) (fun (z : GNode) => (⟨z.Path, z.Kind, ((x_85.modify (Int.toNat x_86) (fun (z : GNode) => (⟨z.Path, z.Kind, z.Mode, z.Time, z.Data, z.Target, 3⟩ : GNode))).getD (Int.toNat x_86) (⟨(⟨#[]⟩ : ByteArray), 0, 0, 0, (⟨#[]⟩ : ByteArray), (⟨#[]⟩ : ByteArray), 0⟩ : GNode)).Mode, z.Time, z.Data, z.Target, z.Group⟩ : GNode))).modify (Int.toNat x_87) (fun (z : GNode) => (⟨z.Path, z.Kind, z.Mode, ((x_85.modify (Int.toNat x_86) (fun (z : GNode) => (⟨z.Path, z.Kind, z.Mode, z.Time, z.Data, z.Target, 3⟩ : GNode))).getD (Int.toNat x_86) (⟨(⟨#[]⟩ : ByteArray), 0, 0, 0, (⟨#[]⟩ : ByteArray), (⟨#[]⟩ : ByteArray), 0⟩ : GNode)).Time, z.Data, z.Target, z.Group⟩ : GNode))).modify (Int.toNat x_87) (fun (z : GNode) => (⟨z.Path, z.Kind, z.Mode, z.Time, ((x_85.modify (Int.toNat x_86) (fun (z : GNode) => (⟨z.Path, z.Kind, z.Mode, z.Time, z.Data, z.Target, 3⟩ : GNode))).getD (Int.toNat x_86) (⟨(⟨#[]⟩ : ByteArray), 0, 0, 0, (⟨#[]⟩ : ByteArray), (⟨#[]⟩ : ByteArray), 0⟩ : GNode)).Data, z.Target, z.Group⟩ : GNode))).modify (Int.toNat x_87) (fun (z : GNode) => (⟨z.Path, z.Kind, z.Mode, z.Time, z.Data, ((x_85.modify (Int.toNat x_86) (fun (z : GNode) => (⟨z.Path, z.Kind, z.Mode, z.Time, z.Data, z.Target, 3⟩ : GNode))).getD (Int.toNat x_86) (⟨(⟨#[]⟩ : ByteArray), 0, 0, 0, (⟨#[]⟩ : ByteArray), (⟨#[]⟩ : ByteArray), 0⟩ : GNode)).Target, z.Group⟩ : GNode))).modify (Int.toNat x_87) (fun (z : GNode) => (⟨z.Path, z.Kind, z.Mode, z.Time, z.Data, z.Target, ((x_85.modify (Int.toNat x_86) (fun (z : GNode) => (⟨z.Path, z.Kind, z.Mode, z.Time, z.Data, z.Target, 3⟩ : GNode))).getD (Int.toNat x_86) (⟨(⟨#[]⟩ : ByteArray), 0, 0, 0, (⟨#[]⟩ : ByteArray), (⟨#[]⟩ : ByteArray), 0⟩ : GNode)).Group⟩ : GNode))).length : Int) then (spec_l10Tree_i.l2 k (((((((((x_85.modify (Int.toNat x_86) (fun (z : GNode) => (⟨z.Path, z.Kind, z.Mode, z.Time, z.Data, z.Target, 3⟩ : GNode))).modify (Int.toNat x_87) (fun (z : GNode) => (⟨((x_85.modify (Int.toNat x_86) (fun (z : GNode) => (⟨z.Path, z.Kind, z.Mode, z.Time, z.Data, z.Target, 3⟩ : GNode))).getD (Int.toNat x_86) (⟨(⟨#[]⟩ : ByteArray), 0, 0, 0, (⟨#[]⟩ : ByteArray), (⟨#[]⟩ : ByteArray), 0⟩ : GNode)).Path, z.Kind, z.Mode, z.Time, z.Data, z.Target, z.Group⟩ : GNode))).modify (Int.toNat x_87) (fun (z : GNode) => (⟨z.Path, ((x_85.modify (Int.toNat x_86) (fun (z : GNode) => (⟨z.Path, z.Kind, z.Mode, z.Time, z.Data, z.Target, 3⟩ : GNode))).getD (Int.toNat x_86) (⟨(⟨#[]⟩ : ByteArray), 0, 0, 0, (⟨#[]⟩ : ByteArray), (⟨#[]⟩ : ByteArray), 0⟩ : GNode)).Kind, z.Mode, z.Time, z.Data, z.Target, z.Group⟩ : GNode))).modify (Int.toNat x_87) (fun (z : GNode) => (⟨z.Path, z.Kind, ((x_85.modify (Int.toNat x_86) (fun (z : GNode) => (⟨z.Path, z.Kind, z.Mode, z.Time, z.Data, z.Target, 3⟩ : GNode))).getD (Int.toNat x_86) (⟨(⟨#[]⟩ : ByteArray), 0, 0, 0, (⟨#[]⟩ : ByteArray), (⟨#[]⟩ : ByteArray), 0⟩ : GNode)).Mode, z.Time, z.Data, z.Target, z.Group⟩ : GNode))).modify (Int.toNat x_87) (fun (z : GNode) => (⟨z.Path, z.Kind, z.Mode, ((x_85.modify (Int.toNat x_86) (fun (z : GNode) => (⟨z.Path, z.Kind, z.Mode, z.Time, z.Data, z.Target, 3⟩ : GNode))).getD (Int.toNat x_86) (⟨(⟨#[]⟩ : ByteArray), 0, 0, 0, (⟨#[]⟩ : ByteArray), (⟨#[]⟩ : ByteArray), 0⟩ : GNode)).Time, z.Data, z.Target, z.Group⟩ : GNode))).modify (Int.toNat x_87) (fun (z : GNode) => (⟨z.Path, z.Kind, z.Mode, z.Time, ((x_85.modify (Int.toNat x_86) (fun (z : GNode) => (⟨z.Path, z.Kind, z.Mode, z.Time, z.Data, z.Target, 3⟩ : GNode))).getD (Int.toNat x_86) (⟨(⟨#[]⟩ : ByteArray), 0, 0, 0, (⟨#[]⟩ : ByteArray), (⟨#[]⟩ : ByteArray), 0⟩ : GNode)).Data, z.Target, z.Group⟩ : GNode))).modify (Int.toNat x_87) (fun (z : GNode) => (⟨z.Path, z.Kind, z.Mode, z.Time, z.Data, ((x_85.modify (Int.toNat x_86) (fun (z : GNode) => (⟨z.Path, z.Kind, z.Mode, z.Time, z.Data, z.Target, 3⟩ : GNode))).getD (Int.toNat x_86) (⟨(⟨#[]⟩ : ByteArray), 0, 0, 0, (⟨#[]⟩ : ByteArray), (⟨#[]⟩ : ByteArray), 0⟩ : GNode)).Target, z.Group⟩ : GNode))).modify (Int.toNat x_87) (fun (z : GNode) => (⟨z.Path, z.Kind, z.Mode, z.Time, z.Data, z.Target, ((x_85.modify (Int.toNat x_86) (fun (z : GNode) => (⟨z.Path, z.Kind, z.Mode, z.Time, z.Data, z.Target, 3⟩ : GNode))).getD (Int.toNat x_86) (⟨(⟨#[]⟩ : ByteArray), 0, 0, 0, (⟨#[]⟩ : ByteArray), (⟨#[]⟩ : ByteArray), 0⟩ : GNode)).Group⟩ : GNode))).modify (Int.toNat x_87) (fun (z : GNode) => (⟨(x_85.getD (Int.toNat x_87) (⟨(⟨#[]⟩ : ByteArray), 0, 0, 0, (⟨#[]⟩ : ByteArray), (⟨#[]⟩ : ByteArray), 0⟩ : GNode)).Path, z.Kind, z.Mode, z.Time, z.Data, z.Target, z.Group⟩ : GNode))) x_86 (IntKind.wrap .i64 (x_87 + 1)) r91.2.B r91.2.I r91.2.H) else none) else none) else none) else none) else none) else none) else none) else none) else none) else none) else (spec_l10Tree_i.l2 k x_85 x_86 (IntKind.wrap .i64 (x_87 + 1)) r91.2.B r91.2.I r91.2.H)))) else (spec_l10Tree_i.l2 k x_85 x_86 (IntKind.wrap .i64 (x_87 + 1)) b_88 b_89 b_90)) else none) else none) else ((spec_l10Lone.f k x_85).bind fun r92 => (some (r92, (⟨b_88, b_89, b_90⟩ : GL01Cur)))))
def spec_l10Tree_i.l0 : Nat → Int → (List GNode) → Int → (List Int) → Int → Int → Option (List GNode × GL01Cur)
  | 0, _, _, _, _, _, _ => none
  | k + 1, a1, x_49, x_50, b_51, b_52, b_53 => (if x_50 < a1 then (if 0 < (x_49.length : Int) then ((spec_l01Once_i.f (⟨b_51, b_52, b_53⟩ : GL01Cur) 3).bind fun r54 => (if r54.1 = true then ((spec_l02Name_i.f r54.2).bind fun r66 => ((spec_JoinPath.f k (⟨#[]⟩ : ByteArray) r66.1).bind fun r67 => (if r67 = (⟨#[]⟩ : ByteArray) then (spec_l10Tree_i.l0 k a1 x_49 (IntKind.wrap .i64 (x_50 + 1)) r66.2.B r66.2.I r66.2.H) else ((spec_l10At.f k x_49 r67).bind fun r68 => (if 0 ≤ r68 then (spec_l10Tree_i.l0 k a1 x_49 (IntKind.wrap .i64 (x_50 + 1)) r66.2.B r66.2.I r66.2.H) else ((spec_l10Node_i.f k r66.2 r67).bind fun r69 => ((spec_l10Put.f k x_49 r69.1).bind fun r70 => (spec_l10Tree_i.l0 k a1 r70 (IntKind.wrap .i64 (x_50 + 1)) r69.2.B r69.2.I r69.2.H)))))))) else ((spec_l01Below_i.f r54.2 (x_49.length : Int)).bind fun r55 => (if 0 ≤ r55.1 then (if r55.1 < (x_49.length : Int) then (if (x_49.getD (Int.toNat r55.1) (⟨(⟨#[]⟩ : ByteArray), 0, 0, 0, (⟨#[]⟩ : ByteArray), (⟨#[]⟩ : ByteArray), 0⟩ : GNode)).Kind = 0 then (if 0 ≤ r55.1 then (if r55.1 < (x_49.length : Int) then ((spec_l02Name_i.f r55.2).bind fun r56 => ((spec_JoinPath.f k (x_49.getD (Int.toNat r55.1) (⟨(⟨#[]⟩ : ByteArray), 0, 0, 0, (⟨#[]⟩ : ByteArray), (⟨#[]⟩ : ByteArray), 0⟩ : GNode)).Path r56.1).bind fun r57 => (if r57 = (⟨#[]⟩ : ByteArray) then (spec_l10Tree_i.l0 k a1 x_49 (IntKind.wrap .i64 (x_50 + 1)) r56.2.B r56.2.I r56.2.H) else ((spec_l10At.f k x_49 r57).bind fun r58 => (if 0 ≤ r58 then (spec_l10Tree_i.l0 k a1 x_49 (IntKind.wrap .i64 (x_50 + 1)) r56.2.B r56.2.I r56.2.H) else ((spec_l10Node_i.f k r56.2 r57).bind fun r59 => ((spec_l10Put.f k x_49 r59.1).bind fun r60 => (spec_l10Tree_i.l0 k a1 r60 (IntKind.wrap .i64 (x_50 + 1)) r59.2.B r59.2.I r59.2.H)))))))) else none) else none) else ((spec_l02Name_i.f r55.2).bind fun r61 => ((spec_JoinPath.f k (⟨#[]⟩ : ByteArray) r61.1).bind fun r62 => (if r62 = (⟨#[]⟩ : ByteArray) then (spec_l10Tree_i.l0 k a1 x_49 (IntKind.wrap .i64 (x_50 + 1)) r61.2.B r61.2.I r61.2.H) else ((spec_l10At.f k x_49 r62).bind fun r63 => (if 0 ≤ r63 then (spec_l10Tree_i.l0 k a1 x_49 (IntKind.wrap .i64 (x_50 + 1)) r61.2.B r61.2.I r61.2.H) else ((spec_l10Node_i.f k r61.2 r62).bind fun r64 => ((spec_l10Put.f k x_49 r64.1).bind fun r65 => (spec_l10Tree_i.l0 k a1 r65 (IntKind.wrap .i64 (x_50 + 1)) r64.2.B r64.2.I r64.2.H))))))))) else none) else none)))) else ((spec_l02Name_i.f (⟨b_51, b_52, b_53⟩ : GL01Cur)).bind fun r71 => ((spec_JoinPath.f k (⟨#[]⟩ : ByteArray) r71.1).bind fun r72 => (if r72 = (⟨#[]⟩ : ByteArray) then (spec_l10Tree_i.l0 k a1 x_49 (IntKind.wrap .i64 (x_50 + 1)) r71.2.B r71.2.I r71.2.H) else ((spec_l10At.f k x_49 r72).bind fun r73 => (if 0 ≤ r73 then (spec_l10Tree_i.l0 k a1 x_49 (IntKind.wrap .i64 (x_50 + 1)) r71.2.B r71.2.I r71.2.H) else ((spec_l10Node_i.f k r71.2 r72).bind fun r74 => ((spec_l10Put.f k x_49 r74.1).bind fun r75 => (spec_l10Tree_i.l0 k a1 r75 (IntKind.wrap .i64 (x_50 + 1)) r74.2.B r74.2.I r74.2.H))))))))) else ((spec_l01Once_i.f (⟨b_51, b_52, b_53⟩ : GL01Cur) 3).bind fun r76 => (if r76.1 = true then (spec_l10Tree_i.l2 k x_49 (-1) 0 r76.2.B r76.2.I r76.2.H) else ((spec_l10Lone.f k x_49).bind fun r93 => (some (r93, r76.2))))))
def spec_l10Tree_i.f (k : Nat) (a0 : GL01Cur) (a1 : Int) : Option (List GNode × GL01Cur) := (spec_l10Tree_i.l0 k a1 ([] : List GNode) 0 a0.B a0.I a0.H)
theorem spec_l10Tree_i.le (O : Prim) (hO : O = std) (k : Nat) (a0 : GL01Cur) (a1 : Int) : Le F O M fi47.kills spec_l10Tree_i.e (spec_l10Tree_i.f k a0 a1) (den O M fi47.kills fi47.fn fi47.body (tab.gives 47) (M 47) [.agg [.imm 5 a0.B, .lit (.int .i64 a0.I), .lit (.int .i64 a0.H)], .one (.lit (.int .i64 a1))] : Tr tab) := by
  refine Le.eqS 0 (by conv => lhs; cbv) ?_
  unfold spec_l10Tree_i.f
  refine Le.loopS (fun (n : Nat) (v : List GNode × Int × List Int × Int × Int) => spec_l10Tree_i.l0 n a1 v.1 v.2.1 v.2.2.1 v.2.2.2.1 v.2.2.2.2) (fun (v : List GNode × Int × List Int × Int × Int) => match v with | (x_49, x_50, b_51, b_52, b_53) => (⟨[], [.one (.ptr ⟨205, 0, []⟩), .one (.lit (.int .i64 a1)), D_, D_, D_, .one (.own 26 x_49), .one (.lit (.int .i64 x_50)), D_, D_, D_, D_, D_, D_, D_, D_, D_, D_, D_, D_, D_, D_, D_, D_, D_, D_, D_, D_, D_, D_, D_, D_, D_, D_, D_, D_, D_, D_, D_, D_, D_, D_, D_, D_, D_, D_, D_, D_, D_, D_, D_, D_, D_, D_, D_, D_, D_, D_, D_, D_, D_, D_, D_, D_, D_, D_, D_, D_, D_, D_, D_, D_, D_, D_, D_, D_, D_, D_, D_, D_, D_, D_, D_, D_, D_, D_, D_, D_, D_, D_, D_, D_, D_, D_, D_, D_, D_, D_, D_, D_, D_, D_], [[], [], [], [], [], [], [], [], [], [], [], [], [], [], [], [], [], [], [], [], [], [], [], [], [], [], [], [], [], [], [], [], [], [], [], [], [], [], [], [], [], [], [], [], [], [], [], [], [], [], [], [], [], [], [], [], [], [], [], [], [], [], [], [], [], [], [], [], [], [], [], [], [], [], [], [], [], [], [], [], [], [], [], [], [], [], [], [], [], [], [], [], [], [], [], [], [], [], [], [], [], [.imm 5 b_51, .lit (.int .i64 b_52), .lit (.int .i64 b_53)], []], []⟩ : S tab)) k (([] : List GNode), 0, a0.B, a0.I, a0.H) (by subst hO; rfl) rfl (fun _ => rfl) ?_
  intro n0 hn0 ih0 v0
  obtain ⟨x_49, x_50, b_51, b_52, b_53⟩ := v0
  refine Le.eqS 0 (by conv => lhs; cbv) ?_
  show Le F O M _ _ (spec_l10Tree_i.l0 (n0 + 1) a1 x_49 x_50 b_51 b_52 b_53) _
  rw [spec_l10Tree_i.l0]
  refine Le.condP 0 0 (by subst hO; rfl) (by conv => lhs; cbv) (by conv => lhs; cbv) ?_ ?_
  · refine Le.condP 1 4 (by subst hO; rfl) (by conv => lhs; cbv) (by conv => lhs; cbv) ?_ ?_
    · refine Le.callC 2 (fi := fi83) rfl (spec_l01Once_i.le O hO (⟨b_51, b_52, b_53⟩ : GL01Cur) 3) (by subst hO; rfl) (by intro r54; conv => lhs; cbv) ?_
      intro r54
      refine Le.condN 0 0 (by subst hO; exact Bool.decide_eq_true.trans (Bool.not_not _).symm) (by conv => lhs; cbv) (by conv => lhs; cbv) ?_ ?_
      · refine Le.callC 0 (fi := fi84) rfl (spec_l01Below_i.le O hO r54.2 (O.len x_49)) (by subst hO; rfl) (by intro r55; conv => lhs; cbv) ?_
        intro r55
        refine Le.guardP 0 (by subst hO; rfl) (by conv => lhs; cbv) ?_
        refine Le.guardP 0 (by subst hO; rfl) (by conv => lhs; cbv) ?_
        refine Le.condP 0 0 (by subst hO; rfl) (by conv => lhs; cbv) (by conv => lhs; cbv) ?_ ?_
        · refine Le.guardP 0 (by subst hO; rfl) (by conv => lhs; cbv) ?_
          refine Le.guardP 0 (by subst hO; rfl) (by conv => lhs; cbv) ?_
          refine Le.callC 0 (fi := fi86) rfl (spec_l02Name_i.le O hO r55.2) (by subst hO; rfl) (by intro r56; conv => lhs; cbv) ?_
          intro r56
          refine Le.callC 0 (fi := fi85) rfl (spec_JoinPath.le O hO n0 (O.get (⟨(⟨#[]⟩ : ByteArray), 0, 0, 0, (⟨#[]⟩ : ByteArray), (⟨#[]⟩ : ByteArray), 0⟩ : GNode) x_49 r55.1).Path r56.1) (by subst hO; rfl) (by intro r57; conv => lhs; cbv) ?_
          intro r57
          refine Le.condP 5 2 (by subst hO; exact seq_dec _ _) (by conv => lhs; cbv) (by conv => lhs; cbv) ?_ ?_
          · exact Le.again (ih0 n0 (by omega) (x_49, (O.wrap .i64 (O.add x_50 1)), r56.2.B, r56.2.I, r56.2.H)) (by subst hO; rfl) rfl
          · refine Le.callC 2 (fi := fi87) rfl (spec_l10At.le O hO n0 x_49 r57) (by subst hO; rfl) (by intro r58; conv => lhs; cbv) ?_
            intro r58
            refine Le.condP 0 0 (by subst hO; rfl) (by conv => lhs; cbv) (by conv => lhs; cbv) ?_ ?_
            · exact Le.again (ih0 n0 (by omega) (x_49, (O.wrap .i64 (O.add x_50 1)), r56.2.B, r56.2.I, r56.2.H)) (by subst hO; rfl) rfl
            · refine Le.callC 0 (fi := fi89) rfl (spec_l10Node_i.le O hO n0 r56.2 r57) (by subst hO; rfl) (by intro r59; conv => lhs; cbv) ?_
              intro r59
              refine Le.callC 0 (fi := fi88) rfl (spec_l10Put.le O hO n0 x_49 r59.1) (by subst hO; rfl) (by intro r60; conv => lhs; cbv) ?_
              intro r60
              exact Le.again (ih0 n0 (by omega) (r60, (O.wrap .i64 (O.add x_50 1)), r59.2.B, r59.2.I, r59.2.H)) (by subst hO; rfl) rfl
        · refine Le.callC 0 (fi := fi86) rfl (spec_l02Name_i.le O hO r55.2) (by subst hO; rfl) (by intro r61; conv => lhs; cbv) ?_
          intro r61
          refine Le.callC 0 (fi := fi85) rfl (spec_JoinPath.le O hO n0 (⟨#[]⟩ : ByteArray) r61.1) (by subst hO; rfl) (by intro r62; conv => lhs; cbv) ?_
          intro r62
          refine Le.condP 5 2 (by subst hO; exact seq_dec _ _) (by conv => lhs; cbv) (by conv => lhs; cbv) ?_ ?_
          · exact Le.again (ih0 n0 (by omega) (x_49, (O.wrap .i64 (O.add x_50 1)), r61.2.B, r61.2.I, r61.2.H)) (by subst hO; rfl) rfl
          · refine Le.callC 2 (fi := fi87) rfl (spec_l10At.le O hO n0 x_49 r62) (by subst hO; rfl) (by intro r63; conv => lhs; cbv) ?_
            intro r63
            refine Le.condP 0 0 (by subst hO; rfl) (by conv => lhs; cbv) (by conv => lhs; cbv) ?_ ?_
            · exact Le.again (ih0 n0 (by omega) (x_49, (O.wrap .i64 (O.add x_50 1)), r61.2.B, r61.2.I, r61.2.H)) (by subst hO; rfl) rfl
            · refine Le.callC 0 (fi := fi89) rfl (spec_l10Node_i.le O hO n0 r61.2 r62) (by subst hO; rfl) (by intro r64; conv => lhs; cbv) ?_
              intro r64
              refine Le.callC 0 (fi := fi88) rfl (spec_l10Put.le O hO n0 x_49 r64.1) (by subst hO; rfl) (by intro r65; conv => lhs; cbv) ?_
              intro r65
              exact Le.again (ih0 n0 (by omega) (r65, (O.wrap .i64 (O.add x_50 1)), r64.2.B, r64.2.I, r64.2.H)) (by subst hO; rfl) rfl
      · refine Le.callC 0 (fi := fi86) rfl (spec_l02Name_i.le O hO r54.2) (by subst hO; rfl) (by intro r66; conv => lhs; cbv) ?_
        intro r66
        refine Le.callC 0 (fi := fi85) rfl (spec_JoinPath.le O hO n0 (⟨#[]⟩ : ByteArray) r66.1) (by subst hO; rfl) (by intro r67; conv => lhs; cbv) ?_
        intro r67
        refine Le.condP 5 2 (by subst hO; exact seq_dec _ _) (by conv => lhs; cbv) (by conv => lhs; cbv) ?_ ?_
        · exact Le.again (ih0 n0 (by omega) (x_49, (O.wrap .i64 (O.add x_50 1)), r66.2.B, r66.2.I, r66.2.H)) (by subst hO; rfl) rfl
        · refine Le.callC 2 (fi := fi87) rfl (spec_l10At.le O hO n0 x_49 r67) (by subst hO; rfl) (by intro r68; conv => lhs; cbv) ?_
          intro r68
          refine Le.condP 0 0 (by subst hO; rfl) (by conv => lhs; cbv) (by conv => lhs; cbv) ?_ ?_
          · exact Le.again (ih0 n0 (by omega) (x_49, (O.wrap .i64 (O.add x_50 1)), r66.2.B, r66.2.I, r66.2.H)) (by subst hO; rfl) rfl
          · refine Le.callC 0 (fi := fi89) rfl (spec_l10Node_i.le O hO n0 r66.2 r67) (by subst hO; rfl) (by intro r69; conv => lhs; cbv) ?_
            intro r69
            refine Le.callC 0 (fi := fi88) rfl (spec_l10Put.le O hO n0 x_49 r69.1) (by subst hO; rfl) (by intro r70; conv => lhs; cbv) ?_
            intro r70
            exact Le.again (ih0 n0 (by omega) (r70, (O.wrap .i64 (O.add x_50 1)), r69.2.B, r69.2.I, r69.2.H)) (by subst hO; rfl) rfl
    · refine Le.callC 0 (fi := fi86) rfl (spec_l02Name_i.le O hO (⟨b_51, b_52, b_53⟩ : GL01Cur)) (by subst hO; rfl) (by intro r71; conv => lhs; cbv) ?_
      intro r71
      refine Le.callC 0 (fi := fi85) rfl (spec_JoinPath.le O hO n0 (⟨#[]⟩ : ByteArray) r71.1) (by subst hO; rfl) (by intro r72; conv => lhs; cbv) ?_
      intro r72
      refine Le.condP 5 2 (by subst hO; exact seq_dec _ _) (by conv => lhs; cbv) (by conv => lhs; cbv) ?_ ?_
      · exact Le.again (ih0 n0 (by omega) (x_49, (O.wrap .i64 (O.add x_50 1)), r71.2.B, r71.2.I, r71.2.H)) (by subst hO; rfl) rfl
      · refine Le.callC 2 (fi := fi87) rfl (spec_l10At.le O hO n0 x_49 r72) (by subst hO; rfl) (by intro r73; conv => lhs; cbv) ?_
        intro r73
        refine Le.condP 0 0 (by subst hO; rfl) (by conv => lhs; cbv) (by conv => lhs; cbv) ?_ ?_
        · exact Le.again (ih0 n0 (by omega) (x_49, (O.wrap .i64 (O.add x_50 1)), r71.2.B, r71.2.I, r71.2.H)) (by subst hO; rfl) rfl
        · refine Le.callC 0 (fi := fi89) rfl (spec_l10Node_i.le O hO n0 r71.2 r72) (by subst hO; rfl) (by intro r74; conv => lhs; cbv) ?_
          intro r74
          refine Le.callC 0 (fi := fi88) rfl (spec_l10Put.le O hO n0 x_49 r74.1) (by subst hO; rfl) (by intro r75; conv => lhs; cbv) ?_
          intro r75
          exact Le.again (ih0 n0 (by omega) (r75, (O.wrap .i64 (O.add x_50 1)), r74.2.B, r74.2.I, r74.2.H)) (by subst hO; rfl) rfl
  · refine Le.callC 0 (fi := fi83) rfl (spec_l01Once_i.le O hO (⟨b_51, b_52, b_53⟩ : GL01Cur) 3) (by subst hO; rfl) (by intro r76; conv => lhs; cbv) ?_
    intro r76
    refine Le.condP 0 0 (by subst hO; exact Bool.decide_eq_true) (by conv => lhs; cbv) (by conv => lhs; cbv) ?_ ?_
    · refine Le.loopS (fun (n : Nat) (v : List GNode × Int × Int × List Int × Int × Int) => spec_l10Tree_i.l2 n v.1 v.2.1 v.2.2.1 v.2.2.2.1 v.2.2.2.2.1 v.2.2.2.2.2) (fun (v : List GNode × Int × Int × List Int × Int × Int) => match v with | (x_85, x_86, x_87, b_88, b_89, b_90) => (⟨[], [.one (.ptr ⟨205, 0, []⟩), D_, D_, D_, D_, .one (.own 26 x_85), D_, D_, D_, D_, .one (.lit (.int .i64 x_86)), .one (.lit (.int .i64 x_87)), D_, D_, D_, D_, D_, D_, D_, D_, D_, D_, D_, D_, D_, D_, D_, D_, D_, D_, D_, D_, D_, D_, D_, D_, D_, D_, D_, D_, D_, D_, D_, D_, D_, D_, D_, D_, D_, D_, D_, D_, D_, D_, D_, D_, D_, D_, D_, D_, D_, D_, D_, D_, D_, D_, D_, D_, D_, D_, D_, D_, D_, D_, D_, D_, D_, D_, D_, D_, D_, D_, D_, D_, D_, D_, D_, D_, D_, D_, D_, D_, D_, D_, D_, D_, D_, D_, D_, D_, D_], [[], [], [], [], [], [], [], [], [], [], [], [], [], [], [], [], [], [], [], [], [], [], [], [], [], [], [], [], [], [], [], [], [], [], [], [], [], [], [], [], [], [], [], [], [], [], [], [], [], [], [], [], [], [], [], [], [], [], [], [], [], [], [], [], [], [], [], [], [], [], [], [], [], [], [], [], [], [], [], [], [], [], [], [], [], [], [], [], [], [], [], [], [], [], [], [], [], [], [], [], [], [.imm 5 b_88, .lit (.int .i64 b_89), .lit (.int .i64 b_90)], []], []⟩ : S tab)) n0 (x_49, (-1), 0, r76.2.B, r76.2.I, r76.2.H) (by subst hO; rfl) rfl (fun _ => rfl) ?_
      intro n2 hn2 ih2 v2
      obtain ⟨x_85, x_86, x_87, b_88, b_89, b_90⟩ := v2
      refine Le.eqS 0 (by conv => lhs; cbv) ?_
      show Le F O M _ _ (spec_l10Tree_i.l2 (n2 + 1) x_85 x_86 x_87 b_88 b_89 b_90) _
      rw [spec_l10Tree_i.l2]
      refine Le.condP 0 0 (by subst hO; rfl) (by conv => lhs; cbv) (by conv => lhs; cbv) ?_ ?_
      · refine Le.guardP 0 (by subst hO; rfl) (by conv => lhs; cbv) ?_
        refine Le.guardP 0 (by subst hO; rfl) (by conv => lhs; cbv) ?_
        refine Le.condP 0 0 (by subst hO; rfl) (by conv => lhs; cbv) (by conv => lhs; cbv) ?_ ?_
        · refine Le.condP 0 0 (by subst hO; rfl) (by conv => lhs; cbv) (by conv => lhs; cbv) ?_ ?_
          · exact Le.again (ih2 n2 (by omega) (x_85, x_87, (O.wrap .i64 (O.add x_87 1)), b_88, b_89, b_90)) (by subst hO; rfl) rfl
          · refine Le.callC 0 (fi := fi83) rfl (spec_l01Once_i.le O hO (⟨b_88, b_89, b_90⟩ : GL01Cur) 2) (by subst hO; rfl) (by intro r91; conv => lhs; cbv) ?_
            intro r91
            refine Le.condP 0 0 (by subst hO; exact Bool.decide_eq_true) (by conv => lhs; cbv) (by conv => lhs; cbv) ?_ ?_
            · refine Le.guardP 0 (by subst hO; rfl) (by conv => lhs; cbv) ?_
              refine Le.guardP 0 (by subst hO; rfl) (by conv => lhs; cbv) ?_
              refine Le.guardP 0 (by subst hO; rfl) (by conv => lhs; cbv) ?_
              refine Le.guardP 0 (by subst hO; rfl) (by conv => lhs; cbv) ?_
              refine Le.guardP 0 (by subst hO; rfl) (by conv => lhs; cbv) ?_
              refine Le.guardP 0 (by subst hO; rfl) (by conv => lhs; cbv) ?_
              refine Le.guardP 0 (by subst hO; rfl) (by conv => lhs; cbv) ?_
              refine Le.guardP 0 (by subst hO; rfl) (by conv => lhs; cbv) ?_
              refine Le.guardP 0 (by subst hO; rfl) (by conv => lhs; cbv) ?_
              refine Le.guardP 0 (by subst hO; rfl) (by conv => lhs; cbv) ?_
              exact Le.again (ih2 n2 (by omega) ((O.modf (O.modf (O.modf (O.modf (O.modf (O.modf (O.modf (O.modf (O.modf x_85 x_86 (fun (z : GNode) => (⟨z.Path, z.Kind, z.Mode, z.Time, z.Data, z.Target, 3⟩ : GNode))) x_87 (fun (z : GNode) => (⟨(O.get (⟨(⟨#[]⟩ : ByteArray), 0, 0, 0, (⟨#[]⟩ : ByteArray), (⟨#[]⟩ : ByteArray), 0⟩ : GNode) (O.modf x_85 x_86 (fun (z : GNode) => (⟨z.Path, z.Kind, z.Mode, z.Time, z.Data, z.Target, 3⟩ : GNode))) x_86).Path, z.Kind, z.Mode, z.Time, z.Data, z.Target, z.Group⟩ : GNode))) x_87 (fun (z : GNode) => (⟨z.Path, (O.get (⟨(⟨#[]⟩ : ByteArray), 0, 0, 0, (⟨#[]⟩ : ByteArray), (⟨#[]⟩ : ByteArray), 0⟩ : GNode) (O.modf x_85 x_86 (fun (z : GNode) => (⟨z.Path, z.Kind, z.Mode, z.Time, z.Data, z.Target, 3⟩ : GNode))) x_86).Kind, z.Mode, z.Time, z.Data, z.Target, z.Group⟩ : GNode))) x_87 (fun (z : GNode) => (⟨z.Path, z.Kind, (O.get (⟨(⟨#[]⟩ : ByteArray), 0, 0, 0, (⟨#[]⟩ : ByteArray), (⟨#[]⟩ : ByteArray), 0⟩ : GNode) (O.modf x_85 x_86 (fun (z : GNode) => (⟨z.Path, z.Kind, z.Mode, z.Time, z.Data, z.Target, 3⟩ : GNode))) x_86).Mode, z.Time, z.Data, z.Target, z.Group⟩ : GNode))) x_87 (fun (z : GNode) => (⟨z.Path, z.Kind, z.Mode, (O.get (⟨(⟨#[]⟩ : ByteArray), 0, 0, 0, (⟨#[]⟩ : ByteArray), (⟨#[]⟩ : ByteArray), 0⟩ : GNode) (O.modf x_85 x_86 (fun (z : GNode) => (⟨z.Path, z.Kind, z.Mode, z.Time, z.Data, z.Target, 3⟩ : GNode))) x_86).Time, z.Data, z.Target, z.Group⟩ : GNode))) x_87 (fun (z : GNode) => (⟨z.Path, z.Kind, z.Mode, z.Time, (O.get (⟨(⟨#[]⟩ : ByteArray), 0, 0, 0, (⟨#[]⟩ : ByteArray), (⟨#[]⟩ : ByteArray), 0⟩ : GNode) (O.modf x_85 x_86 (fun (z : GNode) => (⟨z.Path, z.Kind, z.Mode, z.Time, z.Data, z.Target, 3⟩ : GNode))) x_86).Data, z.Target, z.Group⟩ : GNode))) x_87 (fun (z : GNode) => (⟨z.Path, z.Kind, z.Mode, z.Time, z.Data, (O.get (⟨(⟨#[]⟩ : ByteArray), 0, 0, 0, (⟨#[]⟩ : ByteArray), (⟨#[]⟩ : ByteArray), 0⟩ : GNode) (O.modf x_85 x_86 (fun (z : GNode) => (⟨z.Path, z.Kind, z.Mode, z.Time, z.Data, z.Target, 3⟩ : GNode))) x_86).Target, z.Group⟩ : GNode))) x_87 (fun (z : GNode) => (⟨z.Path, z.Kind, z.Mode, z.Time, z.Data, z.Target, (O.get (⟨(⟨#[]⟩ : ByteArray), 0, 0, 0, (⟨#[]⟩ : ByteArray), (⟨#[]⟩ : ByteArray), 0⟩ : GNode) (O.modf x_85 x_86 (fun (z : GNode) => (⟨z.Path, z.Kind, z.Mode, z.Time, z.Data, z.Target, 3⟩ : GNode))) x_86).Group⟩ : GNode))) x_87 (fun (z : GNode) => (⟨(O.get (⟨(⟨#[]⟩ : ByteArray), 0, 0, 0, (⟨#[]⟩ : ByteArray), (⟨#[]⟩ : ByteArray), 0⟩ : GNode) x_85 x_87).Path, z.Kind, z.Mode, z.Time, z.Data, z.Target, z.Group⟩ : GNode))), x_86, (O.wrap .i64 (O.add x_87 1)), r91.2.B, r91.2.I, r91.2.H)) (by subst hO; rfl) rfl
            · exact Le.again (ih2 n2 (by omega) (x_85, x_86, (O.wrap .i64 (O.add x_87 1)), r91.2.B, r91.2.I, r91.2.H)) (by subst hO; rfl) rfl
        · exact Le.again (ih2 n2 (by omega) (x_85, x_86, (O.wrap .i64 (O.add x_87 1)), b_88, b_89, b_90)) (by subst hO; rfl) rfl
      · refine Le.callC 0 (fi := fi90) rfl (spec_l10Lone.le O hO n2 x_85) (by subst hO; rfl) (by intro r92; conv => lhs; cbv) ?_
        intro r92
        exact Le.ret2 (by subst hO; rfl)
    · refine Le.callC 0 (fi := fi90) rfl (spec_l10Lone.le O hO n0 x_49) (by subst hO; rfl) (by intro r93; conv => lhs; cbv) ?_
      intro r93
      exact Le.ret2 (by subst hO; rfl)
/-! ### loop.example/g00100/spec.DrawTree -/
def spec_DrawTree.e (r : List GNode) : Res tab := (([], []), .one (.imm 26 r))
def spec_DrawTree.f (k : Nat) (a0 : List Int) : Option (List GNode) := ((spec_l01New.f k a0).bind fun r0 => ((spec_l01Size.f a0 14).bind fun r1 => ((spec_l10Tree_i.f k r0 r1).bind fun r2 => (some r2.1))))
theorem spec_DrawTree.le (O : Prim) (hO : O = std) (k : Nat) (a0 : List Int) : Le F O M fi21.kills spec_DrawTree.e (spec_DrawTree.f k a0) (den O M fi21.kills fi21.fn fi21.body (tab.gives 21) (M 21) [.one (.imm 5 a0)] : Tr tab) := by
  refine Le.eqS 0 (by conv => lhs; cbv) ?_
  unfold spec_DrawTree.f
  refine Le.callC 0 (fi := fi46) rfl (spec_l01New.le O hO k a0) (by subst hO; rfl) (by intro r0; conv => lhs; cbv) ?_
  intro r0
  refine Le.callC 0 (fi := fi48) rfl (spec_l01Size.le O hO a0 14) (by subst hO; rfl) (by intro r1; conv => lhs; cbv) ?_
  intro r1
  refine Le.callC 0 (fi := fi47) rfl (spec_l10Tree_i.le O hO k r0 r1) (by subst hO; rfl) (by intro r2; conv => lhs; cbv) ?_
  intro r2
  exact Le.ret2 (by subst hO; rfl)
/-! ### loop.example/g00100/impl.EntryOf -/
def impl_EntryOf.e (r : GEntry) : Res tab := (([], []), .agg [.lit (.string r.Path), .lit (.int .i64 r.Kind), .lit (.int .i64 r.Mode), .lit (.int .i64 r.Time), .lit (.int .i64 r.Size), .lit (.string r.Target), .lit (.int .i64 r.Group)])
def impl_EntryOf.f (a0 : GNode) : Option GEntry := (some (⟨a0.Path, a0.Kind, a0.Mode, a0.Time, (a0.Data.size : Int), a0.Target, a0.Group⟩ : GEntry))
theorem impl_EntryOf.le (O : Prim) (hO : O = std) (a0 : GNode) : Le F O M fi22.kills impl_EntryOf.e (impl_EntryOf.f a0) (den O M fi22.kills fi22.fn fi22.body (tab.gives 22) (M 22) [.agg [.lit (.string a0.Path), .lit (.int .i64 a0.Kind), .lit (.int .i64 a0.Mode), .lit (.int .i64 a0.Time), .lit (.string a0.Data), .lit (.string a0.Target), .lit (.int .i64 a0.Group)]] : Tr tab) := by
  refine Le.eqS 0 (by conv => lhs; cbv) ?_
  unfold impl_EntryOf.f
  exact Le.ret2 (by subst hO; rfl)
/-! ### loop.example/g00100/impl.within -/
def impl_within.e (r : Bool) : Res tab := (([], []), .one (.lit (.bool r)))
def impl_within.f (a0 : Int) (a1 : Int) (a2 : Int) : Option Bool := (if a1 ≤ a0 then (some (decide (a0 ≤ a2))) else (some false))
theorem impl_within.le (O : Prim) (hO : O = std) (a0 : Int) (a1 : Int) (a2 : Int) : Le F O M fi70.kills impl_within.e (impl_within.f a0 a1 a2) (den O M fi70.kills fi70.fn fi70.body (tab.gives 70) (M 70) [.one (.lit (.int .i64 a0)), .one (.lit (.int .i64 a1)), .one (.lit (.int .i64 a2))] : Tr tab) := by
  refine Le.eqS 0 (by conv => lhs; cbv) ?_
  unfold impl_within.f
  refine Le.condP 3 3 (by subst hO; rfl) (by conv => lhs; cbv) (by conv => lhs; cbv) ?_ ?_
  · exact Le.ret2 (by subst hO; rfl)
  · exact Le.ret2 (by subst hO; rfl)
/-! ### loop.example/g00100/impl.NameOk -/
def impl_NameOk.e (r : Bool) : Res tab := (([], []), .one (.lit (.bool r)))
def impl_NameOk.l0 : Nat → ByteArray → Int → Option Bool
  | 0, _, _ => none
  | k + 1, a0, x_1 => (if x_1 < (a0.size : Int) then (if 0 ≤ x_1 then (if x_1 < (a0.size : Int) then (if 97 ≤ (std.sget a0 x_1) then (if (std.sget a0 x_1) ≤ 122 then (if true = true then (impl_NameOk.l0 k a0 (IntKind.wrap .i64 (x_1 + 1))) else (some false)) else (if 65 ≤ (std.sget a0 x_1) then (if (std.sget a0 x_1) ≤ 90 then (if true = true then (impl_NameOk.l0 k a0 (IntKind.wrap .i64 (x_1 + 1))) else (some false)) else (if 48 ≤ (std.sget a0 x_1) then (if (std.sget a0 x_1) ≤ 57 then (if true = true then (impl_NameOk.l0 k a0 (IntKind.wrap .i64 (x_1 + 1))) else (some false)) else (if (std.sget a0 x_1) = 46 then (if true = true then (impl_NameOk.l0 k a0 (IntKind.wrap .i64 (x_1 + 1))) else (some false)) else (if (std.sget a0 x_1) = 95 then (if true = true then (impl_NameOk.l0 k a0 (IntKind.wrap .i64 (x_1 + 1))) else (some false)) else (if (std.sget a0 x_1) = 45 then (impl_NameOk.l0 k a0 (IntKind.wrap .i64 (x_1 + 1))) else (some false))))) else (if (std.sget a0 x_1) = 46 then (if true = true then (impl_NameOk.l0 k a0 (IntKind.wrap .i64 (x_1 + 1))) else (some false)) else (if (std.sget a0 x_1) = 95 then (if true = true then (impl_NameOk.l0 k a0 (IntKind.wrap .i64 (x_1 + 1))) else (some false)) else (if (std.sget a0 x_1) = 45 then (impl_NameOk.l0 k a0 (IntKind.wrap .i64 (x_1 + 1))) else (some false)))))) else (if 48 ≤ (std.sget a0 x_1) then (if (std.sget a0 x_1) ≤ 57 then (if true = true then (impl_NameOk.l0 k a0 (IntKind.wrap .i64 (x_1 + 1))) else (some false)) else (if (std.sget a0 x_1) = 46 then (if true = true then (impl_NameOk.l0 k a0 (IntKind.wrap .i64 (x_1 + 1))) else (some false)) else (if (std.sget a0 x_1) = 95 then (if true = true then (impl_NameOk.l0 k a0 (IntKind.wrap .i64 (x_1 + 1))) else (some false)) else (if (std.sget a0 x_1) = 45 then (impl_NameOk.l0 k a0 (IntKind.wrap .i64 (x_1 + 1))) else (some false))))) else (if (std.sget a0 x_1) = 46 then (if true = true then (impl_NameOk.l0 k a0 (IntKind.wrap .i64 (x_1 + 1))) else (some false)) else (if (std.sget a0 x_1) = 95 then (if true = true then (impl_NameOk.l0 k a0 (IntKind.wrap .i64 (x_1 + 1))) else (some false)) else (if (std.sget a0 x_1) = 45 then (impl_NameOk.l0 k a0 (IntKind.wrap .i64 (x_1 + 1))) else (some false))))))) else (if 65 ≤ (std.sget a0 x_1) then (if (std.sget a0 x_1) ≤ 90 then (if true = true then (impl_NameOk.l0 k a0 (IntKind.wrap .i64 (x_1 + 1))) else (some false)) else (if 48 ≤ (std.sget a0 x_1) then (if (std.sget a0 x_1) ≤ 57 then (if true = true then (impl_NameOk.l0 k a0 (IntKind.wrap .i64 (x_1 + 1))) else (some false)) else (if (std.sget a0 x_1) = 46 then (if true = true then (impl_NameOk.l0 k a0 (IntKind.wrap .i64 (x_1 + 1))) else (some false)) else (if (std.sget a0 x_1) = 95 then (if true = true then (impl_NameOk.l0 k a0 (IntKind.wrap .i64 (x_1 + 1))) else (some false)) else (if (std.sget a0 x_1) = 45 then (impl_NameOk.l0 k a0 (IntKind.wrap .i64 (x_1 + 1))) else (some false))))) else (if (std.sget a0 x_1) = 46 then (if true = true then (impl_NameOk.l0 k a0 (IntKind.wrap .i64 (x_1 + 1))) else (some false)) else (if (std.sget a0 x_1) = 95 then (if true = true then (impl_NameOk.l0 k a0 (IntKind.wrap .i64 (x_1 + 1))) else (some false)) else (if (std.sget a0 x_1) = 45 then (impl_NameOk.l0 k a0 (IntKind.wrap .i64 (x_1 + 1))) else (some false)))))) else (if 48 ≤ (std.sget a0 x_1) then (if (std.sget a0 x_1) ≤ 57 then (if true = true then (impl_NameOk.l0 k a0 (IntKind.wrap .i64 (x_1 + 1))) else (some false)) else (if (std.sget a0 x_1) = 46 then (if true = true then (impl_NameOk.l0 k a0 (IntKind.wrap .i64 (x_1 + 1))) else (some false)) else (if (std.sget a0 x_1) = 95 then (if true = true then (impl_NameOk.l0 k a0 (IntKind.wrap .i64 (x_1 + 1))) else (some false)) else (if (std.sget a0 x_1) = 45 then (impl_NameOk.l0 k a0 (IntKind.wrap .i64 (x_1 + 1))) else (some false))))) else (if (std.sget a0 x_1) = 46 then (if true = true then (impl_NameOk.l0 k a0 (IntKind.wrap .i64 (x_1 + 1))) else (some false)) else (if (std.sget a0 x_1) = 95 then (if true = true then (impl_NameOk.l0 k a0 (IntKind.wrap .i64 (x_1 + 1))) else (some false)) else (if (std.sget a0 x_1) = 45 then (impl_NameOk.l0 k a0 (IntKind.wrap .i64 (x_1 + 1))) else (some false))))))) else none) else none) else ((impl_within.f (a0.size : Int) 1 20).bind fun r2 => (if r2 = true then (if a0 = (⟨#[46]⟩ : ByteArray) then (some false) else (some (!(std.seq a0 (⟨#[46, 46]⟩ : ByteArray))))) else (some false))))
def impl_NameOk.f (k : Nat) (a0 : ByteArray) : Option Bool := (impl_NameOk.l0 k a0 0)
theorem impl_NameOk.le (O : Prim) (hO : O = std) (k : Nat) (a0 : ByteArray) : Le F O M fi122.kills impl_NameOk.e (impl_NameOk.f k a0) (den O M fi122.kills fi122.fn fi122.body (tab.gives 122) (M 122) [.one (.lit (.string a0))] : Tr tab) := by
  refine Le.eqS 0 (by conv => lhs; cbv) ?_
  unfold impl_NameOk.f
  refine Le.loopS (fun (n : Nat) (v : Int) => impl_NameOk.l0 n a0 v) (fun (x_1 : Int) => (⟨[], [.one (.lit (.string a0)), D_, D_, D_, D_, D_, .one (.lit (.int .i64 (O.ssize a0))), .one (.lit (.int .i64 x_1)), D_, D_, D_, D_, D_, D_, D_, D_, D_, D_, D_, D_, D_, D_, D_, D_, D_, D_, D_, D_, D_, D_, D_, D_, D_, D_, D_, D_, D_, D_, D_, D_, D_, D_, D_, D_, D_, D_, D_, D_, D_, D_, D_, D_, D_, D_, D_, D_, D_, D_, D_, D_], [[], [], [], [], [], [], [], [], [], [], [], [], [], [], [], [], [], [], [], [], [], [], [], [], [], [], [], [], [], [], [], [], [], [], [], [], [], [], [], [], [], [], [], [], [], [], [], [], [], [], [], [], [], [], [], [], [], [], [], [], []], []⟩ : S tab)) k 0 (by subst hO; rfl) rfl (fun _ => rfl) ?_
  intro n0 hn0 ih0 x_1
  refine Le.eqS 0 (by conv => lhs; cbv) ?_
  show Le F O M _ _ (impl_NameOk.l0 (n0 + 1) a0 x_1) _
  rw [impl_NameOk.l0]
  refine Le.condP 0 0 (by subst hO; rfl) (by conv => lhs; cbv) (by conv => lhs; cbv) ?_ ?_
  · refine Le.guardP 0 (by subst hO; rfl) (by conv => lhs; cbv) ?_
    refine Le.guardP 0 (by subst hO; rfl) (by conv => lhs; cbv) ?_
    refine Le.condP 2 5 (by subst hO; rfl) (by conv => lhs; cbv) (by conv => lhs; cbv) ?_ ?_
    · refine Le.condP 18 2 (by subst hO; rfl) (by conv => lhs; cbv) (by conv => lhs; cbv) ?_ ?_
      · refine Le.condN 0 0 (by subst hO; exact Bool.decide_eq_true.trans (Bool.not_not _).symm) (by conv => lhs; cbv) (by conv => lhs; cbv) ?_ ?_
        · exact Le.ret2 (by subst hO; rfl)
        · exact Le.again (ih0 n0 (by omega) (O.wrap .i64 (O.add x_1 1))) (by subst hO; rfl) rfl
      · refine Le.condP 4 7 (by subst hO; rfl) (by conv => lhs; cbv) (by conv => lhs; cbv) ?_ ?_
        · refine Le.condP 13 2 (by subst hO; rfl) (by conv => lhs; cbv) (by conv => lhs; cbv) ?_ ?_
          · refine Le.condN 0 0 (by subst hO; exact Bool.decide_eq_true.trans (Bool.not_not _).symm) (by conv => lhs; cbv) (by conv => lhs; cbv) ?_ ?_
            · exact Le.ret2 (by subst hO; rfl)
            · exact Le.again (ih0 n0 (by omega) (O.wrap .i64 (O.add x_1 1))) (by subst hO; rfl) rfl
          · refine Le.condP 4 7 (by subst hO; rfl) (by conv => lhs; cbv) (by conv => lhs; cbv) ?_ ?_
            · refine Le.condP 8 2 (by subst hO; rfl) (by conv => lhs; cbv) (by conv => lhs; cbv) ?_ ?_
              · refine Le.condN 0 0 (by subst hO; exact Bool.decide_eq_true.trans (Bool.not_not _).symm) (by conv => lhs; cbv) (by conv => lhs; cbv) ?_ ?_
                · exact Le.ret2 (by subst hO; rfl)
                · exact Le.again (ih0 n0 (by omega) (O.wrap .i64 (O.add x_1 1))) (by subst hO; rfl) rfl
              · refine Le.condP 5 2 (by subst hO; rfl) (by conv => lhs; cbv) (by conv => lhs; cbv) ?_ ?_
                · refine Le.condN 0 0 (by subst hO; exact Bool.decide_eq_true.trans (Bool.not_not _).symm) (by conv => lhs; cbv) (by conv => lhs; cbv) ?_ ?_
                  · exact Le.ret2 (by subst hO; rfl)
                  · exact Le.again (ih0 n0 (by omega) (O.wrap .i64 (O.add x_1 1))) (by subst hO; rfl) rfl
                · refine Le.condP 2 2 (by subst hO; rfl) (by conv => lhs; cbv) (by conv => lhs; cbv) ?_ ?_
                  · refine Le.condN 0 0 (by subst hO; exact Bool.decide_eq_true.trans (Bool.not_not _).symm) (by conv => lhs; cbv) (by conv => lhs; cbv) ?_ ?_
                    · exact Le.ret2 (by subst hO; rfl)
                    · exact Le.again (ih0 n0 (by omega) (O.wrap .i64 (O.add x_1 1))) (by subst hO; rfl) rfl
                  · refine Le.condN 0 0 (by subst hO; exact (Bool.not_not _).symm) (by conv => lhs; cbv) (by conv => lhs; cbv) ?_ ?_
                    · exact Le.ret2 (by subst hO; rfl)
                    · exact Le.again (ih0 n0 (by omega) (O.wrap .i64 (O.add x_1 1))) (by subst hO; rfl) rfl
            · refine Le.condP 5 2 (by subst hO; rfl) (by conv => lhs; cbv) (by conv => lhs; cbv) ?_ ?_
              · refine Le.condN 0 0 (by subst hO; exact Bool.decide_eq_true.trans (Bool.not_not _).symm) (by conv => lhs; cbv) (by conv => lhs; cbv) ?_ ?_
                · exact Le.ret2 (by subst hO; rfl)
                · exact Le.again (ih0 n0 (by omega) (O.wrap .i64 (O.add x_1 1))) (by subst hO; rfl) rfl
              · refine Le.condP 2 2 (by subst hO; rfl) (by conv => lhs; cbv) (by conv => lhs; cbv) ?_ ?_
                · refine Le.condN 0 0 (by subst hO; exact Bool.decide_eq_true.trans (Bool.not_not _).symm) (by conv => lhs; cbv) (by conv => lhs; cbv) ?_ ?_
                  · exact Le.ret2 (by subst hO; rfl)
                  · exact Le.again (ih0 n0 (by omega) (O.wrap .i64 (O.add x_1 1))) (by subst hO; rfl) rfl
                · refine Le.condN 0 0 (by subst hO; exact (Bool.not_not _).symm) (by conv => lhs; cbv) (by conv => lhs; cbv) ?_ ?_
                  · exact Le.ret2 (by subst hO; rfl)
                  · exact Le.again (ih0 n0 (by omega) (O.wrap .i64 (O.add x_1 1))) (by subst hO; rfl) rfl
        · refine Le.condP 4 7 (by subst hO; rfl) (by conv => lhs; cbv) (by conv => lhs; cbv) ?_ ?_
          · refine Le.condP 8 2 (by subst hO; rfl) (by conv => lhs; cbv) (by conv => lhs; cbv) ?_ ?_
            · refine Le.condN 0 0 (by subst hO; exact Bool.decide_eq_true.trans (Bool.not_not _).symm) (by conv => lhs; cbv) (by conv => lhs; cbv) ?_ ?_
              · exact Le.ret2 (by subst hO; rfl)
              · exact Le.again (ih0 n0 (by omega) (O.wrap .i64 (O.add x_1 1))) (by subst hO; rfl) rfl
            · refine Le.condP 5 2 (by subst hO; rfl) (by conv => lhs; cbv) (by conv => lhs; cbv) ?_ ?_
              · refine Le.condN 0 0 (by subst hO; exact Bool.decide_eq_true.trans (Bool.not_not _).symm) (by conv => lhs; cbv) (by conv => lhs; cbv) ?_ ?_
                · exact Le.ret2 (by subst hO; rfl)
                · exact Le.again (ih0 n0 (by omega) (O.wrap .i64 (O.add x_1 1))) (by subst hO; rfl) rfl
              · refine Le.condP 2 2 (by subst hO; rfl) (by conv => lhs; cbv) (by conv => lhs; cbv) ?_ ?_
                · refine Le.condN 0 0 (by subst hO; exact Bool.decide_eq_true.trans (Bool.not_not _).symm) (by conv => lhs; cbv) (by conv => lhs; cbv) ?_ ?_
                  · exact Le.ret2 (by subst hO; rfl)
                  · exact Le.again (ih0 n0 (by omega) (O.wrap .i64 (O.add x_1 1))) (by subst hO; rfl) rfl
                · refine Le.condN 0 0 (by subst hO; exact (Bool.not_not _).symm) (by conv => lhs; cbv) (by conv => lhs; cbv) ?_ ?_
                  · exact Le.ret2 (by subst hO; rfl)
                  · exact Le.again (ih0 n0 (by omega) (O.wrap .i64 (O.add x_1 1))) (by subst hO; rfl) rfl
          · refine Le.condP 5 2 (by subst hO; rfl) (by conv => lhs; cbv) (by conv => lhs; cbv) ?_ ?_
            · refine Le.condN 0 0 (by subst hO; exact Bool.decide_eq_true.trans (Bool.not_not _).symm) (by conv => lhs; cbv) (by conv => lhs; cbv) ?_ ?_
              · exact Le.ret2 (by subst hO; rfl)
              · exact Le.again (ih0 n0 (by omega) (O.wrap .i64 (O.add x_1 1))) (by subst hO; rfl) rfl
            · refine Le.condP 2 2 (by subst hO; rfl) (by conv => lhs; cbv) (by conv => lhs; cbv) ?_ ?_
              · refine Le.condN 0 0 (by subst hO; exact Bool.decide_eq_true.trans (Bool.not_not _).symm) (by conv => lhs; cbv) (by conv => lhs; cbv) ?_ ?_
                · exact Le.ret2 (by subst hO; rfl)
                · exact Le.again (ih0 n0 (by omega) (O.wrap .i64 (O.add x_1 1))) (by subst hO; rfl) rfl
              · refine Le.condN 0 0 (by subst hO; exact (Bool.not_not _).symm) (by conv => lhs; cbv) (by conv => lhs; cbv) ?_ ?_
                · exact Le.ret2 (by subst hO; rfl)
                · exact Le.again (ih0 n0 (by omega) (O.wrap .i64 (O.add x_1 1))) (by subst hO; rfl) rfl
    · refine Le.condP 4 7 (by subst hO; rfl) (by conv => lhs; cbv) (by conv => lhs; cbv) ?_ ?_
      · refine Le.condP 13 2 (by subst hO; rfl) (by conv => lhs; cbv) (by conv => lhs; cbv) ?_ ?_
        · refine Le.condN 0 0 (by subst hO; exact Bool.decide_eq_true.trans (Bool.not_not _).symm) (by conv => lhs; cbv) (by conv => lhs; cbv) ?_ ?_
          · exact Le.ret2 (by subst hO; rfl)
          · exact Le.again (ih0 n0 (by omega) (O.wrap .i64 (O.add x_1 1))) (by subst hO; rfl) rfl
        · refine Le.condP 4 7 (by subst hO; rfl) (by conv => lhs; cbv) (by conv => lhs; cbv) ?_ ?_
          · refine Le.condP 8 2 (by subst hO; rfl) (by conv => lhs; cbv) (by conv => lhs; cbv) ?_ ?_
            · refine Le.condN 0 0 (by subst hO; exact Bool.decide_eq_true.trans (Bool.not_not _).symm) (by conv => lhs; cbv) (by conv => lhs; cbv) ?_ ?_
              · exact Le.ret2 (by subst hO; rfl)
              · exact Le.again (ih0 n0 (by omega) (O.wrap .i64 (O.add x_1 1))) (by subst hO; rfl) rfl
            · refine Le.condP 5 2 (by subst hO; rfl) (by conv => lhs; cbv) (by conv => lhs; cbv) ?_ ?_
              · refine Le.condN 0 0 (by subst hO; exact Bool.decide_eq_true.trans (Bool.not_not _).symm) (by conv => lhs; cbv) (by conv => lhs; cbv) ?_ ?_
                · exact Le.ret2 (by subst hO; rfl)
                · exact Le.again (ih0 n0 (by omega) (O.wrap .i64 (O.add x_1 1))) (by subst hO; rfl) rfl
              · refine Le.condP 2 2 (by subst hO; rfl) (by conv => lhs; cbv) (by conv => lhs; cbv) ?_ ?_
                · refine Le.condN 0 0 (by subst hO; exact Bool.decide_eq_true.trans (Bool.not_not _).symm) (by conv => lhs; cbv) (by conv => lhs; cbv) ?_ ?_
                  · exact Le.ret2 (by subst hO; rfl)
                  · exact Le.again (ih0 n0 (by omega) (O.wrap .i64 (O.add x_1 1))) (by subst hO; rfl) rfl
                · refine Le.condN 0 0 (by subst hO; exact (Bool.not_not _).symm) (by conv => lhs; cbv) (by conv => lhs; cbv) ?_ ?_
                  · exact Le.ret2 (by subst hO; rfl)
                  · exact Le.again (ih0 n0 (by omega) (O.wrap .i64 (O.add x_1 1))) (by subst hO; rfl) rfl
          · refine Le.condP 5 2 (by subst hO; rfl) (by conv => lhs; cbv) (by conv => lhs; cbv) ?_ ?_
            · refine Le.condN 0 0 (by subst hO; exact Bool.decide_eq_true.trans (Bool.not_not _).symm) (by conv => lhs; cbv) (by conv => lhs; cbv) ?_ ?_
              · exact Le.ret2 (by subst hO; rfl)
              · exact Le.again (ih0 n0 (by omega) (O.wrap .i64 (O.add x_1 1))) (by subst hO; rfl) rfl
            · refine Le.condP 2 2 (by subst hO; rfl) (by conv => lhs; cbv) (by conv => lhs; cbv) ?_ ?_
              · refine Le.condN 0 0 (by subst hO; exact Bool.decide_eq_true.trans (Bool.not_not _).symm) (by conv => lhs; cbv) (by conv => lhs; cbv) ?_ ?_
                · exact Le.ret2 (by subst hO; rfl)
                · exact Le.again (ih0 n0 (by omega) (O.wrap .i64 (O.add x_1 1))) (by subst hO; rfl) rfl
              · refine Le.condN 0 0 (by subst hO; exact (Bool.not_not _).symm) (by conv => lhs; cbv) (by conv => lhs; cbv) ?_ ?_
                · exact Le.ret2 (by subst hO; rfl)
                · exact Le.again (ih0 n0 (by omega) (O.wrap .i64 (O.add x_1 1))) (by subst hO; rfl) rfl
      · refine Le.condP 4 7 (by subst hO; rfl) (by conv => lhs; cbv) (by conv => lhs; cbv) ?_ ?_
        · refine Le.condP 8 2 (by subst hO; rfl) (by conv => lhs; cbv) (by conv => lhs; cbv) ?_ ?_
          · refine Le.condN 0 0 (by subst hO; exact Bool.decide_eq_true.trans (Bool.not_not _).symm) (by conv => lhs; cbv) (by conv => lhs; cbv) ?_ ?_
            · exact Le.ret2 (by subst hO; rfl)
            · exact Le.again (ih0 n0 (by omega) (O.wrap .i64 (O.add x_1 1))) (by subst hO; rfl) rfl
          · refine Le.condP 5 2 (by subst hO; rfl) (by conv => lhs; cbv) (by conv => lhs; cbv) ?_ ?_
            · refine Le.condN 0 0 (by subst hO; exact Bool.decide_eq_true.trans (Bool.not_not _).symm) (by conv => lhs; cbv) (by conv => lhs; cbv) ?_ ?_
              · exact Le.ret2 (by subst hO; rfl)
              · exact Le.again (ih0 n0 (by omega) (O.wrap .i64 (O.add x_1 1))) (by subst hO; rfl) rfl
            · refine Le.condP 2 2 (by subst hO; rfl) (by conv => lhs; cbv) (by conv => lhs; cbv) ?_ ?_
              · refine Le.condN 0 0 (by subst hO; exact Bool.decide_eq_true.trans (Bool.not_not _).symm) (by conv => lhs; cbv) (by conv => lhs; cbv) ?_ ?_
                · exact Le.ret2 (by subst hO; rfl)
                · exact Le.again (ih0 n0 (by omega) (O.wrap .i64 (O.add x_1 1))) (by subst hO; rfl) rfl
              · refine Le.condN 0 0 (by subst hO; exact (Bool.not_not _).symm) (by conv => lhs; cbv) (by conv => lhs; cbv) ?_ ?_
                · exact Le.ret2 (by subst hO; rfl)
                · exact Le.again (ih0 n0 (by omega) (O.wrap .i64 (O.add x_1 1))) (by subst hO; rfl) rfl
        · refine Le.condP 5 2 (by subst hO; rfl) (by conv => lhs; cbv) (by conv => lhs; cbv) ?_ ?_
          · refine Le.condN 0 0 (by subst hO; exact Bool.decide_eq_true.trans (Bool.not_not _).symm) (by conv => lhs; cbv) (by conv => lhs; cbv) ?_ ?_
            · exact Le.ret2 (by subst hO; rfl)
            · exact Le.again (ih0 n0 (by omega) (O.wrap .i64 (O.add x_1 1))) (by subst hO; rfl) rfl
          · refine Le.condP 2 2 (by subst hO; rfl) (by conv => lhs; cbv) (by conv => lhs; cbv) ?_ ?_
            · refine Le.condN 0 0 (by subst hO; exact Bool.decide_eq_true.trans (Bool.not_not _).symm) (by conv => lhs; cbv) (by conv => lhs; cbv) ?_ ?_
              · exact Le.ret2 (by subst hO; rfl)
              · exact Le.again (ih0 n0 (by omega) (O.wrap .i64 (O.add x_1 1))) (by subst hO; rfl) rfl
            · refine Le.condN 0 0 (by subst hO; exact (Bool.not_not _).symm) (by conv => lhs; cbv) (by conv => lhs; cbv) ?_ ?_
              · exact Le.ret2 (by subst hO; rfl)
              · exact Le.again (ih0 n0 (by omega) (O.wrap .i64 (O.add x_1 1))) (by subst hO; rfl) rfl
  · refine Le.callC 0 (fi := fi70) rfl (impl_within.le O hO (O.ssize a0) 1 20) (by subst hO; rfl) (by intro r2; conv => lhs; cbv) ?_
    intro r2
    refine Le.condP 2 5 (by subst hO; exact Bool.decide_eq_true) (by conv => lhs; cbv) (by conv => lhs; cbv) ?_ ?_
    · refine Le.condN 2 2 (by subst hO; exact (seq_dec _ _).trans (Bool.not_not _).symm) (by conv => lhs; cbv) (by conv => lhs; cbv) ?_ ?_
      · exact Le.ret2 (by subst hO; rfl)
      · exact Le.ret2 (by subst hO; rfl)
    · exact Le.ret2 (by subst hO; rfl)
/-! ### loop.example/g00100/impl.Names -/
def impl_Names.e (r : List ByteArray) : Res tab := (([], []), .one (.imm 9 r))
def impl_Names.l0 : Nat → (List ByteArray) → Int → Option (List ByteArray)
  | 0, _, _ => none
  | k + 1, r0, x_4 => (if x_4 < (r0.length : Int) then (if 0 ≤ x_4 then (if x_4 < (r0.length : Int) then ((impl_NameOk.f k (r0.getD (Int.toNat x_4) (⟨#[]⟩ : ByteArray))).bind fun r5 => (if r5 = true then (impl_Names.l0 k r0 (IntKind.wrap .i64 (x_4 + 1))) else (some ([] : List ByteArray)))) else none) else none) else (some r0))
def impl_Names.f (k : Nat) (a0 : ByteArray) : Option (List ByteArray) := (if 168 < (a0.size : Int) then (some ([] : List ByteArray)) else ((strings_Split.f a0 (⟨#[47]⟩ : ByteArray)).bind fun r0 => (if 8 < (r0.length : Int) then (some ([] : List ByteArray)) else (impl_Names.l0 k r0 0))))
theorem impl_Names.le (O : Prim) (hO : O = std) (k : Nat) (a0 : ByteArray) : Le F O M fi103.kills impl_Names.e (impl_Names.f k a0) (den O M fi103.kills fi103.fn fi103.body (tab.gives 103) (M 103) [.one (.lit (.string a0))] : Tr tab) := by
  refine Le.eqS 0 (by conv => lhs; cbv) ?_
  unfold impl_Names.f
  refine Le.condP 0 0 (by subst hO; rfl) (by conv => lhs; cbv) (by conv => lhs; cbv) ?_ ?_
  · exact Le.ret2 (by subst hO; rfl)
  · refine Le.extC 0 (fi := fi62) rfl (fun b hb => ⟨a0, (⟨#[47]⟩ : ByteArray), b, rfl, hb, rfl⟩) (by subst hO; rfl) (by intro r0; conv => lhs; cbv) ?_
    intro r0
    refine Le.condP 0 0 (by subst hO; rfl) (by conv => lhs; cbv) (by conv => lhs; cbv) ?_ ?_
    · exact Le.ret2 (by subst hO; rfl)
    · refine Le.loopS (fun (n : Nat) (v : Int) => impl_Names.l0 n r0 v) (fun (x_4 : Int) => (⟨[], [D_, D_, D_, .one (.imm 9 r0), D_, D_, D_, D_, D_, D_, D_, D_, D_, D_, .one (.imm 9 r0), .one (.lit (.int .i64 (O.len r0))), .one (.lit (.int .i64 x_4)), D_, D_, D_, D_, D_, D_, D_, D_], [[], [], [], [], [], [], [], [], [], [], [], [], [], [], [], [], [], [], [], [], [], [], [], [], [], []], []⟩ : S tab)) k 0 (by subst hO; rfl) rfl (fun _ => rfl) ?_
      intro n0 hn0 ih0 x_4
      refine Le.eqS 0 (by conv => lhs; cbv) ?_
      show Le F O M _ _ (impl_Names.l0 (n0 + 1) r0 x_4) _
      rw [impl_Names.l0]
      refine Le.condP 0 0 (by subst hO; rfl) (by conv => lhs; cbv) (by conv => lhs; cbv) ?_ ?_
      · refine Le.guardP 0 (by subst hO; rfl) (by conv => lhs; cbv) ?_
        refine Le.guardP 0 (by subst hO; rfl) (by conv => lhs; cbv) ?_
        refine Le.callC 0 (fi := fi122) rfl (impl_NameOk.le O hO n0 (O.get (⟨#[]⟩ : ByteArray) r0 x_4)) (by subst hO; rfl) (by intro r5; conv => lhs; cbv) ?_
        intro r5
        refine Le.condN 0 0 (by subst hO; exact Bool.decide_eq_true.trans (Bool.not_not _).symm) (by conv => lhs; cbv) (by conv => lhs; cbv) ?_ ?_
        · exact Le.ret2 (by subst hO; rfl)
        · exact Le.again (ih0 n0 (by omega) (O.wrap .i64 (O.add x_4 1))) (by subst hO; rfl) rfl
      · exact Le.ret2 (by subst hO; rfl)
/-! ### loop.example/g00100/impl.PathOk -/
def impl_PathOk.e (r : Bool) : Res tab := (([], []), .one (.lit (.bool r)))
def impl_PathOk.f (k : Nat) (a0 : ByteArray) : Option Bool := ((impl_Names.f k a0).bind fun r0 => (some (decide (0 < (r0.length : Int)))))
theorem impl_PathOk.le (O : Prim) (hO : O = std) (k : Nat) (a0 : ByteArray) : Le F O M fi69.kills impl_PathOk.e (impl_PathOk.f k a0) (den O M fi69.kills fi69.fn fi69.body (tab.gives 69) (M 69) [.one (.lit (.string a0))] : Tr tab) := by
  refine Le.eqS 0 (by conv => lhs; cbv) ?_
  unfold impl_PathOk.f
  refine Le.callC 0 (fi := fi103) rfl (impl_Names.le O hO k a0) (by subst hO; rfl) (by intro r0; conv => lhs; cbv) ?_
  intro r0
  exact Le.ret2 (by subst hO; rfl)
/-! ### loop.example/g00100/impl.NodeOk -/
def impl_NodeOk.e (r : Bool) : Res tab := (([], []), .one (.lit (.bool r)))
def impl_NodeOk.f (k : Nat) (a0 : GNode) : Option Bool := ((impl_PathOk.f k a0.Path).bind fun r0 => (if r0 = true then ((impl_within.f a0.Mode 0 511).bind fun r1 => (if r1 = true then ((impl_within.f a0.Time 0 1000000000).bind fun r2 => (if r2 = true then (if a0.Kind = 0 then (if a0.Data = (⟨#[]⟩ : ByteArray) then (if a0.Target = (⟨#[]⟩ : ByteArray) then (some (decide (a0.Group = 0))) else (some false)) else (some false)) else (if a0.Kind = 1 then (if (a0.Data.size : Int) ≤ 20000 then (if a0.Target = (⟨#[]⟩ : ByteArray) then ((impl_within.f a0.Group 0 200).bind fun r3 => (some r3)) else (some false)) else (some false)) else (if a0.Kind = 2 then (if a0.Data = (⟨#[]⟩ : ByteArray) then (if a0.Mode = 0 then (if a0.Group = 0 then ((impl_within.f (a0.Target.size : Int) 1 60).bind fun r4 => (if r4 = true then ((strings_Contains.f a0.Target (⟨#[10]⟩ : ByteArray)).bind fun r5 => (some (!r5))) else (some false))) else (some false)) else (some false)) else (some false)) else (some false)))) else (some false))) else (some false))) else (some false)))
theorem impl_NodeOk.le (O : Prim) (hO : O = std) (k : Nat) (a0 : GNode) : Le F O M fi37.kills impl_NodeOk.e (impl_NodeOk.f k a0) (den O M fi37.kills fi37.fn fi37.body (tab.gives 37) (M 37) [.agg [.lit (.string a0.Path), .lit (.int .i64 a0.Kind), .lit (.int .i64 a0.Mode), .lit (.int .i64 a0.Time), .lit (.string a0.Data), .lit (.string a0.Target), .lit (.int .i64 a0.Group)]] : Tr tab) := by
  refine Le.eqS 0 (by conv => lhs; cbv) ?_
  unfold impl_NodeOk.f
  refine Le.callC 0 (fi := fi69) rfl (impl_PathOk.le O hO k a0.Path) (by subst hO; rfl) (by intro r0; conv => lhs; cbv) ?_
  intro r0
  refine Le.condN 10 2 (by subst hO; exact Bool.decide_eq_true.trans (Bool.not_not _).symm) (by conv => lhs; cbv) (by conv => lhs; cbv) ?_ ?_
  · exact Le.ret2 (by subst hO; rfl)
  · refine Le.callC 2 (fi := fi70) rfl (impl_within.le O hO a0.Mode 0 511) (by subst hO; rfl) (by intro r1; conv => lhs; cbv) ?_
    intro r1
    refine Le.condN 5 2 (by subst hO; exact Bool.decide_eq_true.trans (Bool.not_not _).symm) (by conv => lhs; cbv) (by conv => lhs; cbv) ?_ ?_
    · exact Le.ret2 (by subst hO; rfl)
    · refine Le.callC 2 (fi := fi70) rfl (impl_within.le O hO a0.Time 0 1000000000) (by subst hO; rfl) (by intro r2; conv => lhs; cbv) ?_
      intro r2
      refine Le.condN 0 0 (by subst hO; exact Bool.decide_eq_true.trans (Bool.not_not _).symm) (by conv => lhs; cbv) (by conv => lhs; cbv) ?_ ?_
      · exact Le.ret2 (by subst hO; rfl)
      · refine Le.condP 0 0 (by subst hO; rfl) (by conv => lhs; cbv) (by conv => lhs; cbv) ?_ ?_
        · refine Le.condP 3 7 (by subst hO; exact seq_dec _ _) (by conv => lhs; cbv) (by conv => lhs; cbv) ?_ ?_
          · refine Le.condP 3 3 (by subst hO; exact seq_dec _ _) (by conv => lhs; cbv) (by conv => lhs; cbv) ?_ ?_
            · exact Le.ret2 (by subst hO; rfl)
            · exact Le.ret2 (by subst hO; rfl)
          · exact Le.ret2 (by subst hO; rfl)
        · refine Le.condP 0 0 (by subst hO; rfl) (by conv => lhs; cbv) (by conv => lhs; cbv) ?_ ?_
          · refine Le.condP 3 7 (by subst hO; rfl) (by conv => lhs; cbv) (by conv => lhs; cbv) ?_ ?_
            · refine Le.condP 2 3 (by subst hO; exact seq_dec _ _) (by conv => lhs; cbv) (by conv => lhs; cbv) ?_ ?_
              · refine Le.callC 1 (fi := fi70) rfl (impl_within.le O hO a0.Group 0 200) (by subst hO; rfl) (by intro r3; conv => lhs; cbv) ?_
                intro r3
                exact Le.ret2 (by subst hO; rfl)
              · exact Le.ret2 (by subst hO; rfl)
            · exact Le.ret2 (by subst hO; rfl)
          · refine Le.condP 0 0 (by subst hO; rfl) (by conv => lhs; cbv) (by conv => lhs; cbv) ?_ ?_
            · refine Le.condP 3 17 (by subst hO; exact seq_dec _ _) (by conv => lhs; cbv) (by conv => lhs; cbv) ?_ ?_
              · refine Le.condP 3 13 (by subst hO; rfl) (by conv => lhs; cbv) (by conv => lhs; cbv) ?_ ?_
                · refine Le.condP 3 9 (by subst hO; rfl) (by conv => lhs; cbv) (by conv => lhs; cbv) ?_ ?_
                  · refine Le.callC 1 (fi := fi70) rfl (impl_within.le O hO (O.ssize a0.Target) 1 60) (by subst hO; rfl) (by intro r4; conv => lhs; cbv) ?_
                    intro r4
                    refine Le.condP 2 4 (by subst hO; exact Bool.decide_eq_true) (by conv => lhs; cbv) (by conv => lhs; cbv) ?_ ?_
                    · refine Le.extC 2 (fi := fi71) rfl (fun b hb => ⟨a0.Target, (⟨#[10]⟩ : ByteArray), b, rfl, hb, rfl⟩) (by subst hO; rfl) (by intro r5; conv => lhs; cbv) ?_
                      intro r5
                      exact Le.ret2 (by subst hO; rfl)
                    · exact Le.ret2 (by subst hO; rfl)
                  · exact Le.ret2 (by subst hO; rfl)
                · exact Le.ret2 (by subst hO; rfl)
              · exact Le.ret2 (by subst hO; rfl)
            · exact Le.ret2 (by subst hO; rfl)
/-! ### loop.example/g00100/impl.isEntry -/
def impl_isEntry.e (r : Bool) : Res tab := (([], []), .one (.lit (.bool r)))
def impl_isEntry.f (k : Nat) (a0 : GEntry) : Option Bool := ((impl_NodeOk.f k (⟨a0.Path, a0.Kind, a0.Mode, a0.Time, (⟨#[]⟩ : ByteArray), a0.Target, a0.Group⟩ : GNode)).bind fun r0 => (if r0 = true then ((impl_within.f a0.Size 0 20000).bind fun r1 => (if r1 = true then (if a0.Kind = 1 then (some true) else (some (decide (a0.Size = 0)))) else (some false))) else (some false)))
theorem impl_isEntry.le (O : Prim) (hO : O = std) (k : Nat) (a0 : GEntry) : Le F O M fi49.kills impl_isEntry.e (impl_isEntry.f k a0) (den O M fi49.kills fi49.fn fi49.body (tab.gives 49) (M 49) [.agg [.lit (.string a0.Path), .lit (.int .i64 a0.Kind), .lit (.int .i64 a0.Mode), .lit (.int .i64 a0.Time), .lit (.int .i64 a0.Size), .lit (.string a0.Target), .lit (.int .i64 a0.Group)]] : Tr tab) := by
  refine Le.eqS 0 (by conv => lhs; cbv) ?_
  unfold impl_isEntry.f
  refine Le.callC 0 (fi := fi37) rfl (impl_NodeOk.le O hO k (⟨a0.Path, a0.Kind, a0.Mode, a0.Time, (⟨#[]⟩ : ByteArray), a0.Target, a0.Group⟩ : GNode)) (by subst hO; rfl) (by intro r0; conv => lhs; cbv) ?_
  intro r0
  refine Le.condP 2 9 (by subst hO; exact Bool.decide_eq_true) (by conv => lhs; cbv) (by conv => lhs; cbv) ?_ ?_
  · refine Le.callC 1 (fi := fi70) rfl (impl_within.le O hO a0.Size 0 20000) (by subst hO; rfl) (by intro r1; conv => lhs; cbv) ?_
    intro r1
    refine Le.condP 3 5 (by subst hO; exact Bool.decide_eq_true) (by conv => lhs; cbv) (by conv => lhs; cbv) ?_ ?_
    · refine Le.condP 5 5 (by subst hO; rfl) (by conv => lhs; cbv) (by conv => lhs; cbv) ?_ ?_
      · exact Le.ret2 (by subst hO; rfl)
      · exact Le.ret2 (by subst hO; rfl)
    · exact Le.ret2 (by subst hO; rfl)
  · exact Le.ret2 (by subst hO; rfl)
/-! ### loop.example/g00100/impl.EntriesOk -/
def impl_EntriesOk.e (r : Bool) : Res tab := (([], []), .one (.lit (.bool r)))
def impl_EntriesOk.l0 : Nat → (List GEntry) → Int → Option Bool
  | 0, _, _ => none
  | k + 1, a0, x_3 => (if x_3 < (a0.length : Int) then (if 0 ≤ x_3 then (if x_3 < (a0.length : Int) then ((impl_isEntry.f k (a0.getD (Int.toNat x_3) (⟨(⟨#[]⟩ : ByteArray), 0, 0, 0, 0, (⟨#[]⟩ : ByteArray), 0⟩ : GEntry))).bind fun r4 => (if r4 = true then (if 0 < x_3 then (if 0 ≤ (IntKind.wrap .i64 (x_3 - 1)) then (if (IntKind.wrap .i64 (x_3 - 1)) < (a0.length : Int) then (if (std.slt (a0.getD (Int.toNat (IntKind.wrap .i64 (x_3 - 1))) (⟨(⟨#[]⟩ : ByteArray), 0, 0, 0, 0, (⟨#[]⟩ : ByteArray), 0⟩ : GEntry)).Path (a0.getD (Int.toNat x_3) (⟨(⟨#[]⟩ : ByteArray), 0, 0, 0, 0, (⟨#[]⟩ : ByteArray), 0⟩ : GEntry)).Path) = true then (impl_EntriesOk.l0 k a0 (IntKind.wrap .i64 (x_3 + 1))) else (some false)) else none) else none) else (impl_EntriesOk.l0 k a0 (IntKind.wrap .i64 (x_3 + 1)))) else (some false))) else none) else none) else (some true))
def impl_EntriesOk.f (k : Nat) (a0 : List GEntry) : Option Bool := (if 200 < (a0.length : Int) then (some false) else (impl_EntriesOk.l0 k a0 0))
theorem impl_EntriesOk.le (O : Prim) (hO : O = std) (k : Nat) (a0 : List GEntry) : Le F O M fi24.kills impl_EntriesOk.e (impl_EntriesOk.f k a0) (den O M fi24.kills fi24.fn fi24.body (tab.gives 24) (M 24) [.one (.imm 42 a0)] : Tr tab) := by
  refine Le.eqS 0 (by conv => lhs; cbv) ?_
  unfold impl_EntriesOk.f
  refine Le.condP 0 0 (by subst hO; rfl) (by conv => lhs; cbv) (by conv => lhs; cbv) ?_ ?_
  · exact Le.ret2 (by subst hO; rfl)
  · refine Le.loopS (fun (n : Nat) (v : Int) => impl_EntriesOk.l0 n a0 v) (fun (x_3 : Int) => (⟨[], [.one (.imm 42 a0), D_, D_, D_, D_, D_, D_, D_, .one (.imm 42 a0), .one (.lit (.int .i64 (O.len a0))), .one (.lit (.int .i64 x_3)), D_, D_, D_, D_, D_, D_, D_, D_, D_, D_, D_, D_, D_, D_, D_, D_, D_, D_, D_, D_, D_, D_, D_], [[], [], [], [], [], [], [], [], [], [], [], [], [], [], [], [], [], [], [], [], [], [], [], [], [], [], [], [], [], [], [], [], [], [], []], []⟩ : S tab)) k 0 (by subst hO; rfl) rfl (fun _ => rfl) ?_
    intro n0 hn0 ih0 x_3
    refine Le.eqS 0 (by conv => lhs; cbv) ?_
    show Le F O M _ _ (impl_EntriesOk.l0 (n0 + 1) a0 x_3) _
    rw [impl_EntriesOk.l0]
    refine Le.condP 0 0 (by subst hO; rfl) (by conv => lhs; cbv) (by conv => lhs; cbv) ?_ ?_
    · refine Le.guardP 0 (by subst hO; rfl) (by conv => lhs; cbv) ?_
      refine Le.guardP 0 (by subst hO; rfl) (by conv => lhs; cbv) ?_
      refine Le.callC 0 (fi := fi49) rfl (impl_isEntry.le O hO n0 (O.get (⟨(⟨#[]⟩ : ByteArray), 0, 0, 0, 0, (⟨#[]⟩ : ByteArray), 0⟩ : GEntry) a0 x_3)) (by subst hO; rfl) (by intro r4; conv => lhs; cbv) ?_
      intro r4
      refine Le.condN 5 2 (by subst hO; exact Bool.decide_eq_true.trans (Bool.not_not _).symm) (by conv => lhs; cbv) (by conv => lhs; cbv) ?_ ?_
      · exact Le.ret2 (by subst hO; rfl)
      · refine Le.condP 3 12 (by subst hO; rfl) (by conv => lhs; cbv) (by conv => lhs; cbv) ?_ ?_
        · refine Le.guardP 0 (by subst hO; rfl) (by conv => lhs; cbv) ?_
          refine Le.guardP 8 (by subst hO; rfl) (by conv => lhs; cbv) ?_
          refine Le.condN 0 0 (by subst hO; exact Bool.decide_eq_true.trans (Bool.not_not _).symm) (by conv => lhs; cbv) (by conv => lhs; cbv) ?_ ?_
          · exact Le.ret2 (by subst hO; rfl)
          · exact Le.again (ih0 n0 (by omega) (O.wrap .i64 (O.add x_3 1))) (by subst hO; rfl) rfl
        · exact Le.again (ih0 n0 (by omega) (O.wrap .i64 (O.add x_3 1))) (by subst hO; rfl) rfl
    · exact Le.ret2 (by subst hO; rfl)
/-! ### loop.example/g00100/impl.varText -/
def impl_varText.e (r : ByteArray) : Res tab := (([], []), .one (.lit (.string r)))
def impl_varText.l0 : Nat → Int → ByteArray → Option ByteArray
  | 0, _, _ => none
  | k + 1, x_2, x_3 => (if 127 < x_2 then (if 0 ≤ (std.bits .or .u8 (IntKind.wrap .u8 (std.bits .and .i64 x_2 127)) 128) then (if (std.bits .or .u8 (IntKind.wrap .u8 (std.bits .and .i64 x_2 127)) 128) ≤ 255 then (if (x_3.size : Int) < 140737488355328 then (if 0 ≤ 7 then (impl_varText.l0 k (std.shr .i64 x_2 7) (x_3 ++ (std.strOf [(std.bits .or .u8 (IntKind.wrap .u8 (std.bits .and .i64 x_2 127)) 128)]))) else none) else none) else none) else none) else (if 0 ≤ (IntKind.wrap .u8 x_2) then (if (IntKind.wrap .u8 x_2) ≤ 255 then (if (x_3.size : Int) < 140737488355328 then (some (x_3 ++ (std.strOf [(IntKind.wrap .u8 x_2)]))) else none) else none) else none))
def impl_varText.f (k : Nat) (a0 : Int) : Option ByteArray := (impl_varText.l0 k a0 (⟨#[]⟩ : ByteArray))
theorem impl_varText.le (O : Prim) (hO : O = std) (k : Nat) (a0 : Int) : Le F O M fi80.kills impl_varText.e (impl_varText.f k a0) (den O M fi80.kills fi80.fn fi80.body (tab.gives 80) (M 80) [.one (.lit (.int .i64 a0))] : Tr tab) := by
  refine Le.eqS 0 (by conv => lhs; cbv) ?_
  unfold impl_varText.f
  refine Le.loopS (fun (n : Nat) (v : Int × ByteArray) => impl_varText.l0 n v.1 v.2) (fun (v : Int × ByteArray) => match v with | (x_2, x_3) => (⟨[], [.one (.lit (.int .i64 x_2)), D_, D_, .one (.bld x_3), D_, D_, D_, D_, D_, D_, D_, D_, D_, D_, D_, D_, D_], [[], [], [], [], [], [], [], [], [], [], [], [], [], [], [], [], [], []], []⟩ : S tab)) k (a0, (⟨#[]⟩ : ByteArray)) (by subst hO; rfl) rfl (fun _ => rfl) ?_
  intro n0 hn0 ih0 v0
  obtain ⟨x_2, x_3⟩ := v0
  refine Le.eqS 0 (by conv => lhs; cbv) ?_
  show Le F O M _ _ (impl_varText.l0 (n0 + 1) x_2 x_3) _
  rw [impl_varText.l0]
  refine Le.condP 0 0 (by subst hO; rfl) (by conv => lhs; cbv) (by conv => lhs; cbv) ?_ ?_
  · refine Le.guardP 0 (by subst hO; rfl) (by conv => lhs; cbv) ?_
    refine Le.guardP 0 (by subst hO; rfl) (by conv => lhs; cbv) ?_
    refine Le.guardP 0 (by subst hO; rfl) (by conv => lhs; cbv) ?_
    refine Le.guardP 0 (by subst hO; rfl) (by conv => lhs; cbv) ?_
    exact Le.again (ih0 n0 (by omega) ((O.shr .i64 x_2 7), (O.scat x_3 (O.strOf [(O.bits .or .u8 (O.wrap .u8 (O.bits .and .i64 x_2 127)) 128)])))) (by subst hO; rfl) rfl
  · refine Le.guardP 0 (by subst hO; rfl) (by conv => lhs; cbv) ?_
    refine Le.guardP 0 (by subst hO; rfl) (by conv => lhs; cbv) ?_
    refine Le.guardP 0 (by subst hO; rfl) (by conv => lhs; cbv) ?_
    exact Le.ret2 (by subst hO; rfl)
/-! ### loop.example/g00100/impl.common -/
def impl_common.e (r : Int) : Res tab := (([], []), .one (.lit (.int .i64 r)))
def impl_common.l0 : Nat → ByteArray → ByteArray → Int → Option Int
  | 0, _, _, _ => none
  | k + 1, a0, a1, x_1 => (if x_1 < (a0.size : Int) then (if x_1 < (a1.size : Int) then (if 0 ≤ x_1 then (if x_1 < (a0.size : Int) then (if 0 ≤ x_1 then (if x_1 < (a1.size : Int) then (if (std.sget a0 x_1) = (std.sget a1 x_1) then (impl_common.l0 k a0 a1 (IntKind.wrap .i64 (x_1 + 1))) else (some x_1)) else none) else none) else none) else none) else (some x_1)) else (some x_1))
def impl_common.f (k : Nat) (a0 : ByteArray) (a1 : ByteArray) : Option Int := (impl_common.l0 k a0 a1 0)
theorem impl_common.le (O : Prim) (hO : O = std) (k : Nat) (a0 : ByteArray) (a1 : ByteArray) : Le F O M fi81.kills impl_common.e (impl_common.f k a0 a1) (den O M fi81.kills fi81.fn fi81.body (tab.gives 81) (M 81) [.one (.lit (.string a0)), .one (.lit (.string a1))] : Tr tab) := by
  refine Le.eqS 0 (by conv => lhs; cbv) ?_
  unfold impl_common.f
  refine Le.loopS (fun (n : Nat) (v : Int) => impl_common.l0 n a0 a1 v) (fun (x_1 : Int) => (⟨[], [.one (.lit (.string a0)), .one (.lit (.string a1)), D_, D_, D_, .one (.lit (.int .i64 x_1)), D_, D_, D_, D_, D_, D_, D_, D_, D_, D_, D_, D_, D_, D_, D_, D_, D_, D_, D_, D_, D_, D_], [[], [], [], [], [], [], [], [], [], [], [], [], [], [], [], [], [], [], [], [], [], [], [], [], [], [], [], [], [], []], []⟩ : S tab)) k 0 (by subst hO; rfl) rfl (fun _ => rfl) ?_
  intro n0 hn0 ih0 x_1
  refine Le.eqS 0 (by conv => lhs; cbv) ?_
  show Le F O M _ _ (impl_common.l0 (n0 + 1) a0 a1 x_1) _
  rw [impl_common.l0]
  refine Le.condP 4 13 (by subst hO; rfl) (by conv => lhs; cbv) (by conv => lhs; cbv) ?_ ?_
  · refine Le.condP 2 8 (by subst hO; rfl) (by conv => lhs; cbv) (by conv => lhs; cbv) ?_ ?_
    · refine Le.guardP 0 (by subst hO; rfl) (by conv => lhs; cbv) ?_
      refine Le.guardP 3 (by subst hO; rfl) (by conv => lhs; cbv) ?_
      refine Le.guardP 0 (by subst hO; rfl) (by conv => lhs; cbv) ?_
      refine Le.guardP 2 (by subst hO; rfl) (by conv => lhs; cbv) ?_
      refine Le.condP 0 0 (by subst hO; rfl) (by conv => lhs; cbv) (by conv => lhs; cbv) ?_ ?_
      · exact Le.again (ih0 n0 (by omega) (O.wrap .i64 (O.add x_1 1))) (by subst hO; rfl) rfl
      · exact Le.ret2 (by subst hO; rfl)
    · exact Le.ret2 (by subst hO; rfl)
  · exact Le.ret2 (by subst hO; rfl)
/-! ### loop.example/g00100/impl.putText -/
def impl_putText.e (r : ByteArray) : Res tab := (([], []), .one (.lit (.string r)))
def impl_putText.f (k : Nat) (a0 : ByteArray) : Option ByteArray := ((impl_varText.f k (a0.size : Int)).bind fun r0 => (if ((r0.size : Int) + (a0.size : Int)) ≤ 140737488351232 then (some (r0 ++ a0)) else none))
theorem impl_putText.le (O : Prim) (hO : O = std) (k : Nat) (a0 : ByteArray) : Le F O M fi82.kills impl_putText.e (impl_putText.f k a0) (den O M fi82.kills fi82.fn fi82.body (tab.gives 82) (M 82) [.one (.lit (.string a0))] : Tr tab) := by
  refine Le.eqS 0 (by conv => lhs; cbv) ?_
  unfold impl_putText.f
  refine Le.callC 0 (fi := fi80) rfl (impl_varText.le O hO k (O.ssize a0)) (by subst hO; rfl) (by intro r0; conv => lhs; cbv) ?_
  intro r0
  refine Le.guardP 0 (by subst hO; rfl) (by conv => lhs; cbv) ?_
  exact Le.ret2 (by subst hO; rfl)
/-! ### loop.example/g00100/impl.entriesText -/
def impl_entriesText.e (r : ByteArray) : Res tab := (([], []), .one (.lit (.string r)))
def impl_entriesText.l0 : Nat → (List GEntry) → ByteArray → Int → ByteArray → Int → Int → Int → Int → ByteArray → Int → Option ByteArray
  | 0, _, _, _, _, _, _, _, _, _, _ => none
  | k + 1, a0, x_60, x_61, b_62, b_63, b_64, b_65, b_66, b_67, b_68 => (if x_61 < (a0.length : Int) then (if 0 ≤ x_61 then (if x_61 < (a0.length : Int) then ((impl_common.f k b_62 (a0.getD (Int.toNat x_61) (⟨(⟨#[]⟩ : ByteArray), 0, 0, 0, 0, (⟨#[]⟩ : ByteArray), 0⟩ : GEntry)).Path).bind fun r69 => (if 0 ≤ r69 then (if r69 ≤ ((a0.getD (Int.toNat x_61) (⟨(⟨#[]⟩ : ByteArray), 0, 0, 0, 0, (⟨#[]⟩ : ByteArray), 0⟩ : GEntry)).Path.size : Int) then (if ((a0.getD (Int.toNat x_61) (⟨(⟨#[]⟩ : ByteArray), 0, 0, 0, 0, (⟨#[]⟩ : ByteArray), 0⟩ : GEntry)).Path.size : Int) ≤ ((a0.getD (Int.toNat x_61) (⟨(⟨#[]⟩ : ByteArray), 0, 0, 0, 0, (⟨#[]⟩ : ByteArray), 0⟩ : GEntry)).Path.size : Int) then ((impl_varText.f k r69).bind fun r70 => ((impl_putText.f k ((a0.getD (Int.toNat x_61) (⟨(⟨#[]⟩ : ByteArray), 0, 0, 0, 0, (⟨#[]⟩ : ByteArray), 0⟩ : GEntry)).Path.extract (Int.toNat r69) (Int.toNat ((a0.getD (Int.toNat x_61) (⟨(⟨#[]⟩ : ByteArray), 0, 0, 0, 0, (⟨#[]⟩ : ByteArray), 0⟩ : GEntry)).Path.size : Int)))).bind fun r71 => (if ((r70.size : Int) + (r71.size : Int)) ≤ 140737488351232 then (if ((x_60.size : Int) + ((r70 ++ r71).size : Int)) ≤ 140737488355328 then (if 0 < x_61 then (if (a0.getD (Int.toNat x_61) (⟨(⟨#[]⟩ : ByteArray), 0, 0, 0, 0, (⟨#[]⟩ : ByteArray), 0⟩ : GEntry)).Mode = b_64 then (if (a0.getD (Int.toNat x_61) (⟨(⟨#[]⟩ : ByteArray), 0, 0, 0, 0, (⟨#[]⟩ : ByteArray), 0⟩ : GEntry)).Time = b_65 then ((impl_varText.f k (IntKind.wrap .i64 ((a0.getD (Int.toNat x_61) (⟨(⟨#[]⟩ : ByteArray), 0, 0, 0, 0, (⟨#[]⟩ : ByteArray), 0⟩ : GEntry)).Kind + 4))).bind fun r72 => (if (((x_60 ++ (r70 ++ r71)).size : Int) + (r72.size : Int)) ≤ 140737488355328 then (if (a0.getD (Int.toNat x_61) (⟨(⟨#[]⟩ : ByteArray), 0, 0, 0, 0, (⟨#[]⟩ : ByteArray), 0⟩ : GEntry)).Kind = 1 then ((impl_varText.f k (a0.getD (Int.toNat x_61) (⟨(⟨#[]⟩ : ByteArray), 0, 0, 0, 0, (⟨#[]⟩ : ByteArray), 0⟩ : GEntry)).Size).bind fun r73 => ((impl_varText.f k (a0.getD (Int.toNat x_61) (⟨(⟨#[]⟩ : ByteArray), 0, 0, 0, 0, (⟨#[]⟩ : ByteArray), 0⟩ : GEntry)).Group).bind fun r74 => (if ((r73.size : Int) + (r74.size : Int)) ≤ 140737488351232 then (if ((((x_60 ++ (r70 ++ r71)) ++ r72).size : Int) + ((r73 ++ r74).size : Int)) ≤ 140737488355328 then (impl_entriesText.l0 k a0 (((x_60 ++ (r70 ++ r71)) ++ r72) ++ (r73 ++ r74)) (IntKind.wrap .i64 (x_61 + 1)) (a0.getD (Int.toNat x_61) (⟨(⟨#[]⟩ : ByteArray), 0, 0, 0, 0, (⟨#[]⟩ : ByteArray), 0⟩ : GEntry)).Path (a0.getD (Int.toNat x_61) (⟨(⟨#[]⟩ : ByteArray), 0, 0, 0, 0, (⟨#[]⟩ : ByteArray), 0⟩ : GEntry)).Kind (a0.getD (Int.toNat x_61) (⟨(⟨#[]⟩ : ByteArray), 0, 0, 0, 0, (⟨#[]⟩ : ByteArray), 0⟩ : GEntry)).Mode (a0.getD (Int.toNat x_61) (⟨(⟨#[]⟩ : ByteArray), 0, 0, 0, 0, (⟨#[]⟩ : ByteArray), 0⟩ : GEntry)).Time (a0.getD (Int.toNat x_61) (⟨(⟨#[]⟩ : ByteArray), 0, 0, 0, 0, (⟨#[]⟩ : ByteArray), 0⟩ : GEntry)).Size (a0.getD (Int.toNat x_61) (⟨(⟨#[]⟩ : ByteArray), 0, 0, 0, 0, (⟨#[]⟩ : ByteArray), 0⟩ : GEntry)).Target (a0.getD (Int.toNat x_61) (⟨(⟨#[]⟩ : ByteArray), 0, 0, 0, 0, (⟨#[]⟩ : ByteArray), 0⟩ : GEntry)).Group) else none) else none))) else (if (a0.getD (Int.toNat x_61) (⟨(⟨#[]⟩ : ByteArray), 0, 0, 0, 0, (⟨#[]⟩ : ByteArray), 0⟩ : GEntry)).Kind = 2 then ((impl_putText.f k (a0.getD (Int.toNat x_61) (⟨(⟨#[]⟩ : ByteArray), 0, 0, 0, 0, (⟨#[]⟩ : ByteArray), 0⟩ : GEntry)).Target).bind fun r75 => (if ((((x_60 ++ (r70 ++ r71)) ++ r72).size : Int) + (r75.size : Int)) ≤ 140737488355328 then (impl_entriesText.l0 k a0 (((x_60 ++ (r70 ++ r71)) ++ r72) ++ r75) (IntKind.wrap .i64 (x_61 + 1)) (a0.getD (Int.toNat x_61) (⟨(⟨#[]⟩ : ByteArray), 0, 0, 0, 0, (⟨#[]⟩ : ByteArray), 0⟩ : GEntry)).Path (a0.getD (Int.toNat x_61) (⟨(⟨#[]⟩ : ByteArray), 0, 0, 0, 0, (⟨#[]⟩ : ByteArray), 0⟩ : GEntry)).Kind (a0.getD (Int.toNat x_61) (⟨(⟨#[]⟩ : ByteArray), 0, 0, 0, 0, (⟨#[]⟩ : ByteArray), 0⟩ : GEntry)).Mode (a0.getD (Int.toNat x_61) (⟨(⟨#[]⟩ : ByteArray), 0, 0, 0, 0, (⟨#[]⟩ : ByteArray), 0⟩ : GEntry)).Time (a0.getD (Int.toNat x_61) (⟨(⟨#[]⟩ : ByteArray), 0, 0, 0, 0, (⟨#[]⟩ : ByteArray), 0⟩ : GEntry)).Size (a0.getD (Int.toNat x_61) (⟨(⟨#[]⟩ : ByteArray), 0, 0, 0, 0, (⟨#[]⟩ : ByteArray), 0⟩ : GEntry)).Target (a0.getD (Int.toNat x_61) (⟨(⟨#[]⟩ : ByteArray), 0, 0, 0, 0, (⟨#[]⟩ : ByteArray), 0⟩ : GEntry)).Group) else none)) else (impl_entriesText.l0 k a0 ((x_60 ++ (r70 ++ r71)) ++ r72) (IntKind.wrap .i64 (x_61 + 1)) (a0.getD (Int.toNat x_61) (⟨(⟨#[]⟩ : ByteArray), 0, 0, 0, 0, (⟨#[]⟩ : ByteArray), 0⟩ : GEntry)).Path (a0.getD (Int.toNat x_61) (⟨(⟨#[]⟩ : ByteArray), 0, 0, 0, 0, (⟨#[]⟩ : ByteArray), 0⟩ : GEntry)).Kind (a0.getD (Int.toNat x_61) (⟨(⟨#[]⟩ : ByteArray), 0, 0, 0, 0, (⟨#[]⟩ : ByteArray), 0⟩ : GEntry)).Mode (a0.getD (Int.toNat x_61) (⟨(⟨#[]⟩ : ByteArray), 0, 0, 0, 0, (⟨#[]⟩ : ByteArray), 0⟩ : GEntry)).Time (a0.getD (Int.toNat x_61) (⟨(⟨#[]⟩ : ByteArray), 0, 0, 0, 0, (⟨#[]⟩ : ByteArray), 0⟩ : GEntry)).Size (a0.getD (Int.toNat x_61) (⟨(⟨#[]⟩ : ByteArray), 0, 0, 0, 0, (⟨#[]⟩ : ByteArray), 0⟩ : GEntry)).Target (a0.getD (Int.toNat x_61) (⟨(⟨#[]⟩ : ByteArray), 0, 0, 0, 0, (⟨#[]⟩ : ByteArray), 0⟩ : GEntry)).Group))) else none)) else ((impl_varText.f k (a0.getD (Int.toNat x_61) (⟨(⟨#[]⟩ : ByteArray), 0, 0, 0, 0, (⟨#[]⟩ : ByteArray), 0⟩ : GEntry)).Kind).bind fun r76 => ((impl_varText.f k (a0.getD (Int.toNat x_61) (⟨(⟨#[]⟩ : ByteArray), 0, 0, 0, 0, (⟨#[]⟩ : ByteArray), 0⟩ : GEntry)).Mode).bind fun r77 => (if ((r76.size : Int) + (r77.size : Int)) ≤ 140737488351232 then ((impl_varText.f k (a0.getD (Int.toNat x_61) (⟨(⟨#[]⟩ : ByteArray), 0, 0, 0, 0, (⟨#[]⟩ : ByteArray), 0⟩ : GEntry)).Time).bind fun r78 => (if (((r76 ++ r77).size : Int) + (r78.size : Int)) ≤ 140737488351232 then (if (((x_60 ++ (r70 ++ r71)).size : Int) + (((r76 ++ r77) ++ r78).size : Int)) ≤ 140737488355328 then (if (a0.getD (Int.toNat x_61) (⟨(⟨#[]⟩ : ByteArray), 0, 0, 0, 0, (⟨#[]⟩ : ByteArray), 0⟩ : GEntry)).Kind = 1 then ((impl_varText.f k (a0.getD (Int.toNat x_61) (⟨(⟨#[]⟩ : ByteArray), 0, 0, 0, 0, (⟨#[]⟩ : ByteArray), 0⟩ : GEntry)).Size).bind fun r79 => ((impl_varText.f k (a0.getD (Int.toNat x_61) (⟨(⟨#[]⟩ : ByteArray), 0, 0, 0, 0, (⟨#[]⟩ : ByteArray), 0⟩ : GEntry)).Group).bind fun r80 => (if ((r79.size : Int) + (r80.size : Int)) ≤ 140737488351232 then (if ((((x_60 ++ (r70 ++ r71)) ++ ((r76 ++ r77) ++ r78)).size : Int) + ((r79 ++ r80).size : Int)) ≤ 140737488355328 then (impl_entriesText.l0 k a0 (((x_60 ++ (r70 ++ r71)) ++ ((r76 ++ r77) ++ r78)) ++ (r79 ++ r80)) (IntKind.wrap .i64 (x_61 + 1)) (a0.getD (Int.toNat x_61) (⟨(⟨#[]⟩ : ByteArray), 0, 0, 0, 0, (⟨#[]⟩ : ByteArray), 0⟩ : GEntry)).Path (a0.getD (Int.toNat x_61) (⟨(⟨#[]⟩ : ByteArray), 0, 0, 0, 0, (⟨#[]⟩ : ByteArray), 0⟩ : GEntry)).Kind (a0.getD (Int.toNat x_61) (⟨(⟨#[]⟩ : ByteArray), 0, 0, 0, 0, (⟨#[]⟩ : ByteArray), 0⟩ : GEntry)).Mode (a0.getD (Int.toNat x_61) (⟨(⟨#[]⟩ : ByteArray), 0, 0, 0, 0, (⟨#[]⟩ : ByteArray), 0⟩ : GEntry)).Time (a0.getD (Int.toNat x_61) (⟨(⟨#[]⟩ : ByteArray), 0, 0, 0, 0, (⟨#[]⟩ : ByteArray), 0⟩ : GEntry)).Size (a0.getD (Int.toNat x_61) (⟨(⟨#[]⟩ : ByteArray), 0, 0, 0, 0, (⟨#[]⟩ : ByteArray), 0⟩ : GEntry)).Target (a0.getD (Int.toNat x_61) (⟨(⟨#[]⟩ : ByteArray), 0, 0, 0, 0, (⟨#[]⟩ : ByteArray), 0⟩ : GEntry)).Group) else none) else none))) else (if (a0.getD (Int.toNat x_61) (⟨(⟨#[]⟩ : ByteArray), 0, 0, 0, 0, (⟨#[]⟩ : ByteArray), 0⟩ : GEntry)).Kind = 2 then ((impl_putText.f k (a0.getD (Int.toNat x_61) (⟨(⟨#[]⟩ : ByteArray), 0, 0, 0, 0, (⟨#[]⟩ : ByteArray), 0⟩ : GEntry)).Target).bind fun r81 => (if ((((x_60 ++ (r70 ++ r71)) ++ ((r76 ++ r77) ++ r78)).size : Int) + (r81.size : Int)) ≤ 140737488355328 then (impl_entriesText.l0 k a0 (((x_60 ++ (r70 ++ r71)) ++ ((r76 ++ r77) ++ r78)) ++ r81) (IntKind.wrap .i64 (x_61 + 1)) (a0.getD (Int.toNat x_61) (⟨(⟨#[]⟩ : ByteArray), 0, 0, 0, 0, (⟨#[]⟩ : ByteArray), 0⟩ : GEntry)).Path (a0.getD (Int.toNat x_61) (⟨(⟨#[]⟩ : ByteArray), 0, 0, 0, 0, (⟨#[]⟩ : ByteArray), 0⟩ : GEntry)).Kind (a0.getD (Int.toNat x_61) (⟨(⟨#[]⟩ : ByteArray), 0, 0, 0, 0, (⟨#[]⟩ : ByteArray), 0⟩ : GEntry)).Mode (a0.getD (Int.toNat x_61) (⟨(⟨#[]⟩ : ByteArray), 0, 0, 0, 0, (⟨#[]⟩ : ByteArray), 0⟩ : GEntry)).Time (a0.getD (Int.toNat x_61) (⟨(⟨#[]⟩ : ByteArray), 0, 0, 0, 0, (⟨#[]⟩ : ByteArray), 0⟩ : GEntry)).Size (a0.getD (Int.toNat x_61) (⟨(⟨#[]⟩ : ByteArray), 0, 0, 0, 0, (⟨#[]⟩ : ByteArray), 0⟩ : GEntry)).Target (a0.getD (Int.toNat x_61) (⟨(⟨#[]⟩ : ByteArray), 0, 0, 0, 0, (⟨#[]⟩ : ByteArray), 0⟩ : GEntry)).Group) else none)) else (impl_entriesText.l0 k a0 ((x_60 ++ (r70 ++ r71)) ++ ((r76 ++ r77) ++ r78)) (IntKind.wrap .i64 (x_61 + 1)) (a0.getD (Int.toNat x_61) (⟨(⟨#[]⟩ : ByteArray), 0, 0, 0, 0, (⟨#[]⟩ : ByteArray), 0⟩ : GEntry)).Path (a0.getD (Int.toNat x_61) (⟨(⟨#[]⟩ : ByteArray), 0, 0, 0, 0, (⟨#[]⟩ : ByteArray), 0⟩ : GEntry)).Kind (a0.getD (Int.toNat x_61) (⟨(⟨#[]⟩ : ByteArray), 0, 0, 0, 0, (⟨#[]⟩ : ByteArray), 0⟩ : GEntry)).Mode (a0.getD (Int.toNat x_61) (⟨(⟨#[]⟩ : ByteArray), 0, 0, 0, 0, (⟨#[]⟩ : ByteArray), 0⟩ : GEntry)).Time (a0.getD (Int.toNat x_61) (⟨(⟨#[]⟩ : ByteArray), 0, 0, 0, 0, (⟨#[]⟩ : ByteArray), 0⟩ : GEntry)).Size (a0.getD (Int.toNat x_61) (⟨(⟨#[]⟩ : ByteArray), 0, 0, 0, 0, (⟨#[]⟩ : ByteArray), 0⟩ : GEntry)).Target (a0.getD (Int.toNat x_61) (⟨(⟨#[]⟩ : ByteArray), 0, 0, 0, 0, (⟨#[]⟩ : ByteArray), 0⟩ : GEntry)).Group))) else none) else none)) else none)))) else ((impl_varText.f k (a0.getD (Int.toNat x_61) (⟨(⟨#[]⟩ : ByteArray), 0, 0, 0, 0, (⟨#[]⟩ : ByteArray), 0⟩ : GEntry)).Kind).bind fun r82 => ((impl_varText.f k (a0.getD (Int.toNat x_61) (⟨(⟨#[]⟩ : ByteArray), 0, 0, 0, 0, (⟨#[]⟩ : ByteArray), 0⟩ : GEntry)).Mode).bind fun r83 => (if ((r82.size : Int) + (r83.size : Int)) ≤ 140737488351232 then ((impl_varText.f k (a0.getD (Int.toNat x_61) (⟨(⟨#[]⟩ : ByteArray), 0, 0, 0, 0, (⟨#[]⟩ : ByteArray), 0⟩ : GEntry)).Time).bind fun r84 => (if (((r82 ++ r83).size : Int) + (r84.size : Int)) ≤ 140737488351232 then (if (((x_60 ++ (r70 ++ r71)).size : Int) + (((r82 ++ r83) ++ r84).size : Int)) ≤ 140737488355328 then (if (a0.getD (Int.toNat x_61) (⟨(⟨#[]⟩ : ByteArray), 0, 0, 0, 0, (⟨#[]⟩ : ByteArray), 0⟩ : GEntry)).Kind = 1 then ((impl_varText.f k (a0.getD (Int.toNat x_61) (⟨(⟨#[]⟩ : ByteArray), 0, 0, 0, 0, (⟨#[]⟩ : ByteArray), 0⟩ : GEntry)).Size).bind fun r85 => ((impl_varText.f k (a0.getD (Int.toNat x_61) (⟨(⟨#[]⟩ : ByteArray), 0, 0, 0, 0, (⟨#[]⟩ : ByteArray), 0⟩ : GEntry)).Group).bind fun r86 => (if ((r85.size : Int) + (r86.size : Int)) ≤ 140737488351232 then (if ((((x_60 ++ (r70 ++ r71)) ++ ((r82 ++ r83) ++ r84)).size : Int) + ((r85 ++ r86).size : Int)) ≤ 140737488355328 then (impl_entriesText.l0 k a0 (((x_60 ++ (r70 ++ r71)) ++ ((r82 ++ r83) ++ r84)) ++ (r85 ++ r86)) (IntKind.wrap .i64 (x_61 + 1)) (a0.getD (Int.toNat x_61) (⟨(⟨#[]⟩ : ByteArray), 0, 0, 0, 0, (⟨#[]⟩ : ByteArray), 0⟩ : GEntry)).Path (a0.getD (Int.toNat x_61) (⟨(⟨#[]⟩ : ByteArray), 0, 0, 0, 0, (⟨#[]⟩ : ByteArray), 0⟩ : GEntry)).Kind (a0.getD (Int.toNat x_61) (⟨(⟨#[]⟩ : ByteArray), 0, 0, 0, 0, (⟨#[]⟩ : ByteArray), 0⟩ : GEntry)).Mode (a0.getD (Int.toNat x_61) (⟨(⟨#[]⟩ : ByteArray), 0, 0, 0, 0, (⟨#[]⟩ : ByteArray), 0⟩ : GEntry)).Time (a0.getD (Int.toNat x_61) (⟨(⟨#[]⟩ : ByteArray), 0, 0, 0, 0, (⟨#[]⟩ : ByteArray), 0⟩ : GEntry)).Size (a0.getD (Int.toNat x_61) (⟨(⟨#[]⟩ : ByteArray), 0, 0, 0, 0, (⟨#[]⟩ : ByteArray), 0⟩ : GEntry)).Target (a0.getD (Int.toNat x_61) (⟨(⟨#[]⟩ : ByteArray), 0, 0, 0, 0, (⟨#[]⟩ : ByteArray), 0⟩ : GEntry)).Group) else none) else none))) else (if (a0.getD (Int.toNat x_61) (⟨(⟨#[]⟩ : ByteArray), 0, 0, 0, 0, (⟨#[]⟩ : ByteArray), 0⟩ : GEntry)).Kind = 2 then ((impl_putText.f k (a0.getD (Int.toNat x_61) (⟨(⟨#[]⟩ : ByteArray), 0, 0, 0, 0, (⟨#[]⟩ : ByteArray), 0⟩ : GEntry)).Target).bind fun r87 => (if ((((x_60 ++ (r70 ++ r71)) ++ ((r82 ++ r83) ++ r84)).size : Int) + (r87.size : Int)) ≤ 140737488355328 then (impl_entriesText.l0 k a0 (((x_60 ++ (r70 ++ r71)) ++ ((r82 ++ r83) ++ r84)) ++ r87) (IntKind.wrap .i64 (x_61 + 1)) (a0.getD (Int.toNat x_61) (⟨(⟨#[]⟩ : ByteArray), 0, 0, 0, 0, (⟨#[]⟩ : ByteArray), 0⟩ : GEntry)).Path (a0.getD (Int.toNat x_61) (⟨(⟨#[]⟩ : ByteArray), 0, 0, 0, 0, (⟨#[]⟩ : ByteArray), 0⟩ : GEntry)).Kind (a0.getD (Int.toNat x_61) (⟨(⟨#[]⟩ : ByteArray), 0, 0, 0, 0, (⟨#[]⟩ : ByteArray), 0⟩ : GEntry)).Mode (a0.getD (Int.toNat x_61) (⟨(⟨#[]⟩ : ByteArray), 0, 0, 0, 0, (⟨#[]⟩ : ByteArray), 0⟩ : GEntry)).Time (a0.getD (Int.toNat x_61) (⟨(⟨#[]⟩ : ByteArray), 0, 0, 0, 0, (⟨#[]⟩ : ByteArray), 0⟩ : GEntry)).Size (a0.getD (Int.toNat x_61) (⟨(⟨#[]⟩ : ByteArray), 0, 0, 0, 0, (⟨#[]⟩ : ByteArray), 0⟩ : GEntry)).Target (a0.getD (Int.toNat x_61) (⟨(⟨#[]⟩ : ByteArray), 0, 0, 0, 0, (⟨#[]⟩ : ByteArray), 0⟩ : GEntry)).Group) else none)) else (impl_entriesText.l0 k a0 ((x_60 ++ (r70 ++ r71)) ++ ((r82 ++ r83) ++ r84)) (IntKind.wrap .i64 (x_61 + 1)) (a0.getD (Int.toNat x_61) (⟨(⟨#[]⟩ : ByteArray), 0, 0, 0, 0, (⟨#[]⟩ : ByteArray), 0⟩ : GEntry)).Path (a0.getD (Int.toNat x_61) (⟨(⟨#[]⟩ : ByteArray), 0, 0, 0, 0, (⟨#[]⟩ : ByteArray), 0⟩ : GEntry)).Kind (a0.getD (Int.toNat x_61) (⟨(⟨#[]⟩ : ByteArray), 0, 0, 0, 0, (⟨#[]⟩ : ByteArray), 0⟩ : GEntry)).Mode (a0.getD (Int.toNat x_61) (⟨(⟨#[]⟩ : ByteArray), 0, 0, 0, 0, (⟨#[]⟩ : ByteArray), 0⟩ : GEntry)).Time (a0.getD (Int.toNat x_61) (⟨(⟨#[]⟩ : ByteArray), 0, 0, 0, 0, (⟨#[]⟩ : ByteArray), 0⟩ : GEntry)).Size (a0.getD (Int.toNat x_61) (⟨(⟨#[]⟩ : ByteArray), 0, 0, 0, 0, (⟨#[]⟩ : ByteArray), 0⟩ : GEntry)).Target (a0.getD (Int.toNat x_61) (⟨(⟨#[]⟩ : ByteArray), 0, 0, 0, 0, (⟨#[]⟩ : ByteArray), 0⟩ : GEntry)).Group))) else none) else none)) else none)))) else ((impl_varText.f k (a0.getD (Int.toNat x_61) (⟨(⟨#[]⟩ : ByteArray), 0, 0, 0, 0, (⟨#[]⟩ : ByteArray), 0⟩ : GEntry)).Kind).bind fun r88 => ((impl_varText.f k (a0.getD (Int.toNat x_61) (⟨(⟨#[]⟩ : ByteArray), 0, 0, 0, 0, (⟨#[]⟩ : ByteArray), 0⟩ : GEntry)).Mode).bind fun r89 => (if ((r88.size : Int) + (r89.size : Int)) ≤ 140737488351232 then ((impl_varText.f k (a0.getD (Int.toNat x_61) (⟨(⟨#[]⟩ : ByteArray), 0, 0, 0, 0, (⟨#[]⟩ : ByteArray), 0⟩ : GEntry)).Time).bind fun r90 => (if (((r88 ++ r89).size : Int) + (r90.size : Int)) ≤ 140737488351232 then (if (((x_60 ++ (r70 ++ r71)).size : Int) + (((r88 ++ r89) ++ r90).size : Int)) ≤ 140737488355328 then (if (a0.getD (Int.toNat x_61) (⟨(⟨#[]⟩ : ByteArray), 0, 0, 0, 0, (⟨#[]⟩ : ByteArray), 0⟩ : GEntry)).Kind = 1 then ((impl_varText.f k (a0.getD (Int.toNat x_61) (⟨(⟨#[]⟩ : ByteArray), 0, 0, 0, 0, (⟨#[]⟩ : ByteArray), 0⟩ : GEntry)).Size).bind fun r91 => ((impl_varText.f k (a0.getD (Int.toNat x_61) (⟨(⟨#[]⟩ : ByteArray), 0, 0, 0, 0, (⟨#[]⟩ : ByteArray), 0⟩ : GEntry)).Group).bind fun r92 => (if ((r91.size : Int) + (r92.size : Int)) ≤ 140737488351232 then (if ((((x_60 ++ (r70 ++ r71)) ++ ((r88 ++ r89) ++ r90)).size : Int) + ((r91 ++ r92).size : Int)) ≤ 140737488355328 then (impl_entriesText.l0 k a0 (((x_60 ++ (r70 ++ r71)) ++ ((r88 ++ r89) ++ r90)) ++ (r91 ++ r92)) (IntKind.wrap .i64 (x_61 + 1)) (a0.getD (Int.toNat x_61) (⟨(⟨#[]⟩ : ByteArray), 0, 0, 0, 0, (⟨#[]⟩ : ByteArray), 0⟩ : GEntry)).Path (a0.getD (Int.toNat x_61) (⟨(⟨#[]⟩ : ByteArray), 0, 0, 0, 0, (⟨#[]⟩ : ByteArray), 0⟩ : GEntry)).Kind (a0.getD (Int.toNat x_61) (⟨(⟨#[]⟩ : ByteArray), 0, 0, 0, 0, (⟨#[]⟩ : ByteArray), 0⟩ : GEntry)).Mode (a0.getD (Int.toNat x_61) (⟨(⟨#[]⟩ : ByteArray), 0, 0, 0, 0, (⟨#[]⟩ : ByteArray), 0⟩ : GEntry)).Time (a0.getD (Int.toNat x_61) (⟨(⟨#[]⟩ : ByteArray), 0, 0, 0, 0, (⟨#[]⟩ : ByteArray), 0⟩ : GEntry)).Size (a0.getD (Int.toNat x_61) (⟨(⟨#[]⟩ : ByteArray), 0, 0, 0, 0, (⟨#[]⟩ : ByteArray), 0⟩ : GEntry)).Target (a0.getD (Int.toNat x_61) (⟨(⟨#[]⟩ : ByteArray), 0, 0, 0, 0, (⟨#[]⟩ : ByteArray), 0⟩ : GEntry)).Group) else none) else none))) else (if (a0.getD (Int.toNat x_61) (⟨(⟨#[]⟩ : ByteArray), 0, 0, 0, 0, (⟨#[]⟩ : ByteArray), 0⟩ : GEntry)).Kind = 2 then ((impl_putText.f k (a0.getD (Int.toNat x_61) (⟨(⟨#[]⟩ : ByteArray), 0, 0, 0, 0, (⟨#[]⟩ : ByteArray), 0⟩ : GEntry)).Target).bind fun r93 => (if ((((x_60 ++ (r70 ++ r71)) ++ ((r88 ++ r89) ++ r90)).size : Int) + (r93.size : Int)) ≤ 140737488355328 then (impl_entriesText.l0 k a0 (((x_60 ++ (r70 ++ r71)) ++ ((r88 ++ r89) ++ r90)) ++ r93) (IntKind.wrap .i64 (x_61 + 1)) (a0.getD (Int.toNat x_61) (⟨(⟨#[]⟩ : ByteArray), 0, 0, 0, 0, (⟨#[]⟩ : ByteArray), 0⟩ : GEntry)).Path (a0.getD (Int.toNat x_61) (⟨(⟨#[]⟩ : ByteArray), 0, 0, 0, 0, (⟨#[]⟩ : ByteArray), 0⟩ : GEntry)).Kind (a0.getD (Int.toNat x_61) (⟨(⟨#[]⟩ : ByteArray), 0, 0, 0, 0, (⟨#[]⟩ : ByteArray), 0⟩ : GEntry)).Mode (a0.getD (Int.toNat x_61) (⟨(⟨#[]⟩ : ByteArray), 0, 0, 0, 0, (⟨#[]⟩ : ByteArray), 0⟩ : GEntry)).Time (a0.getD (Int.toNat x_61) (⟨(⟨#[]⟩ : ByteArray), 0, 0, 0, 0, (⟨#[]⟩ : ByteArray), 0⟩ : GEntry)).Size (a0.getD (Int.toNat x_61) (⟨(⟨#[]⟩ : ByteArray), 0, 0, 0, 0, (⟨#[]⟩ : ByteArray), 0⟩ : GEntry)).Target (a0.getD (Int.toNat x_61) (⟨(⟨#[]⟩ : ByteArray), 0, 0, 0, 0, (⟨#[]⟩ : ByteArray), 0⟩ : GEntry)).Group) else none)) else (impl_entriesText.l0 k a0 ((x_60 ++ (r70 ++ r71)) ++ ((r88 ++ r89) ++ r90)) (IntKind.wrap .i64 (x_61 + 1)) (a0.getD (Int.toNat x_61) (⟨(⟨#[]⟩ : ByteArray), 0, 0, 0, 0, (⟨#[]⟩ : ByteArray), 0⟩ : GEntry)).Path (a0.getD (Int.toNat x_61) (⟨(⟨#[]⟩ : ByteArray), 0, 0, 0, 0, (⟨#[]⟩ : ByteArray), 0⟩ : GEntry)).Kind (a0.getD (Int.toNat x_61) (⟨(⟨#[]⟩ : ByteArray), 0, 0, 0, 0, (⟨#[]⟩ : ByteArray), 0⟩ : GEntry)).Mode (a0.getD (Int.toNat x_61) (⟨(⟨#[]⟩ : ByteArray), 0, 0, 0, 0, (⟨#[]⟩ : ByteArray), 0⟩ : GEntry)).Time (a0.getD (Int.toNat x_61) (⟨(⟨#[]⟩ : ByteArray), 0, 0, 0, 0, (⟨#[]⟩ : ByteArray), 0⟩ : GEntry)).Size (a0.getD (Int.toNat x_61) (⟨(⟨#[]⟩ : ByteArray), 0, 0, 0, 0, (⟨#[]⟩ : ByteArray), 0⟩ : GEntry)).Target (a0.getD (Int.toNat x_61) (⟨(⟨#[]⟩ : ByteArray), 0, 0, 0, 0, (⟨#[]⟩ : ByteArray), 0⟩ : GEntry)).Group))) else none) else none)) else none)))) else none) else none))) else none) else none) else none)) else none) else none) else (some x_60))
def impl_entriesText.f (k : Nat) (a0 : List GEntry) : Option ByteArray := ((impl_varText.f k (a0.length : Int)).bind fun r0 => (if (((⟨#[]⟩ : ByteArray).size : Int) + (r0.size : Int)) ≤ 140737488355328 then (impl_entriesText.l0 k a0 ((⟨#[]⟩ : ByteArray) ++ r0) 0 (⟨#[]⟩ : ByteArray) 0 0 0 0 (⟨#[]⟩ : ByteArray) 0) else none))
theorem impl_entriesText.le (O : Prim) (hO : O = std) (k : Nat) (a0 : List GEntry) : Le F O M fi43.kills impl_entriesText.e (impl_entriesText.f k a0) (den O M fi43.kills fi43.fn fi43.body (tab.gives 43) (M 43) [.one (.imm 42 a0)] : Tr tab) := by
  refine Le.eqS 0 (by conv => lhs; cbv) ?_
  unfold impl_entriesText.f
  refine Le.callC 0 (fi := fi80) rfl (impl_varText.le O hO k (O.len a0)) (by subst hO; rfl) (by intro r0; conv => lhs; cbv) ?_
  intro r0
  refine Le.guardP 0 (by subst hO; rfl) (by conv => lhs; cbv) ?_
  refine Le.loopS (fun (n : Nat) (v : ByteArray × Int × ByteArray × Int × Int × Int × Int × ByteArray × Int) => impl_entriesText.l0 n a0 v.1 v.2.1 v.2.2.1 v.2.2.2.1 v.2.2.2.2.1 v.2.2.2.2.2.1 v.2.2.2.2.2.2.1 v.2.2.2.2.2.2.2.1 v.2.2.2.2.2.2.2.2) (fun (v : ByteArray × Int × ByteArray × Int × Int × Int × Int × ByteArray × Int) => match v with | (x_60, x_61, b_62, b_63, b_64, b_65, b_66, b_67, b_68) => (⟨[], [D_, D_, D_, .one (.bld x_60), .one (.ptr ⟨11, 0, []⟩), D_, D_, D_, D_, D_, D_, D_, D_, .one (.imm 42 a0), .one (.lit (.int .i64 (O.len a0))), .one (.lit (.int .i64 x_61)), D_, D_, D_, D_, D_, D_, D_, D_, D_, D_, D_, D_, D_, D_, D_, D_, D_, D_, D_, D_, D_, D_, D_, D_, D_, D_, D_, D_, D_, D_, D_, D_, D_, D_, D_, D_, D_, D_, D_, D_, D_, D_, D_, D_, D_, D_, D_, D_, D_, D_, D_, D_, D_, D_, D_, D_, D_, D_, D_, D_, D_, D_, D_, D_, D_, D_, D_, D_, D_, D_, D_, D_], [[], [], [], [], [.lit (.string b_62), .lit (.int .i64 b_63), .lit (.int .i64 b_64), .lit (.int .i64 b_65), .lit (.int .i64 b_66), .lit (.string b_67), .lit (.int .i64 b_68)], [], [], [], [], [], [], [], [], [], [], [], [], [], [], [], [], [], [], [], [], [], [], [], [], [], [], [], [], [], [], [], [], [], [], [], [], [], [], [], [], [], [], [], [], [], [], [], [], [], [], [], [], [], [], [], [], [], [], [], [], [], [], [], [], [], [], [], [], [], [], [], [], [], [], [], [], [], [], [], [], [], [], [], []], []⟩ : S tab)) k ((O.scat (⟨#[]⟩ : ByteArray) r0), 0, (⟨#[]⟩ : ByteArray), 0, 0, 0, 0, (⟨#[]⟩ : ByteArray), 0) (by subst hO; rfl) rfl (fun _ => rfl) ?_
  intro n0 hn0 ih0 v0
  obtain ⟨x_60, x_61, b_62, b_63, b_64, b_65, b_66, b_67, b_68⟩ := v0
  refine Le.eqS 0 (by conv => lhs; cbv) ?_
  show Le F O M _ _ (impl_entriesText.l0 (n0 + 1) a0 x_60 x_61 b_62 b_63 b_64 b_65 b_66 b_67 b_68) _
  rw [impl_entriesText.l0]
  refine Le.condP 0 0 (by subst hO; rfl) (by conv => lhs; cbv) (by conv => lhs; cbv) ?_ ?_
  · refine Le.guardP 0 (by subst hO; rfl) (by conv => lhs; cbv) ?_
    refine Le.guardP 0 (by subst hO; rfl) (by conv => lhs; cbv) ?_
    refine Le.callC 0 (fi := fi81) rfl (impl_common.le O hO n0 b_62 (O.get (⟨(⟨#[]⟩ : ByteArray), 0, 0, 0, 0, (⟨#[]⟩ : ByteArray), 0⟩ : GEntry) a0 x_61).Path) (by subst hO; rfl) (by intro r69; conv => lhs; cbv) ?_
    intro r69
    refine Le.guardP 0 (by subst hO; rfl) (by conv => lhs; cbv) ?_
    refine Le.guardP 0 (by subst hO; rfl) (by conv => lhs; cbv) ?_
    refine Le.guardP 0 (by subst hO; rfl) (by conv => lhs; cbv) ?_
    refine Le.callC 0 (fi := fi80) rfl (impl_varText.le O hO n0 r69) (by subst hO; rfl) (by intro r70; conv => lhs; cbv) ?_
    intro r70
    refine Le.callC 0 (fi := fi82) rfl (impl_putText.le O hO n0 (O.sext (O.get (⟨(⟨#[]⟩ : ByteArray), 0, 0, 0, 0, (⟨#[]⟩ : ByteArray), 0⟩ : GEntry) a0 x_61).Path r69 (O.ssize (O.get (⟨(⟨#[]⟩ : ByteArray), 0, 0, 0, 0, (⟨#[]⟩ : ByteArray), 0⟩ : GEntry) a0 x_61).Path))) (by subst hO; rfl) (by intro r71; conv => lhs; cbv) ?_
    intro r71
    refine Le.guardP 0 (by subst hO; rfl) (by conv => lhs; cbv) ?_
    refine Le.guardP 0 (by subst hO; rfl) (by conv => lhs; cbv) ?_
    refine Le.condP 5 12 (by subst hO; rfl) (by conv => lhs; cbv) (by conv => lhs; cbv) ?_ ?_
    · refine Le.condP 5 6 (by subst hO; rfl) (by conv => lhs; cbv) (by conv => lhs; cbv) ?_ ?_
      · refine Le.condP 0 0 (by subst hO; rfl) (by conv => lhs; cbv) (by conv => lhs; cbv) ?_ ?_
        · refine Le.callC 0 (fi := fi80) rfl (impl_varText.le O hO n0 (O.wrap .i64 (O.add (O.get (⟨(⟨#[]⟩ : ByteArray), 0, 0, 0, 0, (⟨#[]⟩ : ByteArray), 0⟩ : GEntry) a0 x_61).Kind 4))) (by subst hO; rfl) (by intro r72; conv => lhs; cbv) ?_
          intro r72
          refine Le.guardP 0 (by subst hO; rfl) (by conv => lhs; cbv) ?_
          refine Le.condP 0 0 (by subst hO; rfl) (by conv => lhs; cbv) (by conv => lhs; cbv) ?_ ?_
          · refine Le.callC 0 (fi := fi80) rfl (impl_varText.le O hO n0 (O.get (⟨(⟨#[]⟩ : ByteArray), 0, 0, 0, 0, (⟨#[]⟩ : ByteArray), 0⟩ : GEntry) a0 x_61).Size) (by subst hO; rfl) (by intro r73; conv => lhs; cbv) ?_
            intro r73
            refine Le.callC 0 (fi := fi80) rfl (impl_varText.le O hO n0 (O.get (⟨(⟨#[]⟩ : ByteArray), 0, 0, 0, 0, (⟨#[]⟩ : ByteArray), 0⟩ : GEntry) a0 x_61).Group) (by subst hO; rfl) (by intro r74; conv => lhs; cbv) ?_
            intro r74
            refine Le.guardP 0 (by subst hO; rfl) (by conv => lhs; cbv) ?_
            refine Le.guardP 0 (by subst hO; rfl) (by conv => lhs; cbv) ?_
            exact Le.again (ih0 n0 (by omega) ((O.scat (O.scat (O.scat x_60 (O.scat r70 r71)) r72) (O.scat r73 r74)), (O.wrap .i64 (O.add x_61 1)), (O.get (⟨(⟨#[]⟩ : ByteArray), 0, 0, 0, 0, (⟨#[]⟩ : ByteArray), 0⟩ : GEntry) a0 x_61).Path, (O.get (⟨(⟨#[]⟩ : ByteArray), 0, 0, 0, 0, (⟨#[]⟩ : ByteArray), 0⟩ : GEntry) a0 x_61).Kind, (O.get (⟨(⟨#[]⟩ : ByteArray), 0, 0, 0, 0, (⟨#[]⟩ : ByteArray), 0⟩ : GEntry) a0 x_61).Mode, (O.get (⟨(⟨#[]⟩ : ByteArray), 0, 0, 0, 0, (⟨#[]⟩ : ByteArray), 0⟩ : GEntry) a0 x_61).Time, (O.get (⟨(⟨#[]⟩ : ByteArray), 0, 0, 0, 0, (⟨#[]⟩ : ByteArray), 0⟩ : GEntry) a0 x_61).Size, (O.get (⟨(⟨#[]⟩ : ByteArray), 0, 0, 0, 0, (⟨#[]⟩ : ByteArray), 0⟩ : GEntry) a0 x_61).Target, (O.get (⟨(⟨#[]⟩ : ByteArray), 0, 0, 0, 0, (⟨#[]⟩ : ByteArray), 0⟩ : GEntry) a0 x_61).Group)) (by subst hO; rfl) rfl
          · refine Le.condP 0 0 (by subst hO; rfl) (by conv => lhs; cbv) (by conv => lhs; cbv) ?_ ?_
            · refine Le.callC 0 (fi := fi82) rfl (impl_putText.le O hO n0 (O.get (⟨(⟨#[]⟩ : ByteArray), 0, 0, 0, 0, (⟨#[]⟩ : ByteArray), 0⟩ : GEntry) a0 x_61).Target) (by subst hO; rfl) (by intro r75; conv => lhs; cbv) ?_
              intro r75
              refine Le.guardP 0 (by subst hO; rfl) (by conv => lhs; cbv) ?_
              exact Le.again (ih0 n0 (by omega) ((O.scat (O.scat (O.scat x_60 (O.scat r70 r71)) r72) r75), (O.wrap .i64 (O.add x_61 1)), (O.get (⟨(⟨#[]⟩ : ByteArray), 0, 0, 0, 0, (⟨#[]⟩ : ByteArray), 0⟩ : GEntry) a0 x_61).Path, (O.get (⟨(⟨#[]⟩ : ByteArray), 0, 0, 0, 0, (⟨#[]⟩ : ByteArray), 0⟩ : GEntry) a0 x_61).Kind, (O.get (⟨(⟨#[]⟩ : ByteArray), 0, 0, 0, 0, (⟨#[]⟩ : ByteArray), 0⟩ : GEntry) a0 x_61).Mode, (O.get (⟨(⟨#[]⟩ : ByteArray), 0, 0, 0, 0, (⟨#[]⟩ : ByteArray), 0⟩ : GEntry) a0 x_61).Time, (O.get (⟨(⟨#[]⟩ : ByteArray), 0, 0, 0, 0, (⟨#[]⟩ : ByteArray), 0⟩ : GEntry) a0 x_61).Size, (O.get (⟨(⟨#[]⟩ : ByteArray), 0, 0, 0, 0, (⟨#[]⟩ : ByteArray), 0⟩ : GEntry) a0 x_61).Target, (O.get (⟨(⟨#[]⟩ : ByteArray), 0, 0, 0, 0, (⟨#[]⟩ : ByteArray), 0⟩ : GEntry) a0 x_61).Group)) (by subst hO; rfl) rfl
            · exact Le.again (ih0 n0 (by omega) ((O.scat (O.scat x_60 (O.scat r70 r71)) r72), (O.wrap .i64 (O.add x_61 1)), (O.get (⟨(⟨#[]⟩ : ByteArray), 0, 0, 0, 0, (⟨#[]⟩ : ByteArray), 0⟩ : GEntry) a0 x_61).Path, (O.get (⟨(⟨#[]⟩ : ByteArray), 0, 0, 0, 0, (⟨#[]⟩ : ByteArray), 0⟩ : GEntry) a0 x_61).Kind, (O.get (⟨(⟨#[]⟩ : ByteArray), 0, 0, 0, 0, (⟨#[]⟩ : ByteArray), 0⟩ : GEntry) a0 x_61).Mode, (O.get (⟨(⟨#[]⟩ : ByteArray), 0, 0, 0, 0, (⟨#[]⟩ : ByteArray), 0⟩ : GEntry) a0 x_61).Time, (O.get (⟨(⟨#[]⟩ : ByteArray), 0, 0, 0, 0, (⟨#[]⟩ : ByteArray), 0⟩ : GEntry) a0 x_61).Size, (O.get (⟨(⟨#[]⟩ : ByteArray), 0, 0, 0, 0, (⟨#[]⟩ : ByteArray), 0⟩ : GEntry) a0 x_61).Target, (O.get (⟨(⟨#[]⟩ : ByteArray), 0, 0, 0, 0, (⟨#[]⟩ : ByteArray), 0⟩ : GEntry) a0 x_61).Group)) (by subst hO; rfl) rfl
        · refine Le.callC 0 (fi := fi80) rfl (impl_varText.le O hO n0 (O.get (⟨(⟨#[]⟩ : ByteArray), 0, 0, 0, 0, (⟨#[]⟩ : ByteArray), 0⟩ : GEntry) a0 x_61).Kind) (by subst hO; rfl) (by intro r76; conv => lhs; cbv) ?_
          intro r76
          refine Le.callC 0 (fi := fi80) rfl (impl_varText.le O hO n0 (O.get (⟨(⟨#[]⟩ : ByteArray), 0, 0, 0, 0, (⟨#[]⟩ : ByteArray), 0⟩ : GEntry) a0 x_61).Mode) (by subst hO; rfl) (by intro r77; conv => lhs; cbv) ?_
          intro r77
          refine Le.guardP 0 (by subst hO; rfl) (by conv => lhs; cbv) ?_
          refine Le.callC 0 (fi := fi80) rfl (impl_varText.le O hO n0 (O.get (⟨(⟨#[]⟩ : ByteArray), 0, 0, 0, 0, (⟨#[]⟩ : ByteArray), 0⟩ : GEntry) a0 x_61).Time) (by subst hO; rfl) (by intro r78; conv => lhs; cbv) ?_
          intro r78
          refine Le.guardP 0 (by subst hO; rfl) (by conv => lhs; cbv) ?_
          refine Le.guardP 0 (by subst hO; rfl) (by conv => lhs; cbv) ?_
          refine Le.condP 0 0 (by subst hO; rfl) (by conv => lhs; cbv) (by conv => lhs; cbv) ?_ ?_
          · refine Le.callC 0 (fi := fi80) rfl (impl_varText.le O hO n0 (O.get (⟨(⟨#[]⟩ : ByteArray), 0, 0, 0, 0, (⟨#[]⟩ : ByteArray), 0⟩ : GEntry) a0 x_61).Size) (by subst hO; rfl) (by intro r79; conv => lhs; cbv) ?_
            intro r79
            refine Le.callC 0 (fi := fi80) rfl (impl_varText.le O hO n0 (O.get (⟨(⟨#[]⟩ : ByteArray), 0, 0, 0, 0, (⟨#[]⟩ : ByteArray), 0⟩ : GEntry) a0 x_61).Group) (by subst hO; rfl) (by intro r80; conv => lhs; cbv) ?_
            intro r80
            refine Le.guardP 0 (by subst hO; rfl) (by conv => lhs; cbv) ?_
            refine Le.guardP 0 (by subst hO; rfl) (by conv => lhs; cbv) ?_
            exact Le.again (ih0 n0 (by omega) ((O.scat (O.scat (O.scat x_60 (O.scat r70 r71)) (O.scat (O.scat r76 r77) r78)) (O.scat r79 r80)), (O.wrap .i64 (O.add x_61 1)), (O.get (⟨(⟨#[]⟩ : ByteArray), 0, 0, 0, 0, (⟨#[]⟩ : ByteArray), 0⟩ : GEntry) a0 x_61).Path, (O.get (⟨(⟨#[]⟩ : ByteArray), 0, 0, 0, 0, (⟨#[]⟩ : ByteArray), 0⟩ : GEntry) a0 x_61).Kind, (O.get (⟨(⟨#[]⟩ : ByteArray), 0, 0, 0, 0, (⟨#[]⟩ : ByteArray), 0⟩ : GEntry) a0 x_61).Mode, (O.get (⟨(⟨#[]⟩ : ByteArray), 0, 0, 0, 0, (⟨#[]⟩ : ByteArray), 0⟩ : GEntry) a0 x_61).Time, (O.get (⟨(⟨#[]⟩ : ByteArray), 0, 0, 0, 0, (⟨#[]⟩ : ByteArray), 0⟩ : GEntry) a0 x_61).Size, (O.get (⟨(⟨#[]⟩ : ByteArray), 0, 0, 0, 0, (⟨#[]⟩ : ByteArray), 0⟩ : GEntry) a0 x_61).Target, (O.get (⟨(⟨#[]⟩ : ByteArray), 0, 0, 0, 0, (⟨#[]⟩ : ByteArray), 0⟩ : GEntry) a0 x_61).Group)) (by subst hO; rfl) rfl
          · refine Le.condP 0 0 (by subst hO; rfl) (by conv => lhs; cbv) (by conv => lhs; cbv) ?_ ?_
            · refine Le.callC 0 (fi := fi82) rfl (impl_putText.le O hO n0 (O.get (⟨(⟨#[]⟩ : ByteArray), 0, 0, 0, 0, (⟨#[]⟩ : ByteArray), 0⟩ : GEntry) a0 x_61).Target) (by subst hO; rfl) (by intro r81; conv => lhs; cbv) ?_
              intro r81
              refine Le.guardP 0 (by subst hO; rfl) (by conv => lhs; cbv) ?_
              exact Le.again (ih0 n0 (by omega) ((O.scat (O.scat (O.scat x_60 (O.scat r70 r71)) (O.scat (O.scat r76 r77) r78)) r81), (O.wrap .i64 (O.add x_61 1)), (O.get (⟨(⟨#[]⟩ : ByteArray), 0, 0, 0, 0, (⟨#[]⟩ : ByteArray), 0⟩ : GEntry) a0 x_61).Path, (O.get (⟨(⟨#[]⟩ : ByteArray), 0, 0, 0, 0, (⟨#[]⟩ : ByteArray), 0⟩ : GEntry) a0 x_61).Kind, (O.get (⟨(⟨#[]⟩ : ByteArray), 0, 0, 0, 0, (⟨#[]⟩ : ByteArray), 0⟩ : GEntry) a0 x_61).Mode, (O.get (⟨(⟨#[]⟩ : ByteArray), 0, 0, 0, 0, (⟨#[]⟩ : ByteArray), 0⟩ : GEntry) a0 x_61).Time, (O.get (⟨(⟨#[]⟩ : ByteArray), 0, 0, 0, 0, (⟨#[]⟩ : ByteArray), 0⟩ : GEntry) a0 x_61).Size, (O.get (⟨(⟨#[]⟩ : ByteArray), 0, 0, 0, 0, (⟨#[]⟩ : ByteArray), 0⟩ : GEntry) a0 x_61).Target, (O.get (⟨(⟨#[]⟩ : ByteArray), 0, 0, 0, 0, (⟨#[]⟩ : ByteArray), 0⟩ : GEntry) a0 x_61).Group)) (by subst hO; rfl) rfl
            · exact Le.again (ih0 n0 (by omega) ((O.scat (O.scat x_60 (O.scat r70 r71)) (O.scat (O.scat r76 r77) r78)), (O.wrap .i64 (O.add x_61 1)), (O.get (⟨(⟨#[]⟩ : ByteArray), 0, 0, 0, 0, (⟨#[]⟩ : ByteArray), 0⟩ : GEntry) a0 x_61).Path, (O.get (⟨(⟨#[]⟩ : ByteArray), 0, 0, 0, 0, (⟨#[]⟩ : ByteArray), 0⟩ : GEntry) a0 x_61).Kind, (O.get (⟨(⟨#[]⟩ : ByteArray), 0, 0, 0, 0, (⟨#[]⟩ : ByteArray), 0⟩ : GEntry) a0 x_61).Mode, (O.get (⟨(⟨#[]⟩ : ByteArray), 0, 0, 0, 0, (⟨#[]⟩ : ByteArray), 0⟩ : GEntry) a0 x_61).Time, (O.get (⟨(⟨#[]⟩ : ByteArray), 0, 0, 0, 0, (⟨#[]⟩ : ByteArray), 0⟩ : GEntry) a0 x_61).Size, (O.get (⟨(⟨#[]⟩ : ByteArray), 0, 0, 0, 0, (⟨#[]⟩ : ByteArray), 0⟩ : GEntry) a0 x_61).Target, (O.get (⟨(⟨#[]⟩ : ByteArray), 0, 0, 0, 0, (⟨#[]⟩ : ByteArray), 0⟩ : GEntry) a0 x_61).Group)) (by subst hO; rfl) rfl
      · refine Le.callC 0 (fi := fi80) rfl (impl_varText.le O hO n0 (O.get (⟨(⟨#[]⟩ : ByteArray), 0, 0, 0, 0, (⟨#[]⟩ : ByteArray), 0⟩ : GEntry) a0 x_61).Kind) (by subst hO; rfl) (by intro r82; conv => lhs; cbv) ?_
        intro r82
        refine Le.callC 0 (fi := fi80) rfl (impl_varText.le O hO n0 (O.get (⟨(⟨#[]⟩ : ByteArray), 0, 0, 0, 0, (⟨#[]⟩ : ByteArray), 0⟩ : GEntry) a0 x_61).Mode) (by subst hO; rfl) (by intro r83; conv => lhs; cbv) ?_
        intro r83
        refine Le.guardP 0 (by subst hO; rfl) (by conv => lhs; cbv) ?_
        refine Le.callC 0 (fi := fi80) rfl (impl_varText.le O hO n0 (O.get (⟨(⟨#[]⟩ : ByteArray), 0, 0, 0, 0, (⟨#[]⟩ : ByteArray), 0⟩ : GEntry) a0 x_61).Time) (by subst hO; rfl) (by intro r84; conv => lhs; cbv) ?_
        intro r84
        refine Le.guardP 0 (by subst hO; rfl) (by conv => lhs; cbv) ?_
        refine Le.guardP 0 (by subst hO; rfl) (by conv => lhs; cbv) ?_
        refine Le.condP 0 0 (by subst hO; rfl) (by conv => lhs; cbv) (by conv => lhs; cbv) ?_ ?_
        · refine Le.callC 0 (fi := fi80) rfl (impl_varText.le O hO n0 (O.get (⟨(⟨#[]⟩ : ByteArray), 0, 0, 0, 0, (⟨#[]⟩ : ByteArray), 0⟩ : GEntry) a0 x_61).Size) (by subst hO; rfl) (by intro r85; conv => lhs; cbv) ?_
          intro r85
          refine Le.callC 0 (fi := fi80) rfl (impl_varText.le O hO n0 (O.get (⟨(⟨#[]⟩ : ByteArray), 0, 0, 0, 0, (⟨#[]⟩ : ByteArray), 0⟩ : GEntry) a0 x_61).Group) (by subst hO; rfl) (by intro r86; conv => lhs; cbv) ?_
          intro r86
          refine Le.guardP 0 (by subst hO; rfl) (by conv => lhs; cbv) ?_
          refine Le.guardP 0 (by subst hO; rfl) (by conv => lhs; cbv) ?_
          exact Le.again (ih0 n0 (by omega) ((O.scat (O.scat (O.scat x_60 (O.scat r70 r71)) (O.scat (O.scat r82 r83) r84)) (O.scat r85 r86)), (O.wrap .i64 (O.add x_61 1)), (O.get (⟨(⟨#[]⟩ : ByteArray), 0, 0, 0, 0, (⟨#[]⟩ : ByteArray), 0⟩ : GEntry) a0 x_61).Path, (O.get (⟨(⟨#[]⟩ : ByteArray), 0, 0, 0, 0, (⟨#[]⟩ : ByteArray), 0⟩ : GEntry) a0 x_61).Kind, (O.get (⟨(⟨#[]⟩ : ByteArray), 0, 0, 0, 0, (⟨#[]⟩ : ByteArray), 0⟩ : GEntry) a0 x_61).Mode, (O.get (⟨(⟨#[]⟩ : ByteArray), 0, 0, 0, 0, (⟨#[]⟩ : ByteArray), 0⟩ : GEntry) a0 x_61).Time, (O.get (⟨(⟨#[]⟩ : ByteArray), 0, 0, 0, 0, (⟨#[]⟩ : ByteArray), 0⟩ : GEntry) a0 x_61).Size, (O.get (⟨(⟨#[]⟩ : ByteArray), 0, 0, 0, 0, (⟨#[]⟩ : ByteArray), 0⟩ : GEntry) a0 x_61).Target, (O.get (⟨(⟨#[]⟩ : ByteArray), 0, 0, 0, 0, (⟨#[]⟩ : ByteArray), 0⟩ : GEntry) a0 x_61).Group)) (by subst hO; rfl) rfl
        · refine Le.condP 0 0 (by subst hO; rfl) (by conv => lhs; cbv) (by conv => lhs; cbv) ?_ ?_
          · refine Le.callC 0 (fi := fi82) rfl (impl_putText.le O hO n0 (O.get (⟨(⟨#[]⟩ : ByteArray), 0, 0, 0, 0, (⟨#[]⟩ : ByteArray), 0⟩ : GEntry) a0 x_61).Target) (by subst hO; rfl) (by intro r87; conv => lhs; cbv) ?_
            intro r87
            refine Le.guardP 0 (by subst hO; rfl) (by conv => lhs; cbv) ?_
            exact Le.again (ih0 n0 (by omega) ((O.scat (O.scat (O.scat x_60 (O.scat r70 r71)) (O.scat (O.scat r82 r83) r84)) r87), (O.wrap .i64 (O.add x_61 1)), (O.get (⟨(⟨#[]⟩ : ByteArray), 0, 0, 0, 0, (⟨#[]⟩ : ByteArray), 0⟩ : GEntry) a0 x_61).Path, (O.get (⟨(⟨#[]⟩ : ByteArray), 0, 0, 0, 0, (⟨#[]⟩ : ByteArray), 0⟩ : GEntry) a0 x_61).Kind, (O.get (⟨(⟨#[]⟩ : ByteArray), 0, 0, 0, 0, (⟨#[]⟩ : ByteArray), 0⟩ : GEntry) a0 x_61).Mode, (O.get (⟨(⟨#[]⟩ : ByteArray), 0, 0, 0, 0, (⟨#[]⟩ : ByteArray), 0⟩ : GEntry) a0 x_61).Time, (O.get (⟨(⟨#[]⟩ : ByteArray), 0, 0, 0, 0, (⟨#[]⟩ : ByteArray), 0⟩ : GEntry) a0 x_61).Size, (O.get (⟨(⟨#[]⟩ : ByteArray), 0, 0, 0, 0, (⟨#[]⟩ : ByteArray), 0⟩ : GEntry) a0 x_61).Target, (O.get (⟨(⟨#[]⟩ : ByteArray), 0, 0, 0, 0, (⟨#[]⟩ : ByteArray), 0⟩ : GEntry) a0 x_61).Group)) (by subst hO; rfl) rfl
          · exact Le.again (ih0 n0 (by omega) ((O.scat (O.scat x_60 (O.scat r70 r71)) (O.scat (O.scat r82 r83) r84)), (O.wrap .i64 (O.add x_61 1)), (O.get (⟨(⟨#[]⟩ : ByteArray), 0, 0, 0, 0, (⟨#[]⟩ : ByteArray), 0⟩ : GEntry) a0 x_61).Path, (O.get (⟨(⟨#[]⟩ : ByteArray), 0, 0, 0, 0, (⟨#[]⟩ : ByteArray), 0⟩ : GEntry) a0 x_61).Kind, (O.get (⟨(⟨#[]⟩ : ByteArray), 0, 0, 0, 0, (⟨#[]⟩ : ByteArray), 0⟩ : GEntry) a0 x_61).Mode, (O.get (⟨(⟨#[]⟩ : ByteArray), 0, 0, 0, 0, (⟨#[]⟩ : ByteArray), 0⟩ : GEntry) a0 x_61).Time, (O.get (⟨(⟨#[]⟩ : ByteArray), 0, 0, 0, 0, (⟨#[]⟩ : ByteArray), 0⟩ : GEntry) a0 x_61).Size, (O.get (⟨(⟨#[]⟩ : ByteArray), 0, 0, 0, 0, (⟨#[]⟩ : ByteArray), 0⟩ : GEntry) a0 x_61).Target, (O.get (⟨(⟨#[]⟩ : ByteArray), 0, 0, 0, 0, (⟨#[]⟩ : ByteArray), 0⟩ : GEntry) a0 x_61).Group)) (by subst hO; rfl) rfl
    · refine Le.callC 0 (fi := fi80) rfl (impl_varText.le O hO n0 (O.get (⟨(⟨#[]⟩ : ByteArray), 0, 0, 0, 0, (⟨#[]⟩ : ByteArray), 0⟩ : GEntry) a0 x_61).Kind) (by subst hO; rfl) (by intro r88; conv => lhs; cbv) ?_
      intro r88
      refine Le.callC 0 (fi := fi80) rfl (impl_varText.le O hO n0 (O.get (⟨(⟨#[]⟩ : ByteArray), 0, 0, 0, 0, (⟨#[]⟩ : ByteArray), 0⟩ : GEntry) a0 x_61).Mode) (by subst hO; rfl) (by intro r89; conv => lhs; cbv) ?_
      intro r89
      refine Le.guardP 0 (by subst hO; rfl) (by conv => lhs; cbv) ?_
      refine Le.callC 0 (fi := fi80) rfl (impl_varText.le O hO n0 (O.get (⟨(⟨#[]⟩ : ByteArray), 0, 0, 0, 0, (⟨#[]⟩ : ByteArray), 0⟩ : GEntry) a0 x_61).Time) (by subst hO; rfl) (by intro r90; conv => lhs; cbv) ?_
      intro r90
      refine Le.guardP 0 (by subst hO; rfl) (by conv => lhs; cbv) ?_
      refine Le.guardP 0 (by subst hO; rfl) (by conv => lhs; cbv) ?_
      refine Le.condP 0 0 (by subst hO; rfl) (by conv => lhs; cbv) (by conv => lhs; cbv) ?_ ?_
      · refine Le.callC 0 (fi := fi80) rfl (impl_varText.le O hO n0 (O.get (⟨(⟨#[]⟩ : ByteArray), 0, 0, 0, 0, (⟨#[]⟩ : ByteArray), 0⟩ : GEntry) a0 x_61).Size) (by subst hO; rfl) (by intro r91; conv => lhs; cbv) ?_
        intro r91
        refine Le.callC 0 (fi := fi80) rfl (impl_varText.le O hO n0 (O.get (⟨(⟨#[]⟩ : ByteArray), 0, 0, 0, 0, (⟨#[]⟩ : ByteArray), 0⟩ : GEntry) a0 x_61).Group) (by subst hO; rfl) (by intro r92; conv => lhs; cbv) ?_
        intro r92
        refine Le.guardP 0 (by subst hO; rfl) (by conv => lhs; cbv) ?_
        refine Le.guardP 0 (by subst hO; rfl) (by conv => lhs; cbv) ?_
        exact Le.again (ih0 n0 (by omega) ((O.scat (O.scat (O.scat x_60 (O.scat r70 r71)) (O.scat (O.scat r88 r89) r90)) (O.scat r91 r92)), (O.wrap .i64 (O.add x_61 1)), (O.get (⟨(⟨#[]⟩ : ByteArray), 0, 0, 0, 0, (⟨#[]⟩ : ByteArray), 0⟩ : GEntry) a0 x_61).Path, (O.get (⟨(⟨#[]⟩ : ByteArray), 0, 0, 0, 0, (⟨#[]⟩ : ByteArray), 0⟩ : GEntry) a0 x_61).Kind, (O.get (⟨(⟨#[]⟩ : ByteArray), 0, 0, 0, 0, (⟨#[]⟩ : ByteArray), 0⟩ : GEntry) a0 x_61).Mode, (O.get (⟨(⟨#[]⟩ : ByteArray), 0, 0, 0, 0, (⟨#[]⟩ : ByteArray), 0⟩ : GEntry) a0 x_61).Time, (O.get (⟨(⟨#[]⟩ : ByteArray), 0, 0, 0, 0, (⟨#[]⟩ : ByteArray), 0⟩ : GEntry) a0 x_61).Size, (O.get (⟨(⟨#[]⟩ : ByteArray), 0, 0, 0, 0, (⟨#[]⟩ : ByteArray), 0⟩ : GEntry) a0 x_61).Target, (O.get (⟨(⟨#[]⟩ : ByteArray), 0, 0, 0, 0, (⟨#[]⟩ : ByteArray), 0⟩ : GEntry) a0 x_61).Group)) (by subst hO; rfl) rfl
      · refine Le.condP 0 0 (by subst hO; rfl) (by conv => lhs; cbv) (by conv => lhs; cbv) ?_ ?_
        · refine Le.callC 0 (fi := fi82) rfl (impl_putText.le O hO n0 (O.get (⟨(⟨#[]⟩ : ByteArray), 0, 0, 0, 0, (⟨#[]⟩ : ByteArray), 0⟩ : GEntry) a0 x_61).Target) (by subst hO; rfl) (by intro r93; conv => lhs; cbv) ?_
          intro r93
          refine Le.guardP 0 (by subst hO; rfl) (by conv => lhs; cbv) ?_
          exact Le.again (ih0 n0 (by omega) ((O.scat (O.scat (O.scat x_60 (O.scat r70 r71)) (O.scat (O.scat r88 r89) r90)) r93), (O.wrap .i64 (O.add x_61 1)), (O.get (⟨(⟨#[]⟩ : ByteArray), 0, 0, 0, 0, (⟨#[]⟩ : ByteArray), 0⟩ : GEntry) a0 x_61).Path, (O.get (⟨(⟨#[]⟩ : ByteArray), 0, 0, 0, 0, (⟨#[]⟩ : ByteArray), 0⟩ : GEntry) a0 x_61).Kind, (O.get (⟨(⟨#[]⟩ : ByteArray), 0, 0, 0, 0, (⟨#[]⟩ : ByteArray), 0⟩ : GEntry) a0 x_61).Mode, (O.get (⟨(⟨#[]⟩ : ByteArray), 0, 0, 0, 0, (⟨#[]⟩ : ByteArray), 0⟩ : GEntry) a0 x_61).Time, (O.get (⟨(⟨#[]⟩ : ByteArray), 0, 0, 0, 0, (⟨#[]⟩ : ByteArray), 0⟩ : GEntry) a0 x_61).Size, (O.get (⟨(⟨#[]⟩ : ByteArray), 0, 0, 0, 0, (⟨#[]⟩ : ByteArray), 0⟩ : GEntry) a0 x_61).Target, (O.get (⟨(⟨#[]⟩ : ByteArray), 0, 0, 0, 0, (⟨#[]⟩ : ByteArray), 0⟩ : GEntry) a0 x_61).Group)) (by subst hO; rfl) rfl
        · exact Le.again (ih0 n0 (by omega) ((O.scat (O.scat x_60 (O.scat r70 r71)) (O.scat (O.scat r88 r89) r90)), (O.wrap .i64 (O.add x_61 1)), (O.get (⟨(⟨#[]⟩ : ByteArray), 0, 0, 0, 0, (⟨#[]⟩ : ByteArray), 0⟩ : GEntry) a0 x_61).Path, (O.get (⟨(⟨#[]⟩ : ByteArray), 0, 0, 0, 0, (⟨#[]⟩ : ByteArray), 0⟩ : GEntry) a0 x_61).Kind, (O.get (⟨(⟨#[]⟩ : ByteArray), 0, 0, 0, 0, (⟨#[]⟩ : ByteArray), 0⟩ : GEntry) a0 x_61).Mode, (O.get (⟨(⟨#[]⟩ : ByteArray), 0, 0, 0, 0, (⟨#[]⟩ : ByteArray), 0⟩ : GEntry) a0 x_61).Time, (O.get (⟨(⟨#[]⟩ : ByteArray), 0, 0, 0, 0, (⟨#[]⟩ : ByteArray), 0⟩ : GEntry) a0 x_61).Size, (O.get (⟨(⟨#[]⟩ : ByteArray), 0, 0, 0, 0, (⟨#[]⟩ : ByteArray), 0⟩ : GEntry) a0 x_61).Target, (O.get (⟨(⟨#[]⟩ : ByteArray), 0, 0, 0, 0, (⟨#[]⟩ : ByteArray), 0⟩ : GEntry) a0 x_61).Group)) (by subst hO; rfl) rfl
  · exact Le.ret2 (by subst hO; rfl)
/-! ### loop.example/g00100/impl.PutEntries -/
def impl_PutEntries.e (r : List Int) : Res tab := (([], []), .one (.imm 5 r))
def impl_PutEntries.f (k : Nat) (a0 : List GEntry) : Option (List Int) := ((impl_EntriesOk.f k a0).bind fun r0 => (if r0 = true then ((impl_entriesText.f k a0).bind fun r1 => (if (r1.size : Int) ≤ 140737488351232 then (some (std.bytesOf r1)) else none)) else (some ([] : List Int))))
theorem impl_PutEntries.le (O : Prim) (hO : O = std) (k : Nat) (a0 : List GEntry) : Le F O M fi23.kills impl_PutEntries.e (impl_PutEntries.f k a0) (den O M fi23.kills fi23.fn fi23.body (tab.gives 23) (M 23) [.one (.imm 42 a0)] : Tr tab) := by
  refine Le.eqS 0 (by conv => lhs; cbv) ?_
  unfold impl_PutEntries.f
  refine Le.callC 0 (fi := fi24) rfl (impl_EntriesOk.le O hO k a0) (by subst hO; rfl) (by intro r0; conv => lhs; cbv) ?_
  intro r0
  refine Le.condN 0 0 (by subst hO; exact Bool.decide_eq_true.trans (Bool.not_not _).symm) (by conv => lhs; cbv) (by conv => lhs; cbv) ?_ ?_
  · exact Le.ret2 (by subst hO; rfl)
  · refine Le.callC 0 (fi := fi43) rfl (impl_entriesText.le O hO k a0) (by subst hO; rfl) (by intro r1; conv => lhs; cbv) ?_
    intro r1
    refine Le.guardP 0 (by subst hO; rfl) (by conv => lhs; cbv) ?_
    exact Le.ret2 (by subst hO; rfl)
/-! ### loop.example/g00100/impl.readVar -/
def impl_readVar.e (r : Int × Int) : Res tab := (([], []), .tup [(false, [.lit (.int .i64 r.1)]), (false, [.lit (.int .i64 r.2)])])
def impl_readVar.l0 : Nat → ByteArray → Int → Int → Option (Int × Int)
  | 0, _, _, _ => none
  | k + 1, a0, x_2, x_3 => (if x_3 < (a0.size : Int) then (if x_3 < 9 then (if 0 ≤ x_3 then (if x_3 < (a0.size : Int) then (if 0 ≤ (IntKind.wrap .i64 (7 * x_3)) then (if 0 ≤ x_3 then (if x_3 < (a0.size : Int) then (if (std.sget a0 x_3) < 128 then (if 0 ≤ x_3 then (if x_3 < (a0.size : Int) then (if (std.sget a0 x_3) = 0 then (if 0 < x_3 then (some (0, 0)) else (some ((std.bits .or .i64 x_2 (std.shl .i64 (IntKind.wrap .i64 (std.bits .and .u8 (std.sget a0 x_3) 127)) (IntKind.wrap .i64 (7 * x_3)))), (IntKind.wrap .i64 (x_3 + 1))))) else (some ((std.bits .or .i64 x_2 (std.shl .i64 (IntKind.wrap .i64 (std.bits .and .u8 (std.sget a0 x_3) 127)) (IntKind.wrap .i64 (7 * x_3)))), (IntKind.wrap .i64 (x_3 + 1))))) else none) else none) else (impl_readVar.l0 k a0 (std.bits .or .i64 x_2 (std.shl .i64 (IntKind.wrap .i64 (std.bits .and .u8 (std.sget a0 x_3) 127)) (IntKind.wrap .i64 (7 * x_3)))) (IntKind.wrap .i64 (x_3 + 1)))) else none) else none) else none) else none) else none) else (some (0, 0))) else (some (0, 0)))
def impl_readVar.f (k : Nat) (a0 : ByteArray) : Option (Int × Int) := (impl_readVar.l0 k a0 0 0)
theorem impl_readVar.le (O : Prim) (hO : O = std) (k : Nat) (a0 : ByteArray) : Le F O M fi77.kills impl_readVar.e (impl_readVar.f k a0) (den O M fi77.kills fi77.fn fi77.body (tab.gives 77) (M 77) [.one (.lit (.string a0))] : Tr tab) := by
  refine Le.eqS 0 (by conv => lhs; cbv) ?_
  unfold impl_readVar.f
  refine Le.loopS (fun (n : Nat) (v : Int × Int) => impl_readVar.l0 n a0 v.1 v.2) (fun (v : Int × Int) => match v with | (x_2, x_3) => (⟨[], [.one (.lit (.string a0)), D_, D_, D_, .one (.lit (.int .i64 x_2)), .one (.lit (.int .i64 x_3)), D_, D_, D_, D_, D_, D_, D_, D_, D_, D_, D_, D_, D_, D_, D_, D_, D_, D_, D_, D_, D_, D_, D_, D_, D_, D_, D_, D_, D_, D_, D_, D_, D_, D_, D_], [[], [], [], [], [], [], [], [], [], [], [], [], [], [], [], [], [], [], [], [], [], [], [], [], [], [], [], [], [], [], [], [], [], [], [], [], [], [], [], [], [], []], []⟩ : S tab)) k (0, 0) (by subst hO; rfl) rfl (fun _ => rfl) ?_
  intro n0 hn0 ih0 v0
  obtain ⟨x_2, x_3⟩ := v0
  refine Le.eqS 0 (by conv => lhs; cbv) ?_
  show Le F O M _ _ (impl_readVar.l0 (n0 + 1) a0 x_2 x_3) _
  rw [impl_readVar.l0]
  refine Le.condP 2 3 (by subst hO; rfl) (by conv => lhs; cbv) (by conv => lhs; cbv) ?_ ?_
  · refine Le.condP 0 0 (by subst hO; rfl) (by conv => lhs; cbv) (by conv => lhs; cbv) ?_ ?_
    · refine Le.guardP 0 (by subst hO; rfl) (by conv => lhs; cbv) ?_
      refine Le.guardP 0 (by subst hO; rfl) (by conv => lhs; cbv) ?_
      refine Le.guardP 0 (by subst hO; rfl) (by conv => lhs; cbv) ?_
      refine Le.guardP 0 (by subst hO; rfl) (by conv => lhs; cbv) ?_
      refine Le.guardP 0 (by subst hO; rfl) (by conv => lhs; cbv) ?_
      refine Le.condP 0 0 (by subst hO; rfl) (by conv => lhs; cbv) (by conv => lhs; cbv) ?_ ?_
      · refine Le.guardP 0 (by subst hO; rfl) (by conv => lhs; cbv) ?_
        refine Le.guardP 0 (by subst hO; rfl) (by conv => lhs; cbv) ?_
        refine Le.condP 2 3 (by subst hO; rfl) (by conv => lhs; cbv) (by conv => lhs; cbv) ?_ ?_
        · refine Le.condP 0 0 (by subst hO; rfl) (by conv => lhs; cbv) (by conv => lhs; cbv) ?_ ?_
          · exact Le.ret2 (by subst hO; rfl)
          · exact Le.ret2 (by subst hO; rfl)
        · exact Le.ret2 (by subst hO; rfl)
      · exact Le.again (ih0 n0 (by omega) ((O.bits .or .i64 x_2 (O.shl .i64 (O.wrap .i64 (O.bits .and .u8 (O.sget a0 x_3) 127)) (O.wrap .i64 (O.mul 7 x_3)))), (O.wrap .i64 (O.add x_3 1)))) (by subst hO; rfl) rfl
    · exact Le.ret2 (by subst hO; rfl)
  · exact Le.ret2 (by subst hO; rfl)
/-! ### (*loop.example/g00100/impl.reader).take -/
def impl_reader_take.e (r : ByteArray × GReader) : Res tab := (([], [[.lit (.string r.2.Text), .lit (.bool r.2.Bad)]]), .one (.lit (.string r.1)))
def impl_reader_take.f (a0 : GReader) (a1 : Int) : Option (ByteArray × GReader) := (if a0.Bad = true then (some ((⟨#[]⟩ : ByteArray), (⟨a0.Text, true⟩ : GReader))) else (if (a0.Text.size : Int) < a1 then (some ((⟨#[]⟩ : ByteArray), (⟨a0.Text, true⟩ : GReader))) else (if 0 ≤ 0 then (if 0 ≤ a1 then (if a1 ≤ (a0.Text.size : Int) then (if 0 ≤ a1 then (if a1 ≤ (a0.Text.size : Int) then (if (a0.Text.size : Int) ≤ (a0.Text.size : Int) then (some ((a0.Text.extract (Int.toNat 0) (Int.toNat a1)), (⟨(a0.Text.extract (Int.toNat a1) (Int.toNat (a0.Text.size : Int))), a0.Bad⟩ : GReader))) else none) else none) else none) else none) else none) else none)))
theorem impl_reader_take.le (O : Prim) (hO : O = std) (a0 : GReader) (a1 : Int) : Le F O M fi78.kills impl_reader_take.e (impl_reader_take.f a0 a1) (den O M fi78.kills fi78.fn fi78.body (tab.gives 78) (M 78) [.agg [.lit (.string a0.Text), .lit (.bool a0.Bad)], .one (.lit (.int .i64 a1))] : Tr tab) := by
  refine Le.eqS 0 (by conv => lhs; cbv) ?_
  unfold impl_reader_take.f
  refine Le.condP 8 7 (by subst hO; exact Bool.decide_eq_true) (by conv => lhs; cbv) (by conv => lhs; cbv) ?_ ?_
  · exact Le.ret2 (by subst hO; rfl)
  · refine Le.condP 0 0 (by subst hO; rfl) (by conv => lhs; cbv) (by conv => lhs; cbv) ?_ ?_
    · exact Le.ret2 (by subst hO; rfl)
    · refine Le.guardP 0 (by subst hO; rfl) (by conv => lhs; cbv) ?_
      refine Le.guardP 0 (by subst hO; rfl) (by conv => lhs; cbv) ?_
      refine Le.guardP 0 (by subst hO; rfl) (by conv => lhs; cbv) ?_
      refine Le.guardP 0 (by subst hO; rfl) (by conv => lhs; cbv) ?_
      refine Le.guardP 0 (by subst hO; rfl) (by conv => lhs; cbv) ?_
      refine Le.guardP 0 (by subst hO; rfl) (by conv => lhs; cbv) ?_
      exact Le.ret2 (by subst hO; rfl)
/-! ### (*loop.example/g00100/impl.reader).number -/
def impl_reader_number.e (r : Int × GReader) : Res tab := (([], [[.lit (.string r.2.Text), .lit (.bool r.2.Bad)]]), .one (.lit (.int .i64 r.1)))
def impl_reader_number.f (k : Nat) (a0 : GReader) : Option (Int × GReader) := ((impl_readVar.f k a0.Text).bind fun r0 => (if r0.2 = 0 then ((impl_reader_take.f (⟨a0.Text, true⟩ : GReader) r0.2).bind fun r1 => (some (r0.1, r1.2))) else ((impl_reader_take.f a0 r0.2).bind fun r2 => (some (r0.1, r2.2)))))
theorem impl_reader_number.le (O : Prim) (hO : O = std) (k : Nat) (a0 : GReader) : Le F O M fi41.kills impl_reader_number.e (impl_reader_number.f k a0) (den O M fi41.kills fi41.fn fi41.body (tab.gives 41) (M 41) [.agg [.lit (.string a0.Text), .lit (.bool a0.Bad)]] : Tr tab) := by
  refine Le.eqS 0 (by conv => lhs; cbv) ?_
  unfold impl_reader_number.f
  refine Le.callC 0 (fi := fi77) rfl (impl_readVar.le O hO k a0.Text) (by subst hO; rfl) (by intro r0; conv => lhs; cbv) ?_
  intro r0
  refine Le.condP 0 0 (by subst hO; rfl) (by conv => lhs; cbv) (by conv => lhs; cbv) ?_ ?_
  · refine Le.callC 0 (fi := fi78) rfl (impl_reader_take.le O hO (⟨a0.Text, true⟩ : GReader) r0.2) (by subst hO; rfl) (by intro r1; conv => lhs; cbv) ?_
    intro r1
    exact Le.ret2 (by subst hO; rfl)
  · refine Le.callC 0 (fi := fi78) rfl (impl_reader_take.le O hO a0 r0.2) (by subst hO; rfl) (by intro r2; conv => lhs; cbv) ?_
    intro r2
    exact Le.ret2 (by subst hO; rfl)
/-! ### loop.example/g00100/impl.readText -/
def impl_readText.e (r : ByteArray × Int) : Res tab := (([], []), .tup [(false, [.lit (.string r.1)]), (false, [.lit (.int .i64 r.2)])])
def impl_readText.f (k : Nat) (a0 : ByteArray) : Option (ByteArray × Int) := ((impl_readVar.f k a0).bind fun r0 => (if r0.2 = 0 then (some ((⟨#[]⟩ : ByteArray), 0)) else (if 20000 < r0.1 then (some ((⟨#[]⟩ : ByteArray), 0)) else (if (IntKind.wrap .i64 ((a0.size : Int) - r0.2)) < r0.1 then (some ((⟨#[]⟩ : ByteArray), 0)) else (if 0 ≤ r0.2 then (if r0.2 ≤ (IntKind.wrap .i64 (r0.2 + r0.1)) then (if (IntKind.wrap .i64 (r0.2 + r0.1)) ≤ (a0.size : Int) then (some ((a0.extract (Int.toNat r0.2) (Int.toNat (IntKind.wrap .i64 (r0.2 + r0.1)))), (IntKind.wrap .i64 (r0.2 + r0.1)))) else none) else none) else none)))))
theorem impl_readText.le (O : Prim) (hO : O = std) (k : Nat) (a0 : ByteArray) : Le F O M fi108.kills impl_readText.e (impl_readText.f k a0) (den O M fi108.kills fi108.fn fi108.body (tab.gives 108) (M 108) [.one (.lit (.string a0))] : Tr tab) := by
  refine Le.eqS 0 (by conv => lhs; cbv) ?_
  unfold impl_readText.f
  refine Le.callC 0 (fi := fi77) rfl (impl_readVar.le O hO k a0) (by subst hO; rfl) (by intro r0; conv => lhs; cbv) ?_
  intro r0
  refine Le.condP 10 2 (by subst hO; rfl) (by conv => lhs; cbv) (by conv => lhs; cbv) ?_ ?_
  · exact Le.ret2 (by subst hO; rfl)
  · refine Le.condP 7 6 (by subst hO; rfl) (by conv => lhs; cbv) (by conv => lhs; cbv) ?_ ?_
    · exact Le.ret2 (by subst hO; rfl)
    · refine Le.condP 0 0 (by subst hO; rfl) (by conv => lhs; cbv) (by conv => lhs; cbv) ?_ ?_
      · exact Le.ret2 (by subst hO; rfl)
      · refine Le.guardP 0 (by subst hO; rfl) (by conv => lhs; cbv) ?_
        refine Le.guardP 0 (by subst hO; rfl) (by conv => lhs; cbv) ?_
        refine Le.guardP 0 (by subst hO; rfl) (by conv => lhs; cbv) ?_
        exact Le.ret2 (by subst hO; rfl)
/-! ### (*loop.example/g00100/impl.reader).string -/
def impl_reader_string.e (r : ByteArray × GReader) : Res tab := (([], [[.lit (.string r.2.Text), .lit (.bool r.2.Bad)]]), .one (.lit (.string r.1)))
def impl_reader_string.f (k : Nat) (a0 : GReader) : Option (ByteArray × GReader) := ((impl_readText.f k a0.Text).bind fun r0 => (if r0.2 = 0 then ((impl_reader_take.f (⟨a0.Text, true⟩ : GReader) r0.2).bind fun r1 => (some (r0.1, r1.2))) else ((impl_reader_take.f a0 r0.2).bind fun r2 => (some (r0.1, r2.2)))))
theorem impl_reader_string.le (O : Prim) (hO : O = std) (k : Nat) (a0 : GReader) : Le F O M fi79.kills impl_reader_string.e (impl_reader_string.f k a0) (den O M fi79.kills fi79.fn fi79.body (tab.gives 79) (M 79) [.agg [.lit (.string a0.Text), .lit (.bool a0.Bad)]] : Tr tab) := by
  refine Le.eqS 0 (by conv => lhs; cbv) ?_
  unfold impl_reader_string.f
  refine Le.callC 0 (fi := fi108) rfl (impl_readText.le O hO k a0.Text) (by subst hO; rfl) (by intro r0; conv => lhs; cbv) ?_
  intro r0
  refine Le.condP 0 0 (by subst hO; rfl) (by conv => lhs; cbv) (by conv => lhs; cbv) ?_ ?_
  · refine Le.callC 0 (fi := fi78) rfl (impl_reader_take.le O hO (⟨a0.Text, true⟩ : GReader) r0.2) (by subst hO; rfl) (by intro r1; conv => lhs; cbv) ?_
    intro r1
    exact Le.ret2 (by subst hO; rfl)
  · refine Le.callC 0 (fi := fi78) rfl (impl_reader_take.le O hO a0 r0.2) (by subst hO; rfl) (by intro r2; conv => lhs; cbv) ?_
    intro r2
    exact Le.ret2 (by subst hO; rfl)
/-! ### (*loop.example/g00100/impl.reader).entry -/
def impl_reader_entry.e (r : GEntry × GReader) : Res tab := (([], [[.lit (.string r.2.Text), .lit (.bool r.2.Bad)]]), .agg [.lit (.string r.1.Path), .lit (.int .i64 r.1.Kind), .lit (.int .i64 r.1.Mode), .lit (.int .i64 r.1.Time), .lit (.int .i64 r.1.Size), .lit (.string r.1.Target), .lit (.int .i64 r.1.Group)])
def impl_reader_entry.f (k : Nat) (a0 : GReader) (a1 : GEntry) : Option (GEntry × GReader) := ((impl_reader_number.f k a0).bind fun r0 => ((impl_reader_string.f k r0.2).bind fun r1 => (if (a1.Path.size : Int) < r0.1 then (some ((⟨(⟨#[]⟩ : ByteArray), 0, 0, 0, 0, (⟨#[]⟩ : ByteArray), 0⟩ : GEntry), (⟨r1.2.Text, true⟩ : GReader))) else (if 0 ≤ 0 then (if 0 ≤ r0.1 then (if r0.1 ≤ (a1.Path.size : Int) then (if (((a1.Path.extract (Int.toNat 0) (Int.toNat r0.1)).size : Int) + (r1.1.size : Int)) ≤ 140737488351232 then ((impl_reader_number.f k r1.2).bind fun r2 => (if r2.1 < 4 then ((impl_reader_number.f k r2.2).bind fun r3 => ((impl_reader_number.f k r3.2).bind fun r4 => (if r2.1 = 1 then ((impl_reader_number.f k r4.2).bind fun r5 => ((impl_reader_number.f k r5.2).bind fun r6 => (some ((⟨((a1.Path.extract (Int.toNat 0) (Int.toNat r0.1)) ++ r1.1), r2.1, r3.1, r4.1, r5.1, (⟨#[]⟩ : ByteArray), r6.1⟩ : GEntry), r6.2)))) else (if r2.1 = 2 then ((impl_reader_string.f k r4.2).bind fun r7 => (some ((⟨((a1.Path.extract (Int.toNat 0) (Int.toNat r0.1)) ++ r1.1), r2.1, r3.1, r4.1, 0, r7.1, 0⟩ : GEntry), r7.2))) else (some ((⟨((a1.Path.extract (Int.toNat 0) (Int.toNat r0.1)) ++ r1.1), r2.1, r3.1, r4.1, 0, (⟨#[]⟩ : ByteArray), 0⟩ : GEntry), r4.2)))))) else (if (IntKind.wrap .i64 (r2.1 - 4)) = 1 then ((impl_reader_number.f k r2.2).bind fun r8 => ((impl_reader_number.f k r8.2).bind fun r9 => (some ((⟨((a1.Path.extract (Int.toNat 0) (Int.toNat r0.1)) ++ r1.1), (IntKind.wrap .i64 (r2.1 - 4)), a1.Mode, a1.Time, r8.1, (⟨#[]⟩ : ByteArray), r9.1⟩ : GEntry), r9.2)))) else (if (IntKind.wrap .i64 (r2.1 - 4)) = 2 then ((impl_reader_string.f k r2.2).bind fun r10 => (some ((⟨((a1.Path.extract (Int.toNat 0) (Int.toNat r0.1)) ++ r1.1), (IntKind.wrap .i64 (r2.1 - 4)), a1.Mode, a1.Time, 0, r10.1, 0⟩ : GEntry), r10.2))) else (some ((⟨((a1.Path.extract (Int.toNat 0) (Int.toNat r0.1)) ++ r1.1), (IntKind.wrap .i64 (r2.1 - 4)), a1.Mode, a1.Time, 0, (⟨#[]⟩ : ByteArray), 0⟩ : GEntry), r2.2)))))) else none) else none) else none) else none))))
theorem impl_reader_entry.le (O : Prim) (hO : O = std) (k : Nat) (a0 : GReader) (a1 : GEntry) : Le F O M fi42.kills impl_reader_entry.e (impl_reader_entry.f k a0 a1) (den O M fi42.kills fi42.fn fi42.body (tab.gives 42) (M 42) [.agg [.lit (.string a0.Text), .lit (.bool a0.Bad)], .agg [.lit (.string a1.Path), .lit (.int .i64 a1.Kind), .lit (.int .i64 a1.Mode), .lit (.int .i64 a1.Time), .lit (.int .i64 a1.Size), .lit (.string a1.Target), .lit (.int .i64 a1.Group)]] : Tr tab) := by
  refine Le.eqS 0 (by conv => lhs; cbv) ?_
  unfold impl_reader_entry.f
  refine Le.callC 0 (fi := fi41) rfl (impl_reader_number.le O hO k a0) (by subst hO; rfl) (by intro r0; conv => lhs; cbv) ?_
  intro r0
  refine Le.callC 0 (fi := fi79) rfl (impl_reader_string.le O hO k r0.2) (by subst hO; rfl) (by intro r1; conv => lhs; cbv) ?_
  intro r1
  refine Le.condP 0 0 (by subst hO; rfl) (by conv => lhs; cbv) (by conv => lhs; cbv) ?_ ?_
  · exact Le.ret2 (by subst hO; rfl)
  · refine Le.guardP 0 (by subst hO; rfl) (by conv => lhs; cbv) ?_
    refine Le.guardP 0 (by subst hO; rfl) (by conv => lhs; cbv) ?_
    refine Le.guardP 0 (by subst hO; rfl) (by conv => lhs; cbv) ?_
    refine Le.guardP 0 (by subst hO; rfl) (by conv => lhs; cbv) ?_
    refine Le.both ?_ ?_
    · refine Le.eqS 0 (by conv => lhs; cbv) ?_
      refine Le.callC 0 (fi := fi41) rfl (impl_reader_number.le O hO k r1.2) (by subst hO; rfl) (by intro r2; conv => lhs; cbv) ?_
      intro r2
      refine Le.condP 0 0 (by subst hO; rfl) (by conv => lhs; cbv) (by conv => lhs; cbv) ?_ ?_
      · refine Le.callC 0 (fi := fi41) rfl (impl_reader_number.le O hO k r2.2) (by subst hO; rfl) (by intro r3; conv => lhs; cbv) ?_
        intro r3
        refine Le.callC 0 (fi := fi41) rfl (impl_reader_number.le O hO k r3.2) (by subst hO; rfl) (by intro r4; conv => lhs; cbv) ?_
        intro r4
        refine Le.condP 0 0 (by subst hO; rfl) (by conv => lhs; cbv) (by conv => lhs; cbv) ?_ ?_
        · refine Le.callC 0 (fi := fi41) rfl (impl_reader_number.le O hO k r4.2) (by subst hO; rfl) (by intro r5; conv => lhs; cbv) ?_
          intro r5
          refine Le.callC 0 (fi := fi41) rfl (impl_reader_number.le O hO k r5.2) (by subst hO; rfl) (by intro r6; conv => lhs; cbv) ?_
          intro r6
          exact Le.ret2 (by subst hO; rfl)
        · refine Le.condP 0 0 (by subst hO; rfl) (by conv => lhs; cbv) (by conv => lhs; cbv) ?_ ?_
          · refine Le.callC 0 (fi := fi79) rfl (impl_reader_string.le O hO k r4.2) (by subst hO; rfl) (by intro r7; conv => lhs; cbv) ?_
            intro r7
            exact Le.ret2 (by subst hO; rfl)
          · exact Le.ret2 (by subst hO; rfl)
      · refine Le.condP 0 0 (by subst hO; rfl) (by conv => lhs; cbv) (by conv => lhs; cbv) ?_ ?_
        · refine Le.callC 0 (fi := fi41) rfl (impl_reader_number.le O hO k r2.2) (by subst hO; rfl) (by intro r8; conv => lhs; cbv) ?_
          intro r8
          refine Le.callC 0 (fi := fi41) rfl (impl_reader_number.le O hO k r8.2) (by subst hO; rfl) (by intro r9; conv => lhs; cbv) ?_
          intro r9
          exact Le.ret2 (by subst hO; rfl)
        · refine Le.condP 0 0 (by subst hO; rfl) (by conv => lhs; cbv) (by conv => lhs; cbv) ?_ ?_
          · refine Le.callC 0 (fi := fi79) rfl (impl_reader_string.le O hO k r2.2) (by subst hO; rfl) (by intro r10; conv => lhs; cbv) ?_
            intro r10
            exact Le.ret2 (by subst hO; rfl)
          · exact Le.ret2 (by subst hO; rfl)
    · refine Le.eqS 0 (by conv => lhs; cbv) ?_
      refine Le.callC 0 (fi := fi41) rfl (impl_reader_number.le O hO k r1.2) (by subst hO; rfl) (by intro r2; conv => lhs; cbv) ?_
      intro r2
      refine Le.condP 0 0 (by subst hO; rfl) (by conv => lhs; cbv) (by conv => lhs; cbv) ?_ ?_
      · refine Le.callC 0 (fi := fi41) rfl (impl_reader_number.le O hO k r2.2) (by subst hO; rfl) (by intro r3; conv => lhs; cbv) ?_
        intro r3
        refine Le.callC 0 (fi := fi41) rfl (impl_reader_number.le O hO k r3.2) (by subst hO; rfl) (by intro r4; conv => lhs; cbv) ?_
        intro r4
        refine Le.condP 0 0 (by subst hO; rfl) (by conv => lhs; cbv) (by conv => lhs; cbv) ?_ ?_
        · refine Le.callC 0 (fi := fi41) rfl (impl_reader_number.le O hO k r4.2) (by subst hO; rfl) (by intro r5; conv => lhs; cbv) ?_
          intro r5
          refine Le.callC 0 (fi := fi41) rfl (impl_reader_number.le O hO k r5.2) (by subst hO; rfl) (by intro r6; conv => lhs; cbv) ?_
          intro r6
          exact Le.ret2 (by subst hO; rfl)
        · refine Le.condP 0 0 (by subst hO; rfl) (by conv => lhs; cbv) (by conv => lhs; cbv) ?_ ?_
          · refine Le.callC 0 (fi := fi79) rfl (impl_reader_string.le O hO k r4.2) (by subst hO; rfl) (by intro r7; conv => lhs; cbv) ?_
            intro r7
            exact Le.ret2 (by subst hO; rfl)
          · exact Le.ret2 (by subst hO; rfl)
      · refine Le.condP 0 0 (by subst hO; rfl) (by conv => lhs; cbv) (by conv => lhs; cbv) ?_ ?_
        · refine Le.callC 0 (fi := fi41) rfl (impl_reader_number.le O hO k r2.2) (by subst hO; rfl) (by intro r8; conv => lhs; cbv) ?_
          intro r8
          refine Le.callC 0 (fi := fi41) rfl (impl_reader_number.le O hO k r8.2) (by subst hO; rfl) (by intro r9; conv => lhs; cbv) ?_
          intro r9
          exact Le.ret2 (by subst hO; rfl)
        · refine Le.condP 0 0 (by subst hO; rfl) (by conv => lhs; cbv) (by conv => lhs; cbv) ?_ ?_
          · refine Le.callC 0 (fi := fi79) rfl (impl_reader_string.le O hO k r2.2) (by subst hO; rfl) (by intro r10; conv => lhs; cbv) ?_
            intro r10
            exact Le.ret2 (by subst hO; rfl)
          · exact Le.ret2 (by subst hO; rfl)
/-! ### loop.example/g00100/impl.GetEntries -/
def impl_GetEntries.e (r : List GEntry × Bool) : Res tab := (([], []), .tup [(false, [.imm 42 r.1]), (false, [.lit (.bool r.2)])])
def impl_GetEntries.l0 : Nat → (List Int) → (Int × GReader) → (List GEntry) → Int → ByteArray → Int → Int → Int → Int → ByteArray → Int → ByteArray → Bool → Option (List GEntry × Bool)
  | 0, _, _, _, _, _, _, _, _, _, _, _, _, _ => none
  | k + 1, a0, r0, x_14, x_15, b_16, b_17, b_18, b_19, b_20, b_21, b_22, b_23, b_24 => (if x_15 < r0.1 then (if x_15 ≤ 200 then (if b_24 = true then (if b_24 = true then (some (([] : List GEntry), false)) else ((impl_EntriesOk.f k x_14).bind fun r26 => (if r26 = true then ((impl_entriesText.f k x_14).bind fun r27 => (if r27 = (std.strOf a0) then (some (x_14, true)) else (some (([] : List GEntry), false)))) else (some (([] : List GEntry), false))))) else ((impl_reader_entry.f k (⟨b_23, b_24⟩ : GReader) (⟨b_16, b_17, b_18, b_19, b_20, b_21, b_22⟩ : GEntry)).bind fun r25 => (if (((x_14.length : Int) + ([r25.1].length : Int)) * 72) ≤ 140737488351232 then (impl_GetEntries.l0 k a0 r0 (x_14 ++ [r25.1]) (IntKind.wrap .i64 (x_15 + 1)) r25.1.Path r25.1.Kind r25.1.Mode r25.1.Time r25.1.Size r25.1.Target r25.1.Group r25.2.Text r25.2.Bad) else none))) else (if b_24 = true then (some (([] : List GEntry), false)) else ((impl_EntriesOk.f k x_14).bind fun r28 => (if r28 = true then ((impl_entriesText.f k x_14).bind fun r29 => (if r29 = (std.strOf a0) then (some (x_14, true)) else (some (([] : List GEntry), false)))) else (some (([] : List GEntry), false)))))) else (if b_24 = true then (some (([] : List GEntry), false)) else ((impl_EntriesOk.f k x_14).bind fun r30 => (if r30 = true then ((impl_entriesText.f k x_14).bind fun r31 => (if r31 = (std.strOf a0) then (some (x_14, true)) else (some (([] : List GEntry), false)))) else (some (([] : List GEntry), false))))))
def impl_GetEntries.f (k : Nat) (a0 : List Int) : Option (List GEntry × Bool) := ((impl_reader_number.f k (⟨(std.strOf a0), false⟩ : GReader)).bind fun r0 => (impl_GetEntries.l0 k a0 r0 ([] : List GEntry) 0 (⟨#[]⟩ : ByteArray) 0 0 0 0 (⟨#[]⟩ : ByteArray) 0 r0.2.Text r0.2.Bad))
theorem impl_GetEntries.le (O : Prim) (hO : O = std) (k : Nat) (a0 : List Int) : Le F O M fi14.kills impl_GetEntries.e (impl_GetEntries.f k a0) (den O M fi14.kills fi14.fn fi14.body (tab.gives 14) (M 14) [.one (.imm 5 a0)] : Tr tab) := by
  refine Le.eqS 0 (by conv => lhs; cbv) ?_
  unfold impl_GetEntries.f
  refine Le.callC 0 (fi := fi41) rfl (impl_reader_number.le O hO k (⟨(O.strOf a0), false⟩ : GReader)) (by subst hO; rfl) (by intro r0; conv => lhs; cbv) ?_
  intro r0
  refine Le.loopS (fun (n : Nat) (v : List GEntry × Int × ByteArray × Int × Int × Int × Int × ByteArray × Int × ByteArray × Bool) => impl_GetEntries.l0 n a0 r0 v.1 v.2.1 v.2.2.1 v.2.2.2.1 v.2.2.2.2.1 v.2.2.2.2.2.1 v.2.2.2.2.2.2.1 v.2.2.2.2.2.2.2.1 v.2.2.2.2.2.2.2.2.1 v.2.2.2.2.2.2.2.2.2.1 v.2.2.2.2.2.2.2.2.2.2) (fun (v : List GEntry × Int × ByteArray × Int × Int × Int × Int × ByteArray × Int × ByteArray × Bool) => match v with | (x_14, x_15, b_16, b_17, b_18, b_19, b_20, b_21, b_22, b_23, b_24) => (⟨[], [.one (.imm 5 a0), D_, D_, D_, .one (.ptr ⟨27, 0, []⟩), .one (.lit (.int .i64 r0.1)), .one (.own 42 x_14), .one (.ptr ⟨17, 0, []⟩), .one (.lit (.int .i64 x_15)), D_, D_, D_, D_, D_, D_, D_, D_, D_, D_, D_, D_, D_, D_, D_, D_, D_, D_, D_, D_, D_, D_, D_, D_, D_, D_, D_, D_, D_, D_, D_, D_, D_, D_, D_, D_, D_, D_, D_, D_, D_, D_, D_, D_, D_, D_, D_], [[], [], [], [], [], [], [], [.lit (.string b_16), .lit (.int .i64 b_17), .lit (.int .i64 b_18), .lit (.int .i64 b_19), .lit (.int .i64 b_20), .lit (.string b_21), .lit (.int .i64 b_22)], [], [], [], [], [.lit (.string b_23), .lit (.bool b_24)], [], [], [], [], [], [], [], [], [], [], [], [], [], [], [], [], [], [], [], [], [], [], [], [], [], [], [], [], [], [], [], [], [], [], [], [], [], [], [], [], [], [], [], []], []⟩ : S tab)) k (([] : List GEntry), 0, (⟨#[]⟩ : ByteArray), 0, 0, 0, 0, (⟨#[]⟩ : ByteArray), 0, r0.2.Text, r0.2.Bad) (by subst hO; rfl) rfl (fun _ => rfl) ?_
  intro n0 hn0 ih0 v0
  obtain ⟨x_14, x_15, b_16, b_17, b_18, b_19, b_20, b_21, b_22, b_23, b_24⟩ := v0
  refine Le.eqS 0 (by conv => lhs; cbv) ?_
  show Le F O M _ _ (impl_GetEntries.l0 (n0 + 1) a0 r0 x_14 x_15 b_16 b_17 b_18 b_19 b_20 b_21 b_22 b_23 b_24) _
  rw [impl_GetEntries.l0]
  refine Le.condP 2 9 (by subst hO; rfl) (by conv => lhs; cbv) (by conv => lhs; cbv) ?_ ?_
  · refine Le.condP 5 6 (by subst hO; rfl) (by conv => lhs; cbv) (by conv => lhs; cbv) ?_ ?_
    · refine Le.condN 0 0 (by subst hO; exact Bool.decide_eq_true.trans (Bool.not_not _).symm) (by conv => lhs; cbv) (by conv => lhs; cbv) ?_ ?_
      · refine Le.callC 0 (fi := fi42) rfl (impl_reader_entry.le O hO n0 (⟨b_23, b_24⟩ : GReader) (⟨b_16, b_17, b_18, b_19, b_20, b_21, b_22⟩ : GEntry)) (by subst hO; rfl) (by intro r25; conv => lhs; cbv) ?_
        intro r25
        refine Le.guardP 0 (by subst hO; rfl) (by conv => lhs; cbv) ?_
        exact Le.again (ih0 n0 (by omega) ((O.app x_14 [r25.1]), (O.wrap .i64 (O.add x_15 1)), r25.1.Path, r25.1.Kind, r25.1.Mode, r25.1.Time, r25.1.Size, r25.1.Target, r25.1.Group, r25.2.Text, r25.2.Bad)) (by subst hO; rfl) rfl
      · refine Le.condP 10 1 (by subst hO; exact Bool.decide_eq_true) (by conv => lhs; cbv) (by conv => lhs; cbv) ?_ ?_
        · exact Le.ret2 (by subst hO; rfl)
        · refine Le.callC 2 (fi := fi24) rfl (impl_EntriesOk.le O hO n0 x_14) (by subst hO; rfl) (by intro r26; conv => lhs; cbv) ?_
          intro r26
          refine Le.condN 6 3 (by subst hO; exact Bool.decide_eq_true.trans (Bool.not_not _).symm) (by conv => lhs; cbv) (by conv => lhs; cbv) ?_ ?_
          · exact Le.ret2 (by subst hO; rfl)
          · refine Le.callC 2 (fi := fi43) rfl (impl_entriesText.le O hO n0 x_14) (by subst hO; rfl) (by intro r27; conv => lhs; cbv) ?_
            intro r27
            refine Le.condN 0 0 (by subst hO; exact (seq_dec _ _).trans (Bool.not_not _).symm) (by conv => lhs; cbv) (by conv => lhs; cbv) ?_ ?_
            · exact Le.ret2 (by subst hO; rfl)
            · exact Le.ret2 (by subst hO; rfl)
    · refine Le.condP 10 1 (by subst hO; exact Bool.decide_eq_true) (by conv => lhs; cbv) (by conv => lhs; cbv) ?_ ?_
      · exact Le.ret2 (by subst hO; rfl)
      · refine Le.callC 2 (fi := fi24) rfl (impl_EntriesOk.le O hO n0 x_14) (by subst hO; rfl) (by intro r28; conv => lhs; cbv) ?_
        intro r28
        refine Le.condN 6 3 (by subst hO; exact Bool.decide_eq_true.trans (Bool.not_not _).symm) (by conv => lhs; cbv) (by conv => lhs; cbv) ?_ ?_
        · exact Le.ret2 (by subst hO; rfl)
        · refine Le.callC 2 (fi := fi43) rfl (impl_entriesText.le O hO n0 x_14) (by subst hO; rfl) (by intro r29; conv => lhs; cbv) ?_
          intro r29
          refine Le.condN 0 0 (by subst hO; exact (seq_dec _ _).trans (Bool.not_not _).symm) (by conv => lhs; cbv) (by conv => lhs; cbv) ?_ ?_
          · exact Le.ret2 (by subst hO; rfl)
          · exact Le.ret2 (by subst hO; rfl)
  · refine Le.condP 10 1 (by subst hO; exact Bool.decide_eq_true) (by conv => lhs; cbv) (by conv => lhs; cbv) ?_ ?_
    · exact Le.ret2 (by subst hO; rfl)
    · refine Le.callC 2 (fi := fi24) rfl (impl_EntriesOk.le O hO n0 x_14) (by subst hO; rfl) (by intro r30; conv => lhs; cbv) ?_
      intro r30
      refine Le.condN 6 3 (by subst hO; exact Bool.decide_eq_true.trans (Bool.not_not _).symm) (by conv => lhs; cbv) (by conv => lhs; cbv) ?_ ?_
      · exact Le.ret2 (by subst hO; rfl)
      · refine Le.callC 2 (fi := fi43) rfl (impl_entriesText.le O hO n0 x_14) (by subst hO; rfl) (by intro r31; conv => lhs; cbv) ?_
        intro r31
        refine Le.condN 0 0 (by subst hO; exact (seq_dec _ _).trans (Bool.not_not _).symm) (by conv => lhs; cbv) (by conv => lhs; cbv) ?_ ?_
        · exact Le.ret2 (by subst hO; rfl)
        · exact Le.ret2 (by subst hO; rfl)
/-! ### loop.example/g00100/spec.NodeOk -/
def spec_NodeOk.e (r : Bool) : Res tab := (([], []), .one (.lit (.bool r)))
def spec_NodeOk.l1 : Nat → GNode → Int → Option Bool
  | 0, _, _ => none
  | k + 1, a0, x_6 => (if x_6 < (a0.Target.size : Int) then (if 0 ≤ x_6 then (if x_6 < (a0.Target.size : Int) then (if (std.sget a0.Target x_6) = 10 then (some false) else (spec_NodeOk.l1 k a0 (IntKind.wrap .i64 (x_6 + 1)))) else none) else none) else (some true))
def spec_NodeOk.f (k : Nat) (a0 : GNode) : Option Bool := ((spec_PathOk.f k a0.Path).bind fun r0 => (if r0 = true then ((spec_l01In.f a0.Mode 0 511).bind fun r1 => (if r1 = true then ((spec_l01In.f a0.Time 0 1000000000).bind fun r2 => (if r2 = true then (if a0.Kind = 0 then (if a0.Data = (⟨#[]⟩ : ByteArray) then (if a0.Target = (⟨#[]⟩ : ByteArray) then (some (decide (a0.Group = 0))) else (some false)) else (some false)) else (if a0.Kind = 1 then (if (a0.Data.size : Int) ≤ 20000 then (if a0.Target = (⟨#[]⟩ : ByteArray) then ((spec_l01In.f a0.Group 0 200).bind fun r3 => (some r3)) else (some false)) else (some false)) else (if a0.Kind = 2 then (if a0.Data = (⟨#[]⟩ : ByteArray) then (if a0.Mode = 0 then (if a0.Group = 0 then ((spec_l01In.f (a0.Target.size : Int) 1 60).bind fun r4 => (if r4 = true then (spec_NodeOk.l1 k a0 0) else (some false))) else (some false)) else (some false)) else (some false)) else (some false)))) else (some false))) else (some false))) else (some false)))
theorem spec_NodeOk.le (O : Prim) (hO : O = std) (k : Nat) (a0 : GNode) : Le F O M fi34.kills spec_NodeOk.e (spec_NodeOk.f k a0) (den O M fi34.kills fi34.fn fi34.body (tab.gives 34) (M 34) [.agg [.lit (.string a0.Path), .lit (.int .i64 a0.Kind), .lit (.int .i64 a0.Mode), .lit (.int .i64 a0.Time), .lit (.string a0.Data), .lit (.string a0.Target), .lit (.int .i64 a0.Group)]] : Tr tab) := by
  refine Le.eqS 0 (by conv => lhs; cbv) ?_
  unfold spec_NodeOk.f
  refine Le.callC 0 (fi := fi66) rfl (spec_PathOk.le O hO k a0.Path) (by subst hO; rfl) (by intro r0; conv => lhs; cbv) ?_
  intro r0
  refine Le.condN 10 2 (by subst hO; exact Bool.decide_eq_true.trans (Bool.not_not _).symm) (by conv => lhs; cbv) (by conv => lhs; cbv) ?_ ?_
  · exact Le.ret2 (by subst hO; rfl)
  · refine Le.callC 2 (fi := fi67) rfl (spec_l01In.le O hO a0.Mode 0 511) (by subst hO; rfl) (by intro r1; conv => lhs; cbv) ?_
    intro r1
    refine Le.condN 5 2 (by subst hO; exact Bool.decide_eq_true.trans (Bool.not_not _).symm) (by conv => lhs; cbv) (by conv => lhs; cbv) ?_ ?_
    · exact Le.ret2 (by subst hO; rfl)
    · refine Le.callC 2 (fi := fi67) rfl (spec_l01In.le O hO a0.Time 0 1000000000) (by subst hO; rfl) (by intro r2; conv => lhs; cbv) ?_
      intro r2
      refine Le.condN 0 0 (by subst hO; exact Bool.decide_eq_true.trans (Bool.not_not _).symm) (by conv => lhs; cbv) (by conv => lhs; cbv) ?_ ?_
      · exact Le.ret2 (by subst hO; rfl)
      · refine Le.condP 0 0 (by subst hO; rfl) (by conv => lhs; cbv) (by conv => lhs; cbv) ?_ ?_
        · refine Le.condP 3 7 (by subst hO; exact seq_dec _ _) (by conv => lhs; cbv) (by conv => lhs; cbv) ?_ ?_
          · refine Le.condP 3 3 (by subst hO; exact seq_dec _ _) (by conv => lhs; cbv) (by conv => lhs; cbv) ?_ ?_
            · exact Le.ret2 (by subst hO; rfl)
            · exact Le.ret2 (by subst hO; rfl)
          · exact Le.ret2 (by subst hO; rfl)
        · refine Le.condP 0 0 (by subst hO; rfl) (by conv => lhs; cbv) (by conv => lhs; cbv) ?_ ?_
          · refine Le.condP 3 7 (by subst hO; rfl) (by conv => lhs; cbv) (by conv => lhs; cbv) ?_ ?_
            · refine Le.condP 2 3 (by subst hO; exact seq_dec _ _) (by conv => lhs; cbv) (by conv => lhs; cbv) ?_ ?_
              · refine Le.callC 1 (fi := fi67) rfl (spec_l01In.le O hO a0.Group 0 200) (by subst hO; rfl) (by intro r3; conv => lhs; cbv) ?_
                intro r3
                exact Le.ret2 (by subst hO; rfl)
              · exact Le.ret2 (by subst hO; rfl)
            · exact Le.ret2 (by subst hO; rfl)
          · refine Le.condP 0 0 (by subst hO; rfl) (by conv => lhs; cbv) (by conv => lhs; cbv) ?_ ?_
            · refine Le.condN 14 3 (by subst hO; exact (seq_dec _ _).trans (Bool.not_not _).symm) (by conv => lhs; cbv) (by conv => lhs; cbv) ?_ ?_
              · exact Le.ret2 (by subst hO; rfl)
              · refine Le.condN 10 3 (by subst hO; exact (Bool.not_not _).symm) (by conv => lhs; cbv) (by conv => lhs; cbv) ?_ ?_
                · exact Le.ret2 (by subst hO; rfl)
                · refine Le.condN 6 3 (by subst hO; exact (Bool.not_not _).symm) (by conv => lhs; cbv) (by conv => lhs; cbv) ?_ ?_
                  · exact Le.ret2 (by subst hO; rfl)
                  · refine Le.callC 2 (fi := fi67) rfl (spec_l01In.le O hO (O.ssize a0.Target) 1 60) (by subst hO; rfl) (by intro r4; conv => lhs; cbv) ?_
                    intro r4
                    refine Le.condN 0 0 (by subst hO; exact Bool.decide_eq_true.trans (Bool.not_not _).symm) (by conv => lhs; cbv) (by conv => lhs; cbv) ?_ ?_
                    · exact Le.ret2 (by subst hO; rfl)
                    · refine Le.loopS (fun (n : Nat) (v : Int) => spec_NodeOk.l1 n a0 v) (fun (x_6 : Int) => (⟨[], [D_, .one (.ptr ⟨5, 0, []⟩), D_, .one (.lit (.int .i64 x_6)), D_, D_, D_, D_, D_, D_, D_, D_, D_, D_, D_, D_, D_, D_, D_, D_, D_, D_, D_, D_, D_, D_, D_, D_, D_, D_, D_, D_, D_, D_, D_, D_, D_, D_, D_, D_, D_, D_, D_, D_, D_, D_, D_, D_, D_, D_, D_, D_, D_, D_, D_, D_, D_, D_, D_, D_, D_, D_, D_, D_, D_, D_, D_, D_, D_, D_, D_, D_, D_, D_, D_, D_, D_, D_, D_, D_, D_, D_, D_, D_, D_, D_, D_], [[], [.lit (.string a0.Path), .lit (.int .i64 a0.Kind), .lit (.int .i64 a0.Mode), .lit (.int .i64 a0.Time), .lit (.string a0.Data), .lit (.string a0.Target), .lit (.int .i64 a0.Group)], [], [], [], [], [], [], [], [], [], [], [], [], [], [], [], [], [], [], [], [], [], [], [], [], [], [], [], [], [], [], [], [], [], [], [], [], [], [], [], [], [], [], [], [], [], [], [], [], [], [], [], [], [], [], [], [], [], [], [], [], [], [], [], [], [], [], [], [], [], [], [], [], [], [], [], [], [], [], [], [], [], [], [], [], [], []], []⟩ : S tab)) k 0 (by subst hO; rfl) rfl (fun _ => rfl) ?_
                      intro n1 hn1 ih1 x_6
                      refine Le.eqS 0 (by conv => lhs; cbv) ?_
                      show Le F O M _ _ (spec_NodeOk.l1 (n1 + 1) a0 x_6) _
                      rw [spec_NodeOk.l1]
                      refine Le.condP 0 0 (by subst hO; rfl) (by conv => lhs; cbv) (by conv => lhs; cbv) ?_ ?_
                      · refine Le.guardP 0 (by subst hO; rfl) (by conv => lhs; cbv) ?_
                        refine Le.guardP 0 (by subst hO; rfl) (by conv => lhs; cbv) ?_
                        refine Le.condP 0 0 (by subst hO; rfl) (by conv => lhs; cbv) (by conv => lhs; cbv) ?_ ?_
                        · exact Le.ret2 (by subst hO; rfl)
                        · exact Le.again (ih1 n1 (by omega) (O.wrap .i64 (O.add x_6 1))) (by subst hO; rfl) rfl
                      · exact Le.ret2 (by subst hO; rfl)
            · exact Le.ret2 (by subst hO; rfl)
/-! ### loop.example/g00100/spec.EntriesOk -/
def spec_EntriesOk.e (r : Bool) : Res tab := (([], []), .one (.lit (.bool r)))
def spec_EntriesOk.l0 : Nat → (List GEntry) → Int → Option Bool
  | 0, _, _ => none
  | k + 1, a0, x_5 => (if x_5 < (a0.length : Int) then (if 0 ≤ x_5 then (if x_5 < (a0.length : Int) then ((spec_NodeOk.f k (⟨(a0.getD (Int.toNat x_5) (⟨(⟨#[]⟩ : ByteArray), 0, 0, 0, 0, (⟨#[]⟩ : ByteArray), 0⟩ : GEntry)).Path, (a0.getD (Int.toNat x_5) (⟨(⟨#[]⟩ : ByteArray), 0, 0, 0, 0, (⟨#[]⟩ : ByteArray), 0⟩ : GEntry)).Kind, (a0.getD (Int.toNat x_5) (⟨(⟨#[]⟩ : ByteArray), 0, 0, 0, 0, (⟨#[]⟩ : ByteArray), 0⟩ : GEntry)).Mode, (a0.getD (Int.toNat x_5) (⟨(⟨#[]⟩ : ByteArray), 0, 0, 0, 0, (⟨#[]⟩ : ByteArray), 0⟩ : GEntry)).Time, (⟨#[]⟩ : ByteArray), (a0.getD (Int.toNat x_5) (⟨(⟨#[]⟩ : ByteArray), 0, 0, 0, 0, (⟨#[]⟩ : ByteArray), 0⟩ : GEntry)).Target, (a0.getD (Int.toNat x_5) (⟨(⟨#[]⟩ : ByteArray), 0, 0, 0, 0, (⟨#[]⟩ : ByteArray), 0⟩ : GEntry)).Group⟩ : GNode)).bind fun r6 => (if r6 = true then ((spec_l01In.f (a0.getD (Int.toNat x_5) (⟨(⟨#[]⟩ : ByteArray), 0, 0, 0, 0, (⟨#[]⟩ : ByteArray), 0⟩ : GEntry)).Size 0 20000).bind fun r7 => (if r7 = true then (if (a0.getD (Int.toNat x_5) (⟨(⟨#[]⟩ : ByteArray), 0, 0, 0, 0, (⟨#[]⟩ : ByteArray), 0⟩ : GEntry)).Kind = 1 then (if 0 < x_5 then (if 0 ≤ (IntKind.wrap .i64 (x_5 - 1)) then (if (IntKind.wrap .i64 (x_5 - 1)) < (a0.length : Int) then (if (std.slt (a0.getD (Int.toNat (IntKind.wrap .i64 (x_5 - 1))) (⟨(⟨#[]⟩ : ByteArray), 0, 0, 0, 0, (⟨#[]⟩ : ByteArray), 0⟩ : GEntry)).Path (a0.getD (Int.toNat x_5) (⟨(⟨#[]⟩ : ByteArray), 0, 0, 0, 0, (⟨#[]⟩ : ByteArray), 0⟩ : GEntry)).Path) = true then (spec_EntriesOk.l0 k a0 (IntKind.wrap .i64 (x_5 + 1))) else (some false)) else none) else none) else (spec_EntriesOk.l0 k a0 (IntKind.wrap .i64 (x_5 + 1)))) else (if (a0.getD (Int.toNat x_5) (⟨(⟨#[]⟩ : ByteArray), 0, 0, 0, 0, (⟨#[]⟩ : ByteArray), 0⟩ : GEntry)).Size = 0 then (if 0 < x_5 then (if 0 ≤ (IntKind.wrap .i64 (x_5 - 1)) then (if (IntKind.wrap .i64 (x_5 - 1)) < (a0.length : Int) then (if (std.slt (a0.getD (Int.toNat (IntKind.wrap .i64 (x_5 - 1))) (⟨(⟨#[]⟩ : ByteArray), 0, 0, 0, 0, (⟨#[]⟩ : ByteArray), 0⟩ : GEntry)).Path (a0.getD (Int.toNat x_5) (⟨(⟨#[]⟩ : ByteArray), 0, 0, 0, 0, (⟨#[]⟩ : ByteArray), 0⟩ : GEntry)).Path) = true then (spec_EntriesOk.l0 k a0 (IntKind.wrap .i64 (x_5 + 1))) else (some false)) else none) else none) else (spec_EntriesOk.l0 k a0 (IntKind.wrap .i64 (x_5 + 1)))) else (some false))) else (some false))) else (some false))) else none) else none) else (some true))
def spec_EntriesOk.f (k : Nat) (a0 : List GEntry) : Option Bool := (if 200 < (a0.length : Int) then (some false) else (spec_EntriesOk.l0 k a0 0))
theorem spec_EntriesOk.le (O : Prim) (hO : O = std) (k : Nat) (a0 : List GEntry) : Le F O M fi50.kills spec_EntriesOk.e (spec_EntriesOk.f k a0) (den O M fi50.kills fi50.fn fi50.body (tab.gives 50) (M 50) [.one (.imm 42 a0)] : Tr tab) := by
  refine Le.eqS 0 (by conv => lhs; cbv) ?_
  unfold spec_EntriesOk.f
  refine Le.condP 0 0 (by subst hO; rfl) (by conv => lhs; cbv) (by conv => lhs; cbv) ?_ ?_
  · exact Le.ret2 (by subst hO; rfl)
  · refine Le.loopS (fun (n : Nat) (v : Int) => spec_EntriesOk.l0 n a0 v) (fun (x_5 : Int) => (⟨[], [.one (.imm 42 a0), D_, D_, .one (.lit (.int .i64 x_5)), D_, D_, D_, D_, D_, D_, D_, D_, D_, D_, D_, D_, D_, D_, D_, D_, D_, D_, D_, D_, D_, D_, D_, D_, D_, D_, D_, D_, D_, D_, D_, D_, D_, D_, D_, D_, D_, D_, D_, D_, D_, D_, D_, D_, D_, D_, D_, D_, D_, D_, D_, D_, D_, D_, D_, D_, D_, D_, D_, D_, D_, D_], [[], [], [], [], [], [], [], [], [], [], [], [], [], [], [], [], [], [], [], [], [], [], [], [], [], [], [], [], [], [], [], [], [], [], [], [], [], [], [], [], [], [], [], [], [], [], [], [], [], [], [], [], [], [], [], [], [], [], [], [], [], [], [], [], [], [], []], []⟩ : S tab)) k 0 (by subst hO; rfl) rfl (fun _ => rfl) ?_
    intro n0 hn0 ih0 x_5
    refine Le.eqS 0 (by conv => lhs; cbv) ?_
    show Le F O M _ _ (spec_EntriesOk.l0 (n0 + 1) a0 x_5) _
    rw [spec_EntriesOk.l0]
    refine Le.condP 0 0 (by subst hO; rfl) (by conv => lhs; cbv) (by conv => lhs; cbv) ?_ ?_
    · refine Le.guardP 0 (by subst hO; rfl) (by conv => lhs; cbv) ?_
      refine Le.guardP 0 (by subst hO; rfl) (by conv => lhs; cbv) ?_
      refine Le.callC 0 (fi := fi34) rfl (spec_NodeOk.le O hO n0 (⟨(O.get (⟨(⟨#[]⟩ : ByteArray), 0, 0, 0, 0, (⟨#[]⟩ : ByteArray), 0⟩ : GEntry) a0 x_5).Path, (O.get (⟨(⟨#[]⟩ : ByteArray), 0, 0, 0, 0, (⟨#[]⟩ : ByteArray), 0⟩ : GEntry) a0 x_5).Kind, (O.get (⟨(⟨#[]⟩ : ByteArray), 0, 0, 0, 0, (⟨#[]⟩ : ByteArray), 0⟩ : GEntry) a0 x_5).Mode, (O.get (⟨(⟨#[]⟩ : ByteArray), 0, 0, 0, 0, (⟨#[]⟩ : ByteArray), 0⟩ : GEntry) a0 x_5).Time, (⟨#[]⟩ : ByteArray), (O.get (⟨(⟨#[]⟩ : ByteArray), 0, 0, 0, 0, (⟨#[]⟩ : ByteArray), 0⟩ : GEntry) a0 x_5).Target, (O.get (⟨(⟨#[]⟩ : ByteArray), 0, 0, 0, 0, (⟨#[]⟩ : ByteArray), 0⟩ : GEntry) a0 x_5).Group⟩ : GNode)) (by subst hO; rfl) (by intro r6; conv => lhs; cbv) ?_
      intro r6
      refine Le.condN 16 2 (by subst hO; exact Bool.decide_eq_true.trans (Bool.not_not _).symm) (by conv => lhs; cbv) (by conv => lhs; cbv) ?_ ?_
      · exact Le.ret2 (by subst hO; rfl)
      · refine Le.callC 2 (fi := fi67) rfl (spec_l01In.le O hO (O.get (⟨(⟨#[]⟩ : ByteArray), 0, 0, 0, 0, (⟨#[]⟩ : ByteArray), 0⟩ : GEntry) a0 x_5).Size 0 20000) (by subst hO; rfl) (by intro r7; conv => lhs; cbv) ?_
        intro r7
        refine Le.condN 11 3 (by subst hO; exact Bool.decide_eq_true.trans (Bool.not_not _).symm) (by conv => lhs; cbv) (by conv => lhs; cbv) ?_ ?_
        · exact Le.ret2 (by subst hO; rfl)
        · refine Le.condN 5 8 (by subst hO; exact (Bool.not_not _).symm) (by conv => lhs; cbv) (by conv => lhs; cbv) ?_ ?_
          · refine Le.condN 5 2 (by subst hO; exact (Bool.not_not _).symm) (by conv => lhs; cbv) (by conv => lhs; cbv) ?_ ?_
            · exact Le.ret2 (by subst hO; rfl)
            · refine Le.condP 3 12 (by subst hO; rfl) (by conv => lhs; cbv) (by conv => lhs; cbv) ?_ ?_
              · refine Le.guardP 0 (by subst hO; rfl) (by conv => lhs; cbv) ?_
                refine Le.guardP 8 (by subst hO; rfl) (by conv => lhs; cbv) ?_
                refine Le.condN 0 0 (by subst hO; exact Bool.decide_eq_true.trans (Bool.not_not _).symm) (by conv => lhs; cbv) (by conv => lhs; cbv) ?_ ?_
                · exact Le.ret2 (by subst hO; rfl)
                · exact Le.again (ih0 n0 (by omega) (O.wrap .i64 (O.add x_5 1))) (by subst hO; rfl) rfl
              · exact Le.again (ih0 n0 (by omega) (O.wrap .i64 (O.add x_5 1))) (by subst hO; rfl) rfl
          · refine Le.condP 3 12 (by subst hO; rfl) (by conv => lhs; cbv) (by conv => lhs; cbv) ?_ ?_
            · refine Le.guardP 0 (by subst hO; rfl) (by conv => lhs; cbv) ?_
              refine Le.guardP 8 (by subst hO; rfl) (by conv => lhs; cbv) ?_
              refine Le.condN 0 0 (by subst hO; exact Bool.decide_eq_true.trans (Bool.not_not _).symm) (by conv => lhs; cbv) (by conv => lhs; cbv) ?_ ?_
              · exact Le.ret2 (by subst hO; rfl)
              · exact Le.again (ih0 n0 (by omega) (O.wrap .i64 (O.add x_5 1))) (by subst hO; rfl) rfl
            · exact Le.again (ih0 n0 (by omega) (O.wrap .i64 (O.add x_5 1))) (by subst hO; rfl) rfl
    · exact Le.ret2 (by subst hO; rfl)
/-! ### loop.example/g00100/spec.PutVar -/
def spec_PutVar.e (r : List Int) : Res tab := (([], []), .one (.own 5 r))
def spec_PutVar.l0 : Nat → Int → (List Int) → Option (List Int)
  | 0, _, _ => none
  | k + 1, x_2, x_3 => (if 128 ≤ x_2 then (if 128 = 0 then none else (if (((x_3.length : Int) + ([(IntKind.wrap .u8 (IntKind.wrap .i64 (128 + (Int.tmod x_2 128))))].length : Int)) * 1) ≤ 140737488351232 then (if 128 = 0 then none else (spec_PutVar.l0 k (IntKind.wrap .i64 (Int.tdiv x_2 128)) (x_3 ++ [(IntKind.wrap .u8 (IntKind.wrap .i64 (128 + (Int.tmod x_2 128))))]))) else none)) else (if (((x_3.length : Int) + ([(IntKind.wrap .u8 x_2)].length : Int)) * 1) ≤ 140737488351232 then (some (x_3 ++ [(IntKind.wrap .u8 x_2)])) else none))
def spec_PutVar.f (k : Nat) (a0 : Int) : Option (List Int) := (if a0 < 0 then (some ([] : List Int)) else (spec_PutVar.l0 k a0 ([] : List Int)))
theorem spec_PutVar.le (O : Prim) (hO : O = std) (k : Nat) (a0 : Int) : Le F O M fi51.kills spec_PutVar.e (spec_PutVar.f k a0) (den O M fi51.kills fi51.fn fi51.body (tab.gives 51) (M 51) [.one (.lit (.int .i64 a0))] : Tr tab) := by
  refine Le.eqS 0 (by conv => lhs; cbv) ?_
  unfold spec_PutVar.f
  refine Le.condP 0 0 (by subst hO; rfl) (by conv => lhs; cbv) (by conv => lhs; cbv) ?_ ?_
  · exact Le.ret2 (by subst hO; rfl)
  · refine Le.loopS (fun (n : Nat) (v : Int × List Int) => spec_PutVar.l0 n v.1 v.2) (fun (v : Int × List Int) => match v with | (x_2, x_3) => (⟨[], [.one (.lit (.int .i64 x_2)), D_, D_, .one (.own 5 x_3), D_, D_, D_, D_, D_, D_, D_, D_, D_, D_, D_, D_, D_, D_, D_, D_, D_, D_, D_, D_], [[], [], [], [], [], [], [], [], [], [], [], [], [], [], [], [], [], [], [], [], [], [], [], [], []], []⟩ : S tab)) k (a0, ([] : List Int)) (by subst hO; rfl) rfl (fun _ => rfl) ?_
    intro n0 hn0 ih0 v0
    obtain ⟨x_2, x_3⟩ := v0
    refine Le.eqS 0 (by conv => lhs; cbv) ?_
    show Le F O M _ _ (spec_PutVar.l0 (n0 + 1) x_2 x_3) _
    rw [spec_PutVar.l0]
    refine Le.condP 0 0 (by subst hO; rfl) (by conv => lhs; cbv) (by conv => lhs; cbv) ?_ ?_
    · refine Le.guardN 0 (by subst hO; rfl) (by conv => lhs; cbv) ?_
      refine Le.guardP 0 (by subst hO; rfl) (by conv => lhs; cbv) ?_
      refine Le.guardN 0 (by subst hO; rfl) (by conv => lhs; cbv) ?_
      exact Le.again (ih0 n0 (by omega) ((O.wrap .i64 (O.quo x_2 128)), (O.app x_3 [(O.wrap .u8 (O.wrap .i64 (O.add 128 (O.rem x_2 128))))]))) (by subst hO; rfl) rfl
    · refine Le.guardP 0 (by subst hO; rfl) (by conv => lhs; cbv) ?_
      exact Le.ret2 (by subst hO; rfl)
/-! ### loop.example/g00100/spec.l12Common -/
def spec_l12Common.e (r : Int) : Res tab := (([], []), .one (.lit (.int .i64 r)))
def spec_l12Common.l0 : Nat → ByteArray → ByteArray → Int → Option Int
  | 0, _, _, _ => none
  | k + 1, a0, a1, x_1 => (if x_1 < (a0.size : Int) then (if x_1 < (a1.size : Int) then (if 0 ≤ x_1 then (if x_1 < (a0.size : Int) then (if 0 ≤ x_1 then (if x_1 < (a1.size : Int) then (if (std.sget a0 x_1) = (std.sget a1 x_1) then (spec_l12Common.l0 k a0 a1 (IntKind.wrap .i64 (x_1 + 1))) else (some x_1)) else none) else none) else none) else none) else (some x_1)) else (some x_1))
def spec_l12Common.f (k : Nat) (a0 : ByteArray) (a1 : ByteArray) : Option Int := (spec_l12Common.l0 k a0 a1 0)
theorem spec_l12Common.le (O : Prim) (hO : O = std) (k : Nat) (a0 : ByteArray) (a1 : ByteArray) : Le F O M fi52.kills spec_l12Common.e (spec_l12Common.f k a0 a1) (den O M fi52.kills fi52.fn fi52.body (tab.gives 52) (M 52) [.one (.lit (.string a0)), .one (.lit (.string a1))] : Tr tab) := by
  refine Le.eqS 0 (by conv => lhs; cbv) ?_
  unfold spec_l12Common.f
  refine Le.loopS (fun (n : Nat) (v : Int) => spec_l12Common.l0 n a0 a1 v) (fun (x_1 : Int) => (⟨[], [.one (.lit (.string a0)), .one (.lit (.string a1)), D_, D_, D_, .one (.lit (.int .i64 x_1)), D_, D_, D_, D_, D_, D_, D_, D_, D_, D_, D_, D_, D_, D_, D_, D_, D_, D_, D_, D_, D_, D_], [[], [], [], [], [], [], [], [], [], [], [], [], [], [], [], [], [], [], [], [], [], [], [], [], [], [], [], [], [], []], []⟩ : S tab)) k 0 (by subst hO; rfl) rfl (fun _ => rfl) ?_
  intro n0 hn0 ih0 x_1
  refine Le.eqS 0 (by conv => lhs; cbv) ?_
  show Le F O M _ _ (spec_l12Common.l0 (n0 + 1) a0 a1 x_1) _
  rw [spec_l12Common.l0]
  refine Le.condP 4 13 (by subst hO; rfl) (by conv => lhs; cbv) (by conv => lhs; cbv) ?_ ?_
  · refine Le.condP 2 8 (by subst hO; rfl) (by conv => lhs; cbv) (by conv => lhs; cbv) ?_ ?_
    · refine Le.guardP 0 (by subst hO; rfl) (by conv => lhs; cbv) ?_
      refine Le.guardP 3 (by subst hO; rfl) (by conv => lhs; cbv) ?_
      refine Le.guardP 0 (by subst hO; rfl) (by conv => lhs; cbv) ?_
      refine Le.guardP 2 (by subst hO; rfl) (by conv => lhs; cbv) ?_
      refine Le.condP 0 0 (by subst hO; rfl) (by conv => lhs; cbv) (by conv => lhs; cbv) ?_ ?_
      · exact Le.again (ih0 n0 (by omega) (O.wrap .i64 (O.add x_1 1))) (by subst hO; rfl) rfl
      · exact Le.ret2 (by subst hO; rfl)
    · exact Le.ret2 (by subst hO; rfl)
  · exact Le.ret2 (by subst hO; rfl)
/-! ### loop.example/g00100/spec.PutText -/
def spec_PutText.e (r : List Int) : Res tab := (([], []), .one (.own 5 r))
def spec_PutText.f (k : Nat) (a0 : ByteArray) : Option (List Int) := (if 20000 < (a0.size : Int) then (some ([] : List Int)) else ((spec_PutVar.f k (a0.size : Int)).bind fun r0 => (if (a0.size : Int) ≤ 140737488351232 then (if (((r0.length : Int) + ((std.bytesOf a0).length : Int)) * 1) ≤ 140737488351232 then (some (r0 ++ (std.bytesOf a0))) else none) else none)))
theorem spec_PutText.le (O : Prim) (hO : O = std) (k : Nat) (a0 : ByteArray) : Le F O M fi53.kills spec_PutText.e (spec_PutText.f k a0) (den O M fi53.kills fi53.fn fi53.body (tab.gives 53) (M 53) [.one (.lit (.string a0))] : Tr tab) := by
  refine Le.eqS 0 (by conv => lhs; cbv) ?_
  unfold spec_PutText.f
  refine Le.condP 0 0 (by subst hO; rfl) (by conv => lhs; cbv) (by conv => lhs; cbv) ?_ ?_
  · exact Le.ret2 (by subst hO; rfl)
  · refine Le.callC 0 (fi := fi51) rfl (spec_PutVar.le O hO k (O.ssize a0)) (by subst hO; rfl) (by intro r0; conv => lhs; cbv) ?_
    intro r0
    refine Le.guardP 0 (by subst hO; rfl) (by conv => lhs; cbv) ?_
    refine Le.guardP 0 (by subst hO; rfl) (by conv => lhs; cbv) ?_
    exact Le.ret2 (by subst hO; rfl)
/-! ### loop.example/g00100/spec.PutEntries -/
def spec_PutEntries.e (r : List Int) : Res tab := (([], []), .one (.imm 5 r))
def spec_PutEntries.l0 : Nat → (List GEntry) → (List Int) → Int → ByteArray → Int → Int → Int → Int → ByteArray → Int → Option (List Int)
  | 0, _, _, _, _, _, _, _, _, _, _ => none
  | k + 1, a0, x_61, x_62, b_63, b_64, b_65, b_66, b_67, b_68, b_69 => (if x_62 < (a0.length : Int) then (if 0 ≤ x_62 then (if x_62 < (a0.length : Int) then ((spec_l12Common.f k b_63 (a0.getD (Int.toNat x_62) (⟨(⟨#[]⟩ : ByteArray), 0, 0, 0, 0, (⟨#[]⟩ : ByteArray), 0⟩ : GEntry)).Path).bind fun r70 => ((spec_PutVar.f k r70).bind fun r71 => (if (((x_61.length : Int) + (r71.length : Int)) * 1) ≤ 140737488351232 then (if 0 ≤ r70 then (if r70 ≤ ((a0.getD (Int.toNat x_62) (⟨(⟨#[]⟩ : ByteArray), 0, 0, 0, 0, (⟨#[]⟩ : ByteArray), 0⟩ : GEntry)).Path.size : Int) then (if ((a0.getD (Int.toNat x_62) (⟨(⟨#[]⟩ : ByteArray), 0, 0, 0, 0, (⟨#[]⟩ : ByteArray), 0⟩ : GEntry)).Path.size : Int) ≤ ((a0.getD (Int.toNat x_62) (⟨(⟨#[]⟩ : ByteArray), 0, 0, 0, 0, (⟨#[]⟩ : ByteArray), 0⟩ : GEntry)).Path.size : Int) then ((spec_PutText.f k ((a0.getD (Int.toNat x_62) (⟨(⟨#[]⟩ : ByteArray), 0, 0, 0, 0, (⟨#[]⟩ : ByteArray), 0⟩ : GEntry)).Path.extract (Int.toNat r70) (Int.toNat ((a0.getD (Int.toNat x_62) (⟨(⟨#[]⟩ : ByteArray), 0, 0, 0, 0, (⟨#[]⟩ : ByteArray), 0⟩ : GEntry)).Path.size : Int)))).bind fun r72 => (if ((((x_61 ++ r71).length : Int) + (r72.length : Int)) * 1) ≤ 140737488351232 then (if 0 < x_62 then (if (a0.getD (Int.toNat x_62) (⟨(⟨#[]⟩ : ByteArray), 0, 0, 0, 0, (⟨#[]⟩ : ByteArray), 0⟩ : GEntry)).Mode = b_65 then (if (a0.getD (Int.toNat x_62) (⟨(⟨#[]⟩ : ByteArray), 0, 0, 0, 0, (⟨#[]⟩ : ByteArray), 0⟩ : GEntry)).Time = b_66 then ((spec_PutVar.f k (IntKind.wrap .i64 ((a0.getD (Int.toNat x_62) (⟨(⟨#[]⟩ : ByteArray), 0, 0, 0, 0, (⟨#[]⟩ : ByteArray), 0⟩ : GEntry)).Kind + 4))).bind fun r73 => (if (((((x_61 ++ r71) ++ r72).length : Int) + (r73.length : Int)) * 1) ≤ 140737488351232 then (if (a0.getD (Int.toNat x_62) (⟨(⟨#[]⟩ : ByteArray), 0, 0, 0, 0, (⟨#[]⟩ : ByteArray), 0⟩ : GEntry)).Kind = 1 then ((spec_PutVar.f k (a0.getD (Int.toNat x_62) (⟨(⟨#[]⟩ : ByteArray), 0, 0, 0, 0, (⟨#[]⟩ : ByteArray), 0⟩ : GEntry)).Size).bind fun r74 => (if ((((((x_61 ++ r71) ++ r72) ++ r73).length : Int) + (r74.length : Int)) * 1) ≤ 140737488351232 then ((spec_PutVar.f k (a0.getD (Int.toNat x_62) (⟨(⟨#[]⟩ : ByteArray), 0, 0, 0, 0, (⟨#[]⟩ : ByteArray), 0⟩ : GEntry)).Group).bind fun r75 => (if (((((((x_61 ++ r71) ++ r72) ++ r73) ++ r74).length : Int) + (r75.length : Int)) * 1) ≤ 140737488351232 then (spec_PutEntries.l0 k a0 (((((x_61 ++ r71) ++ r72) ++ r73) ++ r74) ++ r75) (IntKind.wrap .i64 (x_62 + 1)) (a0.getD (Int.toNat x_62) (⟨(⟨#[]⟩ : ByteArray), 0, 0, 0, 0, (⟨#[]⟩ : ByteArray), 0⟩ : GEntry)).Path (a0.getD (Int.toNat x_62) (⟨(⟨#[]⟩ : ByteArray), 0, 0, 0, 0, (⟨#[]⟩ : ByteArray), 0⟩ : GEntry)).Kind (a0.getD (Int.toNat x_62) (⟨(⟨#[]⟩ : ByteArray), 0, 0, 0, 0, (⟨#[]⟩ : ByteArray), 0⟩ : GEntry)).Mode (a0.getD (Int.toNat x_62) (⟨(⟨#[]⟩ : ByteArray), 0, 0, 0, 0, (⟨#[]⟩ : ByteArray), 0⟩ : GEntry)).Time (a0.getD (Int.toNat x_62) (⟨(⟨#[]⟩ : ByteArray), 0, 0, 0, 0, (⟨#[]⟩ : ByteArray), 0⟩ : GEntry)).Size (a0.getD (Int.toNat x_62) (⟨(⟨#[]⟩ : ByteArray), 0, 0, 0, 0, (⟨#[]⟩ : ByteArray), 0⟩ : GEntry)).Target (a0.getD (Int.toNat x_62) (⟨(⟨#[]⟩ : ByteArray), 0, 0, 0, 0, (⟨#[]⟩ : ByteArray), 0⟩ : GEntry)).Group) else none)) else none)) else (if (a0.getD (Int.toNat x_62) (⟨(⟨#[]⟩ : ByteArray), 0, 0, 0, 0, (⟨#[]⟩ : ByteArray), 0⟩ : GEntry)).Kind = 2 then ((spec_PutText.f k (a0.getD (Int.toNat x_62) (⟨(⟨#[]⟩ : ByteArray), 0, 0, 0, 0, (⟨#[]⟩ : ByteArray), 0⟩ : GEntry)).Target).bind fun r76 => (if ((((((x_61 ++ r71) ++ r72) ++ r73).length : Int) + (r76.length : Int)) * 1) ≤ 140737488351232 then (spec_PutEntries.l0 k a0 ((((x_61 ++ r71) ++ r72) ++ r73) ++ r76) (IntKind.wrap .i64 (x_62 + 1)) (a0.getD (Int.toNat x_62) (⟨(⟨#[]⟩ : ByteArray), 0, 0, 0, 0, (⟨#[]⟩ : ByteArray), 0⟩ : GEntry)).Path (a0.getD (Int.toNat x_62) (⟨(⟨#[]⟩ : ByteArray), 0, 0, 0, 0, (⟨#[]⟩ : ByteArray), 0⟩ : GEntry)).Kind (a0.getD (Int.toNat x_62) (⟨(⟨#[]⟩ : ByteArray), 0, 0, 0, 0, (⟨#[]⟩ : ByteArray), 0⟩ : GEntry)).Mode (a0.getD (Int.toNat x_62) (⟨(⟨#[]⟩ : ByteArray), 0, 0, 0, 0, (⟨#[]⟩ : ByteArray), 0⟩ : GEntry)).Time (a0.getD (Int.toNat x_62) (⟨(⟨#[]⟩ : ByteArray), 0, 0, 0, 0, (⟨#[]⟩ : ByteArray), 0⟩ : GEntry)).Size (a0.getD (Int.toNat x_62) (⟨(⟨#[]⟩ : ByteArray), 0, 0, 0, 0, (⟨#[]⟩ : ByteArray), 0⟩ : GEntry)).Target (a0.getD (Int.toNat x_62) (⟨(⟨#[]⟩ : ByteArray), 0, 0, 0, 0, (⟨#[]⟩ : ByteArray), 0⟩ : GEntry)).Group) else none)) else (spec_PutEntries.l0 k a0 (((x_61 ++ r71) ++ r72) ++ r73) (IntKind.wrap .i64 (x_62 + 1)) (a0.getD (Int.toNat x_62) (⟨(⟨#[]⟩ : ByteArray), 0, 0, 0, 0, (⟨#[]⟩ : ByteArray), 0⟩ : GEntry)).Path (a0.getD (Int.toNat x_62) (⟨(⟨#[]⟩ : ByteArray), 0, 0, 0, 0, (⟨#[]⟩ : ByteArray), 0⟩ : GEntry)).Kind (a0.getD (Int.toNat x_62) (⟨(⟨#[]⟩ : ByteArray), 0, 0, 0, 0, (⟨#[]⟩ : ByteArray), 0⟩ : GEntry)).Mode (a0.getD (Int.toNat x_62) (⟨(⟨#[]⟩ : ByteArray), 0, 0, 0, 0, (⟨#[]⟩ : ByteArray), 0⟩ : GEntry)).Time (a0.getD (Int.toNat x_62) (⟨(⟨#[]⟩ : ByteArray), 0, 0, 0, 0, (⟨#[]⟩ : ByteArray), 0⟩ : GEntry)).Size (a0.getD (Int.toNat x_62) (⟨(⟨#[]⟩ : ByteArray), 0, 0, 0, 0, (⟨#[]⟩ : ByteArray), 0⟩ : GEntry)).Target (a0.getD (Int.toNat x_62) (⟨(⟨#[]⟩ : ByteArray), 0, 0, 0, 0, (⟨#[]⟩ : ByteArray), 0⟩ : GEntry)).Group))) else none)) else ((spec_PutVar.f k (a0.getD (Int.toNat x_62) (⟨(⟨#[]⟩ : ByteArray), 0, 0, 0, 0, (⟨#[]⟩ : ByteArray), 0⟩ : GEntry)).Kind).bind fun r77 => (if (((((x_61 ++ r71) ++ r72).length : Int) + (r77.length : Int)) * 1) ≤ 140737488351232 then ((spec_PutVar.f k (a0.getD (Int.toNat x_62) (⟨(⟨#[]⟩ : ByteArray), 0, 0, 0, 0, (⟨#[]⟩ : ByteArray), 0⟩ : GEntry)).Mode).bind fun r78 => (if ((((((x_61 ++ r71) ++ r72) ++ r77).length : Int) + (r78.length : Int)) * 1) ≤ 140737488351232 then ((spec_PutVar.f k (a0.getD (Int.toNat x_62) (⟨(⟨#[]⟩ : ByteArray), 0, 0, 0, 0, (⟨#[]⟩ : ByteArray), 0⟩ : GEntry)).Time).bind fun r79 => (if (((((((x_61 ++ r71) ++ r72) ++ r77) ++ r78).length : Int) + (r79.length : Int)) * 1) ≤ 140737488351232 then (if (a0.getD (Int.toNat x_62) (⟨(⟨#[]⟩ : ByteArray), 0, 0, 0, 0, (⟨#[]⟩ : ByteArray), 0⟩ : GEntry)).Kind = 1 then ((spec_PutVar.f k (a0.getD (Int.toNat x_62) (⟨(⟨#[]⟩ : ByteArray), 0, 0, 0, 0, (⟨#[]⟩ : ByteArray), 0⟩ : GEntry)).Size).bind fun r80 => (if ((((((((x_61 ++ r71) ++ r72) ++ r77) ++ r78) ++ r79).length : Int) + (r80.length : Int)) * 1) ≤ 140737488351232 then ((spec_PutVar.f k (a0.getD (Int.toNat x_62) (⟨(⟨#[]⟩ : ByteArray), 0, 0, 0, 0, (⟨#[]⟩ : ByteArray), 0⟩ : GEntry)).Group).bind fun r81 => (if (((((((((x_61 ++ r71) ++ r72) ++ r77) ++ r78) ++ r79) ++ r80).length : Int) + (r81.length : Int)) * 1) ≤ 140737488351232 then (spec_PutEntries.l0 k a0 (((((((x_61 ++ r71) ++ r72) ++ r77) ++ r78) ++ r79) ++ r80) ++ r81) (IntKind.wrap .i64 (x_62 + 1)) (a0.getD (Int.toNat x_62) (⟨(⟨#[]⟩ : ByteArray), 0, 0, 0, 0, (⟨#[]⟩ : ByteArray), 0⟩ : GEntry)).Path (a0.getD (Int.toNat x_62) (⟨(⟨#[]⟩ : ByteArray), 0, 0, 0, 0, (⟨#[]⟩ : ByteArray), 0⟩ : GEntry)).Kind (a0.getD (Int.toNat x_62) (⟨(⟨#[]⟩ : ByteArray), 0, 0, 0, 0, (⟨#[]⟩ : ByteArray), 0⟩ : GEntry)).Mode (a0.getD (Int.toNat x_62) (⟨(⟨#[]⟩ : ByteArray), 0, 0, 0, 0, (⟨#[]⟩ : ByteArray), 0⟩ : GEntry)).Time (a0.getD (Int.toNat x_62) (⟨(⟨#[]⟩ : ByteArray), 0, 0, 0, 0, (⟨#[]⟩ : ByteArray), 0⟩ : GEntry)).Size (a0.getD (Int.toNat x_62) (⟨(⟨#[]⟩ : ByteArray), 0, 0, 0, 0, (⟨#[]⟩ : ByteArray), 0⟩ : GEntry)).Target (a0.getD (Int.toNat x_62) (⟨(⟨#[]⟩ : ByteArray), 0, 0, 0, 0, (⟨#[]⟩ : ByteArray), 0⟩ : GEntry)).Group) else none)) else none)) else (if (a0.getD (Int.toNat x_62) (⟨(⟨#[]⟩ : ByteArray), 0, 0, 0, 0, (⟨#[]⟩ : ByteArray), 0⟩ : GEntry)).Kind = 2 then ((spec_PutText.f k (a0.getD (Int.toNat x_62) (⟨(⟨#[]⟩ : ByteArray), 0, 0, 0, 0, (⟨#[]⟩ : ByteArray), 0⟩ : GEntry)).Target).bind fun r82 => (if ((((((((x_61 ++ r71) ++ r72) ++ r77) ++ r78) ++ r79).length : Int) + (r82.length : Int)) * 1) ≤ 140737488351232 then (spec_PutEntries.l0 k a0 ((((((x_61 ++ r71) ++ r72) ++ r77) ++ r78) ++ r79) ++ r82) (IntKind.wrap .i64 (x_62 + 1)) (a0.getD (Int.toNat x_62) (⟨(⟨#[]⟩ : ByteArray), 0, 0, 0, 0, (⟨#[]⟩ : ByteArray), 0⟩ : GEntry)).Path (a0.getD (Int.toNat x_62) (⟨(⟨#[]⟩ : ByteArray), 0, 0, 0, 0, (⟨#[]⟩ : ByteArray), 0⟩ : GEntry)).Kind (a0.getD (Int.toNat x_62) (⟨(⟨#[]⟩ : ByteArray), 0, 0, 0, 0, (⟨#[]⟩ : ByteArray), 0⟩ : GEntry)).Mode (a0.getD (Int.toNat x_62) (⟨(⟨#[]⟩ : ByteArray), 0, 0, 0, 0, (⟨#[]⟩ : ByteArray), 0⟩ : GEntry)).Time (a0.getD (Int.toNat x_62) (⟨(⟨#[]⟩ : ByteArray), 0, 0, 0, 0, (⟨#[]⟩ : ByteArray), 0⟩ : GEntry)).Size (a0.getD (Int.toNat x_62) (⟨(⟨#[]⟩ : ByteArray), 0, 0, 0, 0, (⟨#[]⟩ : ByteArray), 0⟩ : GEntry)).Target (a0.getD (Int.toNat x_62) (⟨(⟨#[]⟩ : ByteArray), 0, 0, 0, 0, (⟨#[]⟩ : ByteArray), 0⟩ : GEntry)).Group) else none)) else (spec_PutEntries.l0 k a0 (((((x_61 ++ r71) ++ r72) ++ r77) ++ r78) ++ r79) (IntKind.wrap .i64 (x_62 + 1)) (a0.getD (Int.toNat x_62) (⟨(⟨#[]⟩ : ByteArray), 0, 0, 0, 0, (⟨#[]⟩ : ByteArray), 0⟩ : GEntry)).Path (a0.getD (Int.toNat x_62) (⟨(⟨#[]⟩ : ByteArray), 0, 0, 0, 0, (⟨#[]⟩ : ByteArray), 0⟩ : GEntry)).Kind (a0.getD (Int.toNat x_62) (⟨(⟨#[]⟩ : ByteArray), 0, 0, 0, 0, (⟨#[]⟩ : ByteArray), 0⟩ : GEntry)).Mode (a0.getD (Int.toNat x_62) (⟨(⟨#[]⟩ : ByteArray), 0, 0, 0, 0, (⟨#[]⟩ : ByteArray), 0⟩ : GEntry)).Time (a0.getD (Int.toNat x_62) (⟨(⟨#[]⟩ : ByteArray), 0, 0, 0, 0, (⟨#[]⟩ : ByteArray), 0⟩ : GEntry)).Size (a0.getD (Int.toNat x_62) (⟨(⟨#[]⟩ : ByteArray), 0, 0, 0, 0, (⟨#[]⟩ : ByteArray), 0⟩ : GEntry)).Target (a0.getD (Int.toNat x_62) (⟨(⟨#[]⟩ : ByteArray), 0, 0, 0, 0, (⟨#[]⟩ : ByteArray), 0⟩ : GEntry)).Group))) else none)) else none)) else none))) else ((spec_PutVar.f k (a0.getD (Int.toNat x_62) (⟨(⟨#[]⟩ : ByteArray), 0, 0, 0, 0, (⟨#[]⟩ : ByteArray), 0⟩ : GEntry)).Kind).bind fun r83 => (if (((((x_61 ++ r71) ++ r72).length : Int) + (r83.length : Int)) * 1) ≤ 140737488351232 then ((spec_PutVar.f k (a0.getD (Int.toNat x_62) (⟨(⟨#[]⟩ : ByteArray), 0, 0, 0, 0, (⟨#[]⟩ : ByteArray), 0⟩ : GEntry)).Mode).bind fun r84 => (if ((((((x_61 ++ r71) ++ r72) ++ r83).length : Int) + (r84.length : Int)) * 1) ≤ 140737488351232 then ((spec_PutVar.f k (a0.getD (Int.toNat x_62) (⟨(⟨#[]⟩ : ByteArray), 0, 0, 0, 0, (⟨#[]⟩ : ByteArray), 0⟩ : GEntry)).Time).bind fun r85 => (if (((((((x_61 ++ r71) ++ r72) ++ r83) ++ r84).length : Int) + (r85.length : Int)) * 1) ≤ 140737488351232 then (if (a0.getD (Int.toNat x_62) (⟨(⟨#[]⟩ : ByteArray), 0, 0, 0, 0, (⟨#[]⟩ : ByteArray), 0⟩ : GEntry)).Kind = 1 then ((spec_PutVar.f k (a0.getD (Int.toNat x_62) (⟨(⟨#[]⟩ : ByteArray), 0, 0, 0, 0, (⟨#[]⟩ : ByteArray), 0⟩ : GEntry)).Size).bind fun r86 => (if ((((((((x_61 ++ r71) ++ r72) ++ r83) ++ r84) ++ r85).length : Int) + (r86.length : Int)) * 1) ≤ 140737488351232 then ((spec_PutVar.f k (a0.getD (Int.toNat x_62) (⟨(⟨#[]⟩ : ByteArray), 0, 0, 0, 0, (⟨#[]⟩ : ByteArray), 0⟩ : GEntry)).Group).bind fun r87 => (if (((((((((x_61 ++ r71) ++ r72) ++ r83) ++ r84) ++ r85) ++ r86).length : Int) + (r87.length : Int)) * 1) ≤ 140737488351232 then (spec_PutEntries.l0 k a0 (((((((x_61 ++ r71) ++ r72) ++ r83) ++ r84) ++ r85) ++ r86) ++ r87) (IntKind.wrap .i64 (x_62 + 1)) (a0.getD (Int.toNat x_62) (⟨(⟨#[]⟩ : ByteArray), 0, 0, 0, 0, (⟨#[]⟩ : ByteArray), 0⟩ : GEntry)).Path (a0.getD (Int.toNat x_62) (⟨(⟨#[]⟩ : ByteArray), 0, 0, 0, 0, (⟨#[]⟩ : ByteArray), 0⟩ : GEntry)).Kind (a0.getD (Int.toNat x_62) (⟨(⟨#[]⟩ : ByteArray), 0, 0, 0, 0, (⟨#[]⟩ : ByteArray), 0⟩ : GEntry)).Mode (a0.getD (Int.toNat x_62) (⟨(⟨#[]⟩ : ByteArray), 0, 0, 0, 0, (⟨#[]⟩ : ByteArray), 0⟩ : GEntry)).Time (a0.getD (Int.toNat x_62) (⟨(⟨#[]⟩ : ByteArray), 0, 0, 0, 0, (⟨#[]⟩ : ByteArray), 0⟩ : GEntry)).Size (a0.getD (Int.toNat x_62) (⟨(⟨#[]⟩ : ByteArray), 0, 0, 0, 0, (⟨#[]⟩ : ByteArray), 0⟩ : GEntry)).Target (a0.getD (Int.toNat x_62) (⟨(⟨#[]⟩ : ByteArray), 0, 0, 0, 0, (⟨#[]⟩ : ByteArray), 0⟩ : GEntry)).Group) else none)) else none)) else (if (a0.getD (Int.toNat x_62) (⟨(⟨#[]⟩ : ByteArray), 0, 0, 0, 0, (⟨#[]⟩ : ByteArray), 0⟩ : GEntry)).Kind = 2 then ((spec_PutText.f k (a0.getD (Int.toNat x_62) (⟨(⟨#[]⟩ : ByteArray), 0, 0, 0, 0, (⟨#[]⟩ : ByteArray), 0⟩ : GEntry)).Target).bind fun r88 => (if ((((((((x_61 ++ r71) ++ r72) ++ r83) ++ r84) ++ r85).length : Int) + (r88.length : Int)) * 1) ≤ 140737488351232 then (spec_PutEntries.l0 k a0 ((((((x_61 ++ r71) ++ r72) ++ r83) ++ r84) ++ r85) ++ r88) (IntKind.wrap .i64 (x_62 + 1)) (a0.getD (Int.toNat x_62) (⟨(⟨#[]⟩ : ByteArray), 0, 0, 0, 0, (⟨#[]⟩ : ByteArray), 0⟩ : GEntry)).Path (a0.getD (Int.toNat x_62) (⟨(⟨#[]⟩ : ByteArray), 0, 0, 0, 0, (⟨#[]⟩ : ByteArray), 0⟩ : GEntry)).Kind (a0.getD (Int.toNat x_62) (⟨(⟨#[]⟩ : ByteArray), 0, 0, 0, 0, (⟨#[]⟩ : ByteArray), 0⟩ : GEntry)).Mode (a0.getD (Int.toNat x_62) (⟨(⟨#[]⟩ : ByteArray), 0, 0, 0, 0, (⟨#[]⟩ : ByteArray), 0⟩ : GEntry)).Time (a0.getD (Int.toNat x_62) (⟨(⟨#[]⟩ : ByteArray), 0, 0, 0, 0, (⟨#[]⟩ : ByteArray), 0⟩ : GEntry)).Size (a0.getD (Int.toNat x_62) (⟨(⟨#[]⟩ : ByteArray), 0, 0, 0, 0, (⟨#[]⟩ : ByteArray), 0⟩ : GEntry)).Target (a0.getD (Int.toNat x_62) (⟨(⟨#[]⟩ : ByteArray), 0, 0, 0, 0, (⟨#[]⟩ : ByteArray), 0⟩ : GEntry)).Group) else none)) else (spec_PutEntries.l0 k a0 (((((x_61 ++ r71) ++ r72) ++ r83) ++ r84) ++ r85) (IntKind.wrap .i64 (x_62 + 1)) (a0.getD (Int.toNat x_62) (⟨(⟨#[]⟩ : ByteArray), 0, 0, 0, 0, (⟨#[]⟩ : ByteArray), 0⟩ : GEntry)).Path (a0.getD (Int.toNat x_62) (⟨(⟨#[]⟩ : ByteArray), 0, 0, 0, 0, (⟨#[]⟩ : ByteArray), 0⟩ : GEntry)).Kind (a0.getD (Int.toNat x_62) (⟨(⟨#[]⟩ : ByteArray), 0, 0, 0, 0, (⟨#[]⟩ : ByteArray), 0⟩ : GEntry)).Mode (a0.getD (Int.toNat x_62) (⟨(⟨#[]⟩ : ByteArray), 0, 0, 0, 0, (⟨#[]⟩ : ByteArray), 0⟩ : GEntry)).Time (a0.getD (Int.toNat x_62) (⟨(⟨#[]⟩ : ByteArray), 0, 0, 0, 0, (⟨#[]⟩ : ByteArray), 0⟩ : GEntry)).Size (a0.getD (Int.toNat x_62) (⟨(⟨#[]⟩ : ByteArray), 0, 0, 0, 0, (⟨#[]⟩ : ByteArray), 0⟩ : GEntry)).Target (a0.getD (Int.toNat x_62) (⟨(⟨#[]⟩ : ByteArray), 0, 0, 0, 0, (⟨#[]⟩ : ByteArray), 0⟩ : GEntry)).Group))) else none)) else none)) else none))) else ((spec_PutVar.f k (a0.getD (Int.toNat x_62) (⟨(⟨#[]⟩ : ByteArray), 0, 0, 0, 0, (⟨#[]⟩ : ByteArray), 0⟩ : GEntry)).Kind).bind fun r89 => (if (((((x_61 ++ r71) ++ r72).length : Int) + (r89.length : Int)) * 1) ≤ 140737488351232 then ((spec_PutVar.f k (a0.getD (Int.toNat x_62) (⟨(⟨#[]⟩ : ByteArray), 0, 0, 0, 0, (⟨#[]⟩ : ByteArray), 0⟩ : GEntry)).Mode).bind fun r90 => (if ((((((x_61 ++ r71) ++ r72) ++ r89).length : Int) + (r90.length : Int)) * 1) ≤ 140737488351232 then ((spec_PutVar.f k (a0.getD (Int.toNat x_62) (⟨(⟨#[]⟩ : ByteArray), 0, 0, 0, 0, (⟨#[]⟩ : ByteArray), 0⟩ : GEntry)).Time).bind fun r91 => (if (((((((x_61 ++ r71) ++ r72) ++ r89) ++ r90).length : Int) + (r91.length : Int)) * 1) ≤ 140737488351232 then (if (a0.getD (Int.toNat x_62) (⟨(⟨#[]⟩ : ByteArray), 0, 0, 0, 0, (⟨#[]⟩ : ByteArray), 0⟩ : GEntry)).Kind = 1 then ((spec_PutVar.f k (a0.getD (Int.toNat x_62) (⟨(⟨#[]⟩ : ByteArray), 0, 0, 0, 0, (⟨#[]⟩ : ByteArray), 0⟩ : GEntry)).Size).bind fun r92 => (if ((((((((x_61 ++ r71) ++ r72) ++ r89) ++ r90) ++ r91).length : Int) + (r92.length : Int)) * 1) ≤ 140737488351232 then ((spec_PutVar.f k (a0.getD (Int.toNat x_62) (⟨(⟨#[]⟩ : ByteArray), 0, 0, 0, 0, (⟨#[]⟩ : ByteArray), 0⟩ : GEntry)).Group).bind fun r93 => (if (((((((((x_61 ++ r71) ++ r72) ++ r89) ++ r90) ++ r91) ++ r92).length : Int) + (r93.length : Int)) * 1) ≤ 140737488351232 then (spec_PutEntries.l0 k a0 (((((((x_61 ++ r71) ++ r72) ++ r89) ++ r90) ++ r91) ++ r92) ++ r93) (IntKind.wrap .i64 (x_62 + 1)) (a0.getD (Int.toNat x_62) (⟨(⟨#[]⟩ : ByteArray), 0, 0, 0, 0, (⟨#[]⟩ : ByteArray), 0⟩ : GEntry)).Path (a0.getD (Int.toNat x_62) (⟨(⟨#[]⟩ : ByteArray), 0, 0, 0, 0, (⟨#[]⟩ : ByteArray), 0⟩ : GEntry)).Kind (a0.getD (Int.toNat x_62) (⟨(⟨#[]⟩ : ByteArray), 0, 0, 0, 0, (⟨#[]⟩ : ByteArray), 0⟩ : GEntry)).Mode (a0.getD (Int.toNat x_62) (⟨(⟨#[]⟩ : ByteArray), 0, 0, 0, 0, (⟨#[]⟩ : ByteArray), 0⟩ : GEntry)).Time (a0.getD (Int.toNat x_62) (⟨(⟨#[]⟩ : ByteArray), 0, 0, 0, 0, (⟨#[]⟩ : ByteArray), 0⟩ : GEntry)).Size (a0.getD (Int.toNat x_62) (⟨(⟨#[]⟩ : ByteArray), 0, 0, 0, 0, (⟨#[]⟩ : ByteArray), 0⟩ : GEntry)).Target (a0.getD (Int.toNat x_62) (⟨(⟨#[]⟩ : ByteArray), 0, 0, 0, 0, (⟨#[]⟩ : ByteArray), 0⟩ : GEntry)).Group) else none)) else none)) else (if (a0.getD (Int.toNat x_62) (⟨(⟨#[]⟩ : ByteArray), 0, 0, 0, 0, (⟨#[]⟩ : ByteArray), 0⟩ : GEntry)).Kind = 2 then ((spec_PutText.f k (a0.getD (Int.toNat x_62) (⟨(⟨#[]⟩ : ByteArray), 0, 0, 0, 0, (⟨#[]⟩ : ByteArray), 0⟩ : GEntry)).Target).bind fun r94 => (if ((((((((x_61 ++ r71) ++ r72) ++ r89) ++ r90) ++ r91).length : Int) + (r94.length : Int)) * 1) ≤ 140737488351232 then (spec_PutEntries.l0 k a0 ((((((x_61 ++ r71) ++ r72) ++ r89) ++ r90) ++ r91) ++ r94) (IntKind.wrap .i64 (x_62 + 1)) (a0.getD (Int.toNat x_62) (⟨(⟨#[]⟩ : ByteArray), 0, 0, 0, 0, (⟨#[]⟩ : ByteArray), 0⟩ : GEntry)).Path (a0.getD (Int.toNat x_62) (⟨(⟨#[]⟩ : ByteArray), 0, 0, 0, 0, (⟨#[]⟩ : ByteArray), 0⟩ : GEntry)).Kind (a0.getD (Int.toNat x_62) (⟨(⟨#[]⟩ : ByteArray), 0, 0, 0, 0, (⟨#[]⟩ : ByteArray), 0⟩ : GEntry)).Mode (a0.getD (Int.toNat x_62) (⟨(⟨#[]⟩ : ByteArray), 0, 0, 0, 0, (⟨#[]⟩ : ByteArray), 0⟩ : GEntry)).Time (a0.getD (Int.toNat x_62) (⟨(⟨#[]⟩ : ByteArray), 0, 0, 0, 0, (⟨#[]⟩ : ByteArray), 0⟩ : GEntry)).Size (a0.getD (Int.toNat x_62) (⟨(⟨#[]⟩ : ByteArray), 0, 0, 0, 0, (⟨#[]⟩ : ByteArray), 0⟩ : GEntry)).Target (a0.getD (Int.toNat x_62) (⟨(⟨#[]⟩ : ByteArray), 0, 0, 0, 0, (⟨#[]⟩ : ByteArray), 0⟩ : GEntry)).Group) else none)) else (spec_PutEntries.l0 k a0 (((((x_61 ++ r71) ++ r72) ++ r89) ++ r90) ++ r91) (IntKind.wrap .i64 (x_62 + 1)) (a0.getD (Int.toNat x_62) (⟨(⟨#[]⟩ : ByteArray), 0, 0, 0, 0, (⟨#[]⟩ : ByteArray), 0⟩ : GEntry)).Path (a0.getD (Int.toNat x_62) (⟨(⟨#[]⟩ : ByteArray), 0, 0, 0, 0, (⟨#[]⟩ : ByteArray), 0⟩ : GEntry)).Kind (a0.getD (Int.toNat x_62) (⟨(⟨#[]⟩ : ByteArray), 0, 0, 0, 0, (⟨#[]⟩ : ByteArray), 0⟩ : GEntry)).Mode (a0.getD (Int.toNat x_62) (⟨(⟨#[]⟩ : ByteArray), 0, 0, 0, 0, (⟨#[]⟩ : ByteArray), 0⟩ : GEntry)).Time (a0.getD (Int.toNat x_62) (⟨(⟨#[]⟩ : ByteArray), 0, 0, 0, 0, (⟨#[]⟩ : ByteArray), 0⟩ : GEntry)).Size (a0.getD (Int.toNat x_62) (⟨(⟨#[]⟩ : ByteArray), 0, 0, 0, 0, (⟨#[]⟩ : ByteArray), 0⟩ : GEntry)).Target (a0.getD (Int.toNat x_62) (⟨(⟨#[]⟩ : ByteArray), 0, 0, 0, 0, (⟨#[]⟩ : ByteArray), 0⟩ : GEntry)).Group))) else none)) else none)) else none))) else none)) else none) else none) else none) else none))) else none) else none) else (some x_61))
def spec_PutEntries.f (k : Nat) (a0 : List GEntry) : Option (List Int) := ((spec_EntriesOk.f k a0).bind fun r0 => (if r0 = true then ((spec_PutVar.f k (a0.length : Int)).bind fun r1 => (spec_PutEntries.l0 k a0 r1 0 (⟨#[]⟩ : ByteArray) 0 0 0 0 (⟨#[]⟩ : ByteArray) 0)) else (some ([] : List Int))))
theorem spec_PutEntries.le (O : Prim) (hO : O = std) (k : Nat) (a0 : List GEntry) : Le F O M fi25.kills spec_PutEntries.e (spec_PutEntries.f k a0) (den O M fi25.kills fi25.fn fi25.body (tab.gives 25) (M 25) [.one (.imm 42 a0)] : Tr tab) := by
  refine Le.eqS 0 (by conv => lhs; cbv) ?_
  unfold spec_PutEntries.f
  refine Le.callC 0 (fi := fi50) rfl (spec_EntriesOk.le O hO k a0) (by subst hO; rfl) (by intro r0; conv => lhs; cbv) ?_
  intro r0
  refine Le.condN 0 0 (by subst hO; exact Bool.decide_eq_true.trans (Bool.not_not _).symm) (by conv => lhs; cbv) (by conv => lhs; cbv) ?_ ?_
  · exact Le.ret2 (by subst hO; rfl)
  · refine Le.callC 0 (fi := fi51) rfl (spec_PutVar.le O hO k (O.len a0)) (by subst hO; rfl) (by intro r1; conv => lhs; cbv) ?_
    intro r1
    refine Le.loopS (fun (n : Nat) (v : List Int × Int × ByteArray × Int × Int × Int × Int × ByteArray × Int) => spec_PutEntries.l0 n a0 v.1 v.2.1 v.2.2.1 v.2.2.2.1 v.2.2.2.2.1 v.2.2.2.2.2.1 v.2.2.2.2.2.2.1 v.2.2.2.2.2.2.2.1 v.2.2.2.2.2.2.2.2) (fun (v : List Int × Int × ByteArray × Int × Int × Int × Int × ByteArray × Int) => match v with | (x_61, x_62, b_63, b_64, b_65, b_66, b_67, b_68, b_69) => (⟨[], [.one (.imm 42 a0), D_, D_, .one (.own 5 x_61), .one (.ptr ⟨11, 0, []⟩), .one (.lit (.int .i64 x_62)), D_, D_, D_, D_, D_, D_, D_, D_, D_, D_, D_, D_, D_, D_, D_, D_, D_, D_, D_, D_, D_, D_, D_, D_, D_, D_, D_, D_, D_, D_, D_, D_, D_, D_, D_, D_, D_, D_, D_, D_, D_, D_, D_, D_, D_, D_, D_, D_, D_, D_, D_, D_, D_, D_, D_, D_, D_, D_, D_, D_, D_, D_, D_, D_, D_, D_, D_, D_, D_, D_, D_, D_, D_, D_, D_, D_, D_, D_, D_, D_, D_, D_, D_, D_, D_, D_, D_, D_, D_, D_, D_, D_, D_, D_, D_, D_], [[], [], [], [], [.lit (.string b_63), .lit (.int .i64 b_64), .lit (.int .i64 b_65), .lit (.int .i64 b_66), .lit (.int .i64 b_67), .lit (.string b_68), .lit (.int .i64 b_69)], [], [], [], [], [], [], [], [], [], [], [], [], [], [], [], [], [], [], [], [], [], [], [], [], [], [], [], [], [], [], [], [], [], [], [], [], [], [], [], [], [], [], [], [], [], [], [], [], [], [], [], [], [], [], [], [], [], [], [], [], [], [], [], [], [], [], [], [], [], [], [], [], [], [], [], [], [], [], [], [], [], [], [], [], [], [], [], [], [], [], [], [], [], [], [], [], [], []], []⟩ : S tab)) k (r1, 0, (⟨#[]⟩ : ByteArray), 0, 0, 0, 0, (⟨#[]⟩ : ByteArray), 0) (by subst hO; rfl) rfl (fun _ => rfl) ?_
    intro n0 hn0 ih0 v0
    obtain ⟨x_61, x_62, b_63, b_64, b_65, b_66, b_67, b_68, b_69⟩ := v0
    refine Le.eqS 0 (by conv => lhs; cbv) ?_
    show Le F O M _ _ (spec_PutEntries.l0 (n0 + 1) a0 x_61 x_62 b_63 b_64 b_65 b_66 b_67 b_68 b_69) _
    rw [spec_PutEntries.l0]
    refine Le.condP 0 0 (by subst hO; rfl) (by conv => lhs; cbv) (by conv => lhs; cbv) ?_ ?_
    · refine Le.guardP 0 (by subst hO; rfl) (by conv => lhs; cbv) ?_
      refine Le.guardP 0 (by subst hO; rfl) (by conv => lhs; cbv) ?_
      refine Le.callC 0 (fi := fi52) rfl (spec_l12Common.le O hO n0 b_63 (O.get (⟨(⟨#[]⟩ : ByteArray), 0, 0, 0, 0, (⟨#[]⟩ : ByteArray), 0⟩ : GEntry) a0 x_62).Path) (by subst hO; rfl) (by intro r70; conv => lhs; cbv) ?_
      intro r70
      refine Le.callC 0 (fi := fi51) rfl (spec_PutVar.le O hO n0 r70) (by subst hO; rfl) (by intro r71; conv => lhs; cbv) ?_
      intro r71
      refine Le.guardP 0 (by subst hO; rfl) (by conv => lhs; cbv) ?_
      refine Le.guardP 0 (by subst hO; rfl) (by conv => lhs; cbv) ?_
      refine Le.guardP 0 (by subst hO; rfl) (by conv => lhs; cbv) ?_
      refine Le.guardP 0 (by subst hO; rfl) (by conv => lhs; cbv) ?_
      refine Le.callC 0 (fi := fi53) rfl (spec_PutText.le O hO n0 (O.sext (O.get (⟨(⟨#[]⟩ : ByteArray), 0, 0, 0, 0, (⟨#[]⟩ : ByteArray), 0⟩ : GEntry) a0 x_62).Path r70 (O.ssize (O.get (⟨(⟨#[]⟩ : ByteArray), 0, 0, 0, 0, (⟨#[]⟩ : ByteArray), 0⟩ : GEntry) a0 x_62).Path))) (by subst hO; rfl) (by intro r72; conv => lhs; cbv) ?_
      intro r72
      refine Le.guardP 0 (by subst hO; rfl) (by conv => lhs; cbv) ?_
      refine Le.condP 5 12 (by subst hO; rfl) (by conv => lhs; cbv) (by conv => lhs; cbv) ?_ ?_
      · refine Le.condP 5 6 (by subst hO; rfl) (by conv => lhs; cbv) (by conv => lhs; cbv) ?_ ?_
        · refine Le.condP 0 0 (by subst hO; rfl) (by conv => lhs; cbv) (by conv => lhs; cbv) ?_ ?_
          · refine Le.callC 0 (fi := fi51) rfl (spec_PutVar.le O hO n0 (O.wrap .i64 (O.add (O.get (⟨(⟨#[]⟩ : ByteArray), 0, 0, 0, 0, (⟨#[]⟩ : ByteArray), 0⟩ : GEntry) a0 x_62).Kind 4))) (by subst hO; rfl) (by intro r73; conv => lhs; cbv) ?_
            intro r73
            refine Le.guardP 0 (by subst hO; rfl) (by conv => lhs; cbv) ?_
            refine Le.condP 0 0 (by subst hO; rfl) (by conv => lhs; cbv) (by conv => lhs; cbv) ?_ ?_
            · refine Le.callC 0 (fi := fi51) rfl (spec_PutVar.le O hO n0 (O.get (⟨(⟨#[]⟩ : ByteArray), 0, 0, 0, 0, (⟨#[]⟩ : ByteArray), 0⟩ : GEntry) a0 x_62).Size) (by subst hO; rfl) (by intro r74; conv => lhs; cbv) ?_
              intro r74
              refine Le.guardP 0 (by subst hO; rfl) (by conv => lhs; cbv) ?_
              refine Le.callC 0 (fi := fi51) rfl (spec_PutVar.le O hO n0 (O.get (⟨(⟨#[]⟩ : ByteArray), 0, 0, 0, 0, (⟨#[]⟩ : ByteArray), 0⟩ : GEntry) a0 x_62).Group) (by subst hO; rfl) (by intro r75; conv => lhs; cbv) ?_
              intro r75
              refine Le.guardP 0 (by subst hO; rfl) (by conv => lhs; cbv) ?_
              exact Le.again (ih0 n0 (by omega) ((O.app (O.app (O.app (O.app (O.app x_61 r71) r72) r73) r74) r75), (O.wrap .i64 (O.add x_62 1)), (O.get (⟨(⟨#[]⟩ : ByteArray), 0, 0, 0, 0, (⟨#[]⟩ : ByteArray), 0⟩ : GEntry) a0 x_62).Path, (O.get (⟨(⟨#[]⟩ : ByteArray), 0, 0, 0, 0, (⟨#[]⟩ : ByteArray), 0⟩ : GEntry) a0 x_62).Kind, (O.get (⟨(⟨#[]⟩ : ByteArray), 0, 0, 0, 0, (⟨#[]⟩ : ByteArray), 0⟩ : GEntry) a0 x_62).Mode, (O.get (⟨(⟨#[]⟩ : ByteArray), 0, 0, 0, 0, (⟨#[]⟩ : ByteArray), 0⟩ : GEntry) a0 x_62).Time, (O.get (⟨(⟨#[]⟩ : ByteArray), 0, 0, 0, 0, (⟨#[]⟩ : ByteArray), 0⟩ : GEntry) a0 x_62).Size, (O.get (⟨(⟨#[]⟩ : ByteArray), 0, 0, 0, 0, (⟨#[]⟩ : ByteArray), 0⟩ : GEntry) a0 x_62).Target, (O.get (⟨(⟨#[]⟩ : ByteArray), 0, 0, 0, 0, (⟨#[]⟩ : ByteArray), 0⟩ : GEntry) a0 x_62).Group)) (by subst hO; rfl) rfl
            · refine Le.condP 0 0 (by subst hO; rfl) (by conv => lhs; cbv) (by conv => lhs; cbv) ?_ ?_
              · refine Le.callC 0 (fi := fi53) rfl (spec_PutText.le O hO n0 (O.get (⟨(⟨#[]⟩ : ByteArray), 0, 0, 0, 0, (⟨#[]⟩ : ByteArray), 0⟩ : GEntry) a0 x_62).Target) (by subst hO; rfl) (by intro r76; conv => lhs; cbv) ?_
                intro r76
                refine Le.guardP 0 (by subst hO; rfl) (by conv => lhs; cbv) ?_
                exact Le.again (ih0 n0 (by omega) ((O.app (O.app (O.app (O.app x_61 r71) r72) r73) r76), (O.wrap .i64 (O.add x_62 1)), (O.get (⟨(⟨#[]⟩ : ByteArray), 0, 0, 0, 0, (⟨#[]⟩ : ByteArray), 0⟩ : GEntry) a0 x_62).Path, (O.get (⟨(⟨#[]⟩ : ByteArray), 0, 0, 0, 0, (⟨#[]⟩ : ByteArray), 0⟩ : GEntry) a0 x_62).Kind, (O.get (⟨(⟨#[]⟩ : ByteArray), 0, 0, 0, 0, (⟨#[]⟩ : ByteArray), 0⟩ : GEntry) a0 x_62).Mode, (O.get (⟨(⟨#[]⟩ : ByteArray), 0, 0, 0, 0, (⟨#[]⟩ : ByteArray), 0⟩ : GEntry) a0 x_62).Time, (O.get (⟨(⟨#[]⟩ : ByteArray), 0, 0, 0, 0, (⟨#[]⟩ : ByteArray), 0⟩ : GEntry) a0 x_62).Size, (O.get (⟨(⟨#[]⟩ : ByteArray), 0, 0, 0, 0, (⟨#[]⟩ : ByteArray), 0⟩ : GEntry) a0 x_62).Target, (O.get (⟨(⟨#[]⟩ : ByteArray), 0, 0, 0, 0, (⟨#[]⟩ : ByteArray), 0⟩ : GEntry) a0 x_62).Group)) (by subst hO; rfl) rfl
              · exact Le.again (ih0 n0 (by omega) ((O.app (O.app (O.app x_61 r71) r72) r73), (O.wrap .i64 (O.add x_62 1)), (O.get (⟨(⟨#[]⟩ : ByteArray), 0, 0, 0, 0, (⟨#[]⟩ : ByteArray), 0⟩ : GEntry) a0 x_62).Path, (O.get (⟨(⟨#[]⟩ : ByteArray), 0, 0, 0, 0, (⟨#[]⟩ : ByteArray), 0⟩ : GEntry) a0 x_62).Kind, (O.get (⟨(⟨#[]⟩ : ByteArray), 0, 0, 0, 0, (⟨#[]⟩ : ByteArray), 0⟩ : GEntry) a0 x_62).Mode, (O.get (⟨(⟨#[]⟩ : ByteArray), 0, 0, 0, 0, (⟨#[]⟩ : ByteArray), 0⟩ : GEntry) a0 x_62).Time, (O.get (⟨(⟨#[]⟩ : ByteArray), 0, 0, 0, 0, (⟨#[]⟩ : ByteArray), 0⟩ : GEntry) a0 x_62).Size, (O.get (⟨(⟨#[]⟩ : ByteArray), 0, 0, 0, 0, (⟨#[]⟩ : ByteArray), 0⟩ : GEntry) a0 x_62).Target, (O.get (⟨(⟨#[]⟩ : ByteArray), 0, 0, 0, 0, (⟨#[]⟩ : ByteArray), 0⟩ : GEntry) a0 x_62).Group)) (by subst hO; rfl) rfl
          · refine Le.callC 0 (fi := fi51) rfl (spec_PutVar.le O hO n0 (O.get (⟨(⟨#[]⟩ : ByteArray), 0, 0, 0, 0, (⟨#[]⟩ : ByteArray), 0⟩ : GEntry) a0 x_62).Kind) (by subst hO; rfl) (by intro r77; conv => lhs; cbv) ?_
            intro r77
            refine Le.guardP 0 (by subst hO; rfl) (by conv => lhs; cbv) ?_
            refine Le.callC 0 (fi := fi51) rfl (spec_PutVar.le O hO n0 (O.get (⟨(⟨#[]⟩ : ByteArray), 0, 0, 0, 0, (⟨#[]⟩ : ByteArray), 0⟩ : GEntry) a0 x_62).Mode) (by subst hO; rfl) (by intro r78; conv => lhs; cbv) ?_
            intro r78
            refine Le.guardP 0 (by subst hO; rfl) (by conv => lhs; cbv) ?_
            refine Le.callC 0 (fi := fi51) rfl (spec_PutVar.le O hO n0 (O.get (⟨(⟨#[]⟩ : ByteArray), 0, 0, 0, 0, (⟨#[]⟩ : ByteArray), 0⟩ : GEntry) a0 x_62).Time) (by subst hO; rfl) (by intro r79; conv => lhs; cbv) ?_
            intro r79
            refine Le.guardP 0 (by subst hO; rfl) (by conv => lhs; cbv) ?_
            refine Le.condP 0 0 (by subst hO; rfl) (by conv => lhs; cbv) (by conv => lhs; cbv) ?_ ?_
            · refine Le.callC 0 (fi := fi51) rfl (spec_PutVar.le O hO n0 (O.get (⟨(⟨#[]⟩ : ByteArray), 0, 0, 0, 0, (⟨#[]⟩ : ByteArray), 0⟩ : GEntry) a0 x_62).Size) (by subst hO; rfl) (by intro r80; conv => lhs; cbv) ?_
              intro r80
              refine Le.guardP 0 (by subst hO; rfl) (by conv => lhs; cbv) ?_
              refine Le.callC 0 (fi := fi51) rfl (spec_PutVar.le O hO n0 (O.get (⟨(⟨#[]⟩ : ByteArray), 0, 0, 0, 0, (⟨#[]⟩ : ByteArray), 0⟩ : GEntry) a0 x_62).Group) (by subst hO; rfl) (by intro r81; conv => lhs; cbv) ?_
              intro r81
              refine Le.guardP 0 (by subst hO; rfl) (by conv => lhs; cbv) ?_
              exact Le.again (ih0 n0 (by omega) ((O.app (O.app (O.app (O.app (O.app (O.app (O.app x_61 r71) r72) r77) r78) r79) r80) r81), (O.wrap .i64 (O.add x_62 1)), (O.get (⟨(⟨#[]⟩ : ByteArray), 0, 0, 0, 0, (⟨#[]⟩ : ByteArray), 0⟩ : GEntry) a0 x_62).Path, (O.get (⟨(⟨#[]⟩ : ByteArray), 0, 0, 0, 0, (⟨#[]⟩ : ByteArray), 0⟩ : GEntry) a0 x_62).Kind, (O.get (⟨(⟨#[]⟩ : ByteArray), 0, 0, 0, 0, (⟨#[]⟩ : ByteArray), 0⟩ : GEntry) a0 x_62).Mode, (O.get (⟨(⟨#[]⟩ : ByteArray), 0, 0, 0, 0, (⟨#[]⟩ : ByteArray), 0⟩ : GEntry) a0 x_62).Time, (O.get (⟨(⟨#[]⟩ : ByteArray), 0, 0, 0, 0, (⟨#[]⟩ : ByteArray), 0⟩ : GEntry) a0 x_62).Size, (O.get (⟨(⟨#[]⟩ : ByteArray), 0, 0, 0, 0, (⟨#[]⟩ : ByteArray), 0⟩ : GEntry) a0 x_62).Target, (O.get (⟨(⟨#[]⟩ : ByteArray), 0, 0, 0, 0, (⟨#[]⟩ : ByteArray), 0⟩ : GEntry) a0 x_62).Group)) (by subst hO; rfl) rfl
            · refine Le.condP 0 0 (by subst hO; rfl) (by conv => lhs; cbv) (by conv => lhs; cbv) ?_ ?_
              · refine Le.callC 0 (fi := fi53) rfl (spec_PutText.le O hO n0 (O.get (⟨(⟨#[]⟩ : ByteArray), 0, 0, 0, 0, (⟨#[]⟩ : ByteArray), 0⟩ : GEntry) a0 x_62).Target) (by subst hO; rfl) (by intro r82; conv => lhs; cbv) ?_
                intro r82
                refine Le.guardP 0 (by subst hO; rfl) (by conv => lhs; cbv) ?_
                exact Le.again (ih0 n0 (by omega) ((O.app (O.app (O.app (O.app (O.app (O.app x_61 r71) r72) r77) r78) r79) r82), (O.wrap .i64 (O.add x_62 1)), (O.get (⟨(⟨#[]⟩ : ByteArray), 0, 0, 0, 0, (⟨#[]⟩ : ByteArray), 0⟩ : GEntry) a0 x_62).Path, (O.get (⟨(⟨#[]⟩ : ByteArray), 0, 0, 0, 0, (⟨#[]⟩ : ByteArray), 0⟩ : GEntry) a0 x_62).Kind, (O.get (⟨(⟨#[]⟩ : ByteArray), 0, 0, 0, 0, (⟨#[]⟩ : ByteArray), 0⟩ : GEntry) a0 x_62).Mode, (O.get (⟨(⟨#[]⟩ : ByteArray), 0, 0, 0, 0, (⟨#[]⟩ : ByteArray), 0⟩ : GEntry) a0 x_62).Time, (O.get (⟨(⟨#[]⟩ : ByteArray), 0, 0, 0, 0, (⟨#[]⟩ : ByteArray), 0⟩ : GEntry) a0 x_62).Size, (O.get (⟨(⟨#[]⟩ : ByteArray), 0, 0, 0, 0, (⟨#[]⟩ : ByteArray), 0⟩ : GEntry) a0 x_62).Target, (O.get (⟨(⟨#[]⟩ : ByteArray), 0, 0, 0, 0, (⟨#[]⟩ : ByteArray), 0⟩ : GEntry) a0 x_62).Group)) (by subst hO; rfl) rfl
              · exact Le.again (ih0 n0 (by omega) ((O.app (O.app (O.app (O.app (O.app x_61 r71) r72) r77) r78) r79), (O.wrap .i64 (O.add x_62 1)), (O.get (⟨(⟨#[]⟩ : ByteArray), 0, 0, 0, 0, (⟨#[]⟩ : ByteArray), 0⟩ : GEntry) a0 x_62).Path, (O.get (⟨(⟨#[]⟩ : ByteArray), 0, 0, 0, 0, (⟨#[]⟩ : ByteArray), 0⟩ : GEntry) a0 x_62).Kind, (O.get (⟨(⟨#[]⟩ : ByteArray), 0, 0, 0, 0, (⟨#[]⟩ : ByteArray), 0⟩ : GEntry) a0 x_62).Mode, (O.get (⟨(⟨#[]⟩ : ByteArray), 0, 0, 0, 0, (⟨#[]⟩ : ByteArray), 0⟩ : GEntry) a0 x_62).Time, (O.get (⟨(⟨#[]⟩ : ByteArray), 0, 0, 0, 0, (⟨#[]⟩ : ByteArray), 0⟩ : GEntry) a0 x_62).Size, (O.get (⟨(⟨#[]⟩ : ByteArray), 0, 0, 0, 0, (⟨#[]⟩ : ByteArray), 0⟩ : GEntry) a0 x_62).Target, (O.get (⟨(⟨#[]⟩ : ByteArray), 0, 0, 0, 0, (⟨#[]⟩ : ByteArray), 0⟩ : GEntry) a0 x_62).Group)) (by subst hO; rfl) rfl
        · refine Le.callC 0 (fi := fi51) rfl (spec_PutVar.le O hO n0 (O.get (⟨(⟨#[]⟩ : ByteArray), 0, 0, 0, 0, (⟨#[]⟩ : ByteArray), 0⟩ : GEntry) a0 x_62).Kind) (by subst hO; rfl) (by intro r83; conv => lhs; cbv) ?_
          intro r83
          refine Le.guardP 0 (by subst hO; rfl) (by conv => lhs; cbv) ?_
          refine Le.callC 0 (fi := fi51) rfl (spec_PutVar.le O hO n0 (O.get (⟨(⟨#[]⟩ : ByteArray), 0, 0, 0, 0, (⟨#[]⟩ : ByteArray), 0⟩ : GEntry) a0 x_62).Mode) (by subst hO; rfl) (by intro r84; conv => lhs; cbv) ?_
          intro r84
          refine Le.guardP 0 (by subst hO; rfl) (by conv => lhs; cbv) ?_
          refine Le.callC 0 (fi := fi51) rfl (spec_PutVar.le O hO n0 (O.get (⟨(⟨#[]⟩ : ByteArray), 0, 0, 0, 0, (⟨#[]⟩ : ByteArray), 0⟩ : GEntry) a0 x_62).Time) (by subst hO; rfl) (by intro r85; conv => lhs; cbv) ?_
          intro r85
          refine Le.guardP 0 (by subst hO; rfl) (by conv => lhs; cbv) ?_
          refine Le.condP 0 0 (by subst hO; rfl) (by conv => lhs; cbv) (by conv => lhs; cbv) ?_ ?_
          · refine Le.callC 0 (fi := fi51) rfl (spec_PutVar.le O hO n0 (O.get (⟨(⟨#[]⟩ : ByteArray), 0, 0, 0, 0, (⟨#[]⟩ : ByteArray), 0⟩ : GEntry) a0 x_62).Size) (by subst hO; rfl) (by intro r86; conv => lhs; cbv) ?_
            intro r86
            refine Le.guardP 0 (by subst hO; rfl) (by conv => lhs; cbv) ?_
            refine Le.callC 0 (fi := fi51) rfl (spec_PutVar.le O hO n0 (O.get (⟨(⟨#[]⟩ : ByteArray), 0, 0, 0, 0, (⟨#[]⟩ : ByteArray), 0⟩ : GEntry) a0 x_62).Group) (by subst hO; rfl) (by intro r87; conv => lhs; cbv) ?_
            intro r87
            refine Le.guardP 0 (by subst hO; rfl) (by conv => lhs; cbv) ?_
            exact Le.again (ih0 n0 (by omega) ((O.app (O.app (O.app (O.app (O.app (O.app (O.app x_61 r71) r72) r83) r84) r85) r86) r87), (O.wrap .i64 (O.add x_62 1)), (O.get (⟨(⟨#[]⟩ : ByteArray), 0, 0, 0, 0, (⟨#[]⟩ : ByteArray), 0⟩ : GEntry) a0 x_62).Path, (O.get (⟨(⟨#[]⟩ : ByteArray), 0, 0, 0, 0, (⟨#[]⟩ : ByteArray), 0⟩ : GEntry) a0 x_62).Kind, (O.get (⟨(⟨#[]⟩ : ByteArray), 0, 0, 0, 0, (⟨#[]⟩ : ByteArray), 0⟩ : GEntry) a0 x_62).Mode, (O.get (⟨(⟨#[]⟩ : ByteArray), 0, 0, 0, 0, (⟨#[]⟩ : ByteArray), 0⟩ : GEntry) a0 x_62).Time, (O.get (⟨(⟨#[]⟩ : ByteArray), 0, 0, 0, 0, (⟨#[]⟩ : ByteArray), 0⟩ : GEntry) a0 x_62).Size, (O.get (⟨(⟨#[]⟩ : ByteArray), 0, 0, 0, 0, (⟨#[]⟩ : ByteArray), 0⟩ : GEntry) a0 x_62).Target, (O.get (⟨(⟨#[]⟩ : ByteArray), 0, 0, 0, 0, (⟨#[]⟩ : ByteArray), 0⟩ : GEntry) a0 x_62).Group)) (by subst hO; rfl) rfl
          · refine Le.condP 0 0 (by subst hO; rfl) (by conv => lhs; cbv) (by conv => lhs; cbv) ?_ ?_
            · refine Le.callC 0 (fi := fi53) rfl (spec_PutText.le O hO n0 (O.get (⟨(⟨#[]⟩ : ByteArray), 0, 0, 0, 0, (⟨#[]⟩ : ByteArray), 0⟩ : GEntry) a0 x_62).Target) (by subst hO; rfl) (by intro r88; conv => lhs; cbv) ?_
              intro r88
              refine Le.guardP 0 (by subst hO; rfl) (by conv => lhs; cbv) ?_
              exact Le.again (ih0 n0 (by omega) ((O.app (O.app (O.app (O.app (O.app (O.app x_61 r71) r72) r83) r84) r85) r88), (O.wrap .i64 (O.add x_62 1)), (O.get (⟨(⟨#[]⟩ : ByteArray), 0, 0, 0, 0, (⟨#[]⟩ : ByteArray), 0⟩ : GEntry) a0 x_62).Path, (O.get (⟨(⟨#[]⟩ : ByteArray), 0, 0, 0, 0, (⟨#[]⟩ : ByteArray), 0⟩ : GEntry) a0 x_62).Kind, (O.get (⟨(⟨#[]⟩ : ByteArray), 0, 0, 0, 0, (⟨#[]⟩ : ByteArray), 0⟩ : GEntry) a0 x_62).Mode, (O.get (⟨(⟨#[]⟩ : ByteArray), 0, 0, 0, 0, (⟨#[]⟩ : ByteArray), 0⟩ : GEntry) a0 x_62).Time, (O.get (⟨(⟨#[]⟩ : ByteArray), 0, 0, 0, 0, (⟨#[]⟩ : ByteArray), 0⟩ : GEntry) a0 x_62).Size, (O.get (⟨(⟨#[]⟩ : ByteArray), 0, 0, 0, 0, (⟨#[]⟩ : ByteArray), 0⟩ : GEntry) a0 x_62).Target, (O.get (⟨(⟨#[]⟩ : ByteArray), 0, 0, 0, 0, (⟨#[]⟩ : ByteArray), 0⟩ : GEntry) a0 x_62).Group)) (by subst hO; rfl) rfl
            · exact Le.again (ih0 n0 (by omega) ((O.app (O.app (O.app (O.app (O.app x_61 r71) r72) r83) r84) r85), (O.wrap .i64 (O.add x_62 1)), (O.get (⟨(⟨#[]⟩ : ByteArray), 0, 0, 0, 0, (⟨#[]⟩ : ByteArray), 0⟩ : GEntry) a0 x_62).Path, (O.get (⟨(⟨#[]⟩ : ByteArray), 0, 0, 0, 0, (⟨#[]⟩ : ByteArray), 0⟩ : GEntry) a0 x_62).Kind, (O.get (⟨(⟨#[]⟩ : ByteArray), 0, 0, 0, 0, (⟨#[]⟩ : ByteArray), 0⟩ : GEntry) a0 x_62).Mode, (O.get (⟨(⟨#[]⟩ : ByteArray), 0, 0, 0, 0, (⟨#[]⟩ : ByteArray), 0⟩ : GEntry) a0 x_62).Time, (O.get (⟨(⟨#[]⟩ : ByteArray), 0, 0, 0, 0, (⟨#[]⟩ : ByteArray), 0⟩ : GEntry) a0 x_62).Size, (O.get (⟨(⟨#[]⟩ : ByteArray), 0, 0, 0, 0, (⟨#[]⟩ : ByteArray), 0⟩ : GEntry) a0 x_62).Target, (O.get (⟨(⟨#[]⟩ : ByteArray), 0, 0, 0, 0, (⟨#[]⟩ : ByteArray), 0⟩ : GEntry) a0 x_62).Group)) (by subst hO; rfl) rfl
      · refine Le.callC 0 (fi := fi51) rfl (spec_PutVar.le O hO n0 (O.get (⟨(⟨#[]⟩ : ByteArray), 0, 0, 0, 0, (⟨#[]⟩ : ByteArray), 0⟩ : GEntry) a0 x_62).Kind) (by subst hO; rfl) (by intro r89; conv => lhs; cbv) ?_
        intro r89
        refine Le.guardP 0 (by subst hO; rfl) (by conv => lhs; cbv) ?_
        refine Le.callC 0 (fi := fi51) rfl (spec_PutVar.le O hO n0 (O.get (⟨(⟨#[]⟩ : ByteArray), 0, 0, 0, 0, (⟨#[]⟩ : ByteArray), 0⟩ : GEntry) a0 x_62).Mode) (by subst hO; rfl) (by intro r90; conv => lhs; cbv) ?_
        intro r90
        refine Le.guardP 0 (by subst hO; rfl) (by conv => lhs; cbv) ?_
        refine Le.callC 0 (fi := fi51) rfl (spec_PutVar.le O hO n0 (O.get (⟨(⟨#[]⟩ : ByteArray), 0, 0, 0, 0, (⟨#[]⟩ : ByteArray), 0⟩ : GEntry) a0 x_62).Time) (by subst hO; rfl) (by intro r91; conv => lhs; cbv) ?_
        intro r91
        refine Le.guardP 0 (by subst hO; rfl) (by conv => lhs; cbv) ?_
        refine Le.condP 0 0 (by subst hO; rfl) (by conv => lhs; cbv) (by conv => lhs; cbv) ?_ ?_
        · refine Le.callC 0 (fi := fi51) rfl (spec_PutVar.le O hO n0 (O.get (⟨(⟨#[]⟩ : ByteArray), 0, 0, 0, 0, (⟨#[]⟩ : ByteArray), 0⟩ : GEntry) a0 x_62).Size) (by subst hO; rfl) (by intro r92; conv => lhs; cbv) ?_
          intro r92
          refine Le.guardP 0 (by subst hO; rfl) (by conv => lhs; cbv) ?_
          refine Le.callC 0 (fi := fi51) rfl (spec_PutVar.le O hO n0 (O.get (⟨(⟨#[]⟩ : ByteArray), 0, 0, 0, 0, (⟨#[]⟩ : ByteArray), 0⟩ : GEntry) a0 x_62).Group) (by subst hO; rfl) (by intro r93; conv => lhs; cbv) ?_
          intro r93
          refine Le.guardP 0 (by subst hO; rfl) (by conv => lhs; cbv) ?_
          exact Le.again (ih0 n0 (by omega) ((O.app (O.app (O.app (O.app (O.app (O.app (O.app x_61 r71) r72) r89) r90) r91) r92) r93), (O.wrap .i64 (O.add x_62 1)), (O.get (⟨(⟨#[]⟩ : ByteArray), 0, 0, 0, 0, (⟨#[]⟩ : ByteArray), 0⟩ : GEntry) a0 x_62).Path, (O.get (⟨(⟨#[]⟩ : ByteArray), 0, 0, 0, 0, (⟨#[]⟩ : ByteArray), 0⟩ : GEntry) a0 x_62).Kind, (O.get (⟨(⟨#[]⟩ : ByteArray), 0, 0, 0, 0, (⟨#[]⟩ : ByteArray), 0⟩ : GEntry) a0 x_62).Mode, (O.get (⟨(⟨#[]⟩ : ByteArray), 0, 0, 0, 0, (⟨#[]⟩ : ByteArray), 0⟩ : GEntry) a0 x_62).Time, (O.get (⟨(⟨#[]⟩ : ByteArray), 0, 0, 0, 0, (⟨#[]⟩ : ByteArray), 0⟩ : GEntry) a0 x_62).Size, (O.get (⟨(⟨#[]⟩ : ByteArray), 0, 0, 0, 0, (⟨#[]⟩ : ByteArray), 0⟩ : GEntry) a0 x_62).Target, (O.get (⟨(⟨#[]⟩ : ByteArray), 0, 0, 0, 0, (⟨#[]⟩ : ByteArray), 0⟩ : GEntry) a0 x_62).Group)) (by subst hO; rfl) rfl
        · refine Le.condP 0 0 (by subst hO; rfl) (by conv => lhs; cbv) (by conv => lhs; cbv) ?_ ?_
          · refine Le.callC 0 (fi := fi53) rfl (spec_PutText.le O hO n0 (O.get (⟨(⟨#[]⟩ : ByteArray), 0, 0, 0, 0, (⟨#[]⟩ : ByteArray), 0⟩ : GEntry) a0 x_62).Target) (by subst hO; rfl) (by intro r94; conv => lhs; cbv) ?_
            intro r94
            refine Le.guardP 0 (by subst hO; rfl) (by conv => lhs; cbv) ?_
            exact Le.again (ih0 n0 (by omega) ((O.app (O.app (O.app (O.app (O.app (O.app x_61 r71) r72) r89) r90) r91) r94), (O.wrap .i64 (O.add x_62 1)), (O.get (⟨(⟨#[]⟩ : ByteArray), 0, 0, 0, 0, (⟨#[]⟩ : ByteArray), 0⟩ : GEntry) a0 x_62).Path, (O.get (⟨(⟨#[]⟩ : ByteArray), 0, 0, 0, 0, (⟨#[]⟩ : ByteArray), 0⟩ : GEntry) a0 x_62).Kind, (O.get (⟨(⟨#[]⟩ : ByteArray), 0, 0, 0, 0, (⟨#[]⟩ : ByteArray), 0⟩ : GEntry) a0 x_62).Mode, (O.get (⟨(⟨#[]⟩ : ByteArray), 0, 0, 0, 0, (⟨#[]⟩ : ByteArray), 0⟩ : GEntry) a0 x_62).Time, (O.get (⟨(⟨#[]⟩ : ByteArray), 0, 0, 0, 0, (⟨#[]⟩ : ByteArray), 0⟩ : GEntry) a0 x_62).Size, (O.get (⟨(⟨#[]⟩ : ByteArray), 0, 0, 0, 0, (⟨#[]⟩ : ByteArray), 0⟩ : GEntry) a0 x_62).Target, (O.get (⟨(⟨#[]⟩ : ByteArray), 0, 0, 0, 0, (⟨#[]⟩ : ByteArray), 0⟩ : GEntry) a0 x_62).Group)) (by subst hO; rfl) rfl
          · exact Le.again (ih0 n0 (by omega) ((O.app (O.app (O.app (O.app (O.app x_61 r71) r72) r89) r90) r91), (O.wrap .i64 (O.add x_62 1)), (O.get (⟨(⟨#[]⟩ : ByteArray), 0, 0, 0, 0, (⟨#[]⟩ : ByteArray), 0⟩ : GEntry) a0 x_62).Path, (O.get (⟨(⟨#[]⟩ : ByteArray), 0, 0, 0, 0, (⟨#[]⟩ : ByteArray), 0⟩ : GEntry) a0 x_62).Kind, (O.get (⟨(⟨#[]⟩ : ByteArray), 0, 0, 0, 0, (⟨#[]⟩ : ByteArray), 0⟩ : GEntry) a0 x_62).Mode, (O.get (⟨(⟨#[]⟩ : ByteArray), 0, 0, 0, 0, (⟨#[]⟩ : ByteArray), 0⟩ : GEntry) a0 x_62).Time, (O.get (⟨(⟨#[]⟩ : ByteArray), 0, 0, 0, 0, (⟨#[]⟩ : ByteArray), 0⟩ : GEntry) a0 x_62).Size, (O.get (⟨(⟨#[]⟩ : ByteArray), 0, 0, 0, 0, (⟨#[]⟩ : ByteArray), 0⟩ : GEntry) a0 x_62).Target, (O.get (⟨(⟨#[]⟩ : ByteArray), 0, 0, 0, 0, (⟨#[]⟩ : ByteArray), 0⟩ : GEntry) a0 x_62).Group)) (by subst hO; rfl) rfl
    · exact Le.ret2 (by subst hO; rfl)
/-! ### loop.example/g00100/laws.FnEntries -/
def laws_FnEntries.e (r : Bool) : Res tab := (([], []), .one (.lit (.bool r)))
def laws_FnEntries.l2 : Nat → (List GEntry) → (List Int) → (List GEntry × Bool) → Int → Option Bool
  | 0, _, _, _, _ => none
  | k + 1, x_6, r9, r10, x_14 => (if x_14 < (x_6.length : Int) then (if 0 ≤ x_14 then (if x_14 < (r10.1.length : Int) then (if 0 ≤ x_14 then (if x_14 < (x_6.length : Int) then (if (r10.1.getD (Int.toNat x_14) (⟨(⟨#[]⟩ : ByteArray), 0, 0, 0, 0, (⟨#[]⟩ : ByteArray), 0⟩ : GEntry)).Path = (x_6.getD (Int.toNat x_14) (⟨(⟨#[]⟩ : ByteArray), 0, 0, 0, 0, (⟨#[]⟩ : ByteArray), 0⟩ : GEntry)).Path then (if (r10.1.getD (Int.toNat x_14) (⟨(⟨#[]⟩ : ByteArray), 0, 0, 0, 0, (⟨#[]⟩ : ByteArray), 0⟩ : GEntry)).Kind = (x_6.getD (Int.toNat x_14) (⟨(⟨#[]⟩ : ByteArray), 0, 0, 0, 0, (⟨#[]⟩ : ByteArray), 0⟩ : GEntry)).Kind then (if (r10.1.getD (Int.toNat x_14) (⟨(⟨#[]⟩ : ByteArray), 0, 0, 0, 0, (⟨#[]⟩ : ByteArray), 0⟩ : GEntry)).Mode = (x_6.getD (Int.toNat x_14) (⟨(⟨#[]⟩ : ByteArray), 0, 0, 0, 0, (⟨#[]⟩ : ByteArray), 0⟩ : GEntry)).Mode then (if (r10.1.getD (Int.toNat x_14) (⟨(⟨#[]⟩ : ByteArray), 0, 0, 0, 0, (⟨#[]⟩ : ByteArray), 0⟩ : GEntry)).Time = (x_6.getD (Int.toNat x_14) (⟨(⟨#[]⟩ : ByteArray), 0, 0, 0, 0, (⟨#[]⟩ : ByteArray), 0⟩ : GEntry)).Time then (if (r10.1.getD (Int.toNat x_14) (⟨(⟨#[]⟩ : ByteArray), 0, 0, 0, 0, (⟨#[]⟩ : ByteArray), 0⟩ : GEntry)).Size = (x_6.getD (Int.toNat x_14) (⟨(⟨#[]⟩ : ByteArray), 0, 0, 0, 0, (⟨#[]⟩ : ByteArray), 0⟩ : GEntry)).Size then (if (r10.1.getD (Int.toNat x_14) (⟨(⟨#[]⟩ : ByteArray), 0, 0, 0, 0, (⟨#[]⟩ : ByteArray), 0⟩ : GEntry)).Target = (x_6.getD (Int.toNat x_14) (⟨(⟨#[]⟩ : ByteArray), 0, 0, 0, 0, (⟨#[]⟩ : ByteArray), 0⟩ : GEntry)).Target then (if (r10.1.getD (Int.toNat x_14) (⟨(⟨#[]⟩ : ByteArray), 0, 0, 0, 0, (⟨#[]⟩ : ByteArray), 0⟩ : GEntry)).Group = (x_6.getD (Int.toNat x_14) (⟨(⟨#[]⟩ : ByteArray), 0, 0, 0, 0, (⟨#[]⟩ : ByteArray), 0⟩ : GEntry)).Group then (laws_FnEntries.l2 k x_6 r9 r10 (IntKind.wrap .i64 (x_14 + 1))) else (some false)) else (some false)) else (some false)) else (some false)) else (some false)) else (some false)) else (some false)) else none) else none) else none) else none) else (if (((([] : List Int).length : Int) + (r9.length : Int)) * 1) ≤ 140737488351232 then (if ((((([] : List Int) ++ r9).length : Int) + ([1].length : Int)) * 1) ≤ 140737488351232 then ((impl_GetEntries.f k ((([] : List Int) ++ r9) ++ [1])).bind fun r15 => (some (!r15.2))) else none) else none))
def laws_FnEntries.l0 : Nat → (List GNode) → (List GEntry) → Int → Option Bool
  | 0, _, _, _ => none
  | k + 1, r1, x_6, x_7 => (if x_7 < (r1.length : Int) then (if 0 ≤ x_7 then (if x_7 < (r1.length : Int) then ((impl_EntryOf.f (r1.getD (Int.toNat x_7) (⟨(⟨#[]⟩ : ByteArray), 0, 0, 0, (⟨#[]⟩ : ByteArray), (⟨#[]⟩ : ByteArray), 0⟩ : GNode))).bind fun r8 => (if 0 ≤ x_7 then (if x_7 < (r1.length : Int) then (if r8.Path = (r1.getD (Int.toNat x_7) (⟨(⟨#[]⟩ : ByteArray), 0, 0, 0, (⟨#[]⟩ : ByteArray), (⟨#[]⟩ : ByteArray), 0⟩ : GNode)).Path then (if 0 ≤ x_7 then (if x_7 < (r1.length : Int) then (if r8.Size = ((r1.getD (Int.toNat x_7) (⟨(⟨#[]⟩ : ByteArray), 0, 0, 0, (⟨#[]⟩ : ByteArray), (⟨#[]⟩ : ByteArray), 0⟩ : GNode)).Data.size : Int) then (if 0 ≤ x_7 then (if x_7 < (r1.length : Int) then (if r8.Group = (r1.getD (Int.toNat x_7) (⟨(⟨#[]⟩ : ByteArray), 0, 0, 0, (⟨#[]⟩ : ByteArray), (⟨#[]⟩ : ByteArray), 0⟩ : GNode)).Group then (if (((x_6.length : Int) + ([r8].length : Int)) * 72) ≤ 140737488351232 then (laws_FnEntries.l0 k r1 (x_6 ++ [r8]) (IntKind.wrap .i64 (x_7 + 1))) else none) else (some false)) else none) else none) else (some false)) else none) else none) else (some false)) else none) else none)) else none) else none) else ((impl_PutEntries.f k x_6).bind fun r9 => ((impl_GetEntries.f k r9).bind fun r10 => ((impl_EntriesOk.f k x_6).bind fun r11 => (if r11 = true then (if r10.2 = true then (if (r10.1.length : Int) = (x_6.length : Int) then ((spec_PutEntries.f k x_6).bind fun r12 => (if (r9.length : Int) = (r12.length : Int) then (laws_FnEntries.l2 k x_6 r9 r10 0) else (some false))) else (some false)) else (some false)) else (some false))))))
def laws_FnEntries.f (k : Nat) (a0 : List Int) : Option Bool := ((laws_big.f a0).bind fun r0 => (if r0 = true then (some true) else ((spec_DrawTree.f k a0).bind fun r1 => (laws_FnEntries.l0 k r1 ([] : List GEntry) 0))))
theorem laws_FnEntries.le (O : Prim) (hO : O = std) (k : Nat) (a0 : List Int) : Le F O M fi5.kills laws_FnEntries.e (laws_FnEntries.f k a0) (den O M fi5.kills fi5.fn fi5.body (tab.gives 5) (M 5) [.one (.imm 5 a0)] : Tr tab) := by
  refine Le.eqS 0 (by conv => lhs; cbv) ?_
  unfold laws_FnEntries.f
  refine Le.callC 0 (fi := fi20) rfl (laws_big.le O hO a0) (by subst hO; rfl) (by intro r0; conv => lhs; cbv) ?_
  intro r0
  refine Le.condP 0 0 (by subst hO; exact Bool.decide_eq_true) (by conv => lhs; cbv) (by conv => lhs; cbv) ?_ ?_
  · exact Le.ret2 (by subst hO; rfl)
  · refine Le.callC 0 (fi := fi21) rfl (spec_DrawTree.le O hO k a0) (by subst hO; rfl) (by intro r1; conv => lhs; cbv) ?_
    intro r1
    refine Le.loopS (fun (n : Nat) (v : List GEntry × Int) => laws_FnEntries.l0 n r1 v.1 v.2) (fun (v : List GEntry × Int) => match v with | (x_6, x_7) => (⟨[], [D_, D_, D_, .one (.imm 26 r1), .one (.own 42 x_6), .one (.lit (.int .i64 x_7)), D_, D_, D_, D_, D_, D_, D_, D_, D_, D_, D_, D_, D_, D_, D_, D_, D_, D_, D_, D_, D_, D_, D_, D_, D_, D_, D_, D_, D_, D_, D_, D_, D_, D_, D_, D_, D_, D_, D_, D_, D_, D_, D_, D_, D_, D_, D_, D_, D_, D_, D_, D_, D_, D_, D_, D_, D_, D_, D_, D_, D_, D_, D_, D_, D_, D_, D_, D_, D_, D_, D_, D_, D_, D_, D_, D_, D_, D_, D_, D_, D_, D_, D_, D_, D_, D_, D_, D_, D_, D_, D_, D_, D_, D_, D_, D_, D_, D_, D_, D_, D_, D_, D_, D_, D_, D_, D_, D_, D_, D_, D_], [[], [], [], [], [], [], [], [], [], [], [], [], [], [], [], [], [], [], [], [], [], [], [], [], [], [], [], [], [], [], [], [], [], [], [], [], [], [], [], [], [], [], [], [], [], [], [], [], [], [], [], [], [], [], [], [], [], [], [], [], [], [], [], [], [], [], [], [], [], [], [], [], [], [], [], [], [], [], [], [], [], [], [], [], [], [], [], [], [], [], [], [], [], [], [], [], [], [], [], [], [], [], [], [], [], [], [], [], [], [], [], [], [], [], [], [], [], []], []⟩ : S tab)) k (([] : List GEntry), 0) (by subst hO; rfl) rfl (fun _ => rfl) ?_
    intro n0 hn0 ih0 v0
    obtain ⟨x_6, x_7⟩ := v0
    refine Le.eqS 0 (by conv => lhs; cbv) ?_
    show Le F O M _ _ (laws_FnEntries.l0 (n0 + 1) r1 x_6 x_7) _
    rw [laws_FnEntries.l0]
    refine Le.condP 0 0 (by subst hO; rfl) (by conv => lhs; cbv) (by conv => lhs; cbv) ?_ ?_
    · refine Le.guardP 0 (by subst hO; rfl) (by conv => lhs; cbv) ?_
      refine Le.guardP 0 (by subst hO; rfl) (by conv => lhs; cbv) ?_
      refine Le.callC 0 (fi := fi22) rfl (impl_EntryOf.le O hO (O.get (⟨(⟨#[]⟩ : ByteArray), 0, 0, 0, (⟨#[]⟩ : ByteArray), (⟨#[]⟩ : ByteArray), 0⟩ : GNode) r1 x_7)) (by subst hO; rfl) (by intro r8; conv => lhs; cbv) ?_
      intro r8
      refine Le.guardP 0 (by subst hO; rfl) (by conv => lhs; cbv) ?_
      refine Le.guardP 0 (by subst hO; rfl) (by conv => lhs; cbv) ?_
      refine Le.condN 19 4 (by subst hO; exact (seq_dec _ _).trans (Bool.not_not _).symm) (by conv => lhs; cbv) (by conv => lhs; cbv) ?_ ?_
      · exact Le.ret2 (by subst hO; rfl)
      · refine Le.guardP 0 (by subst hO; rfl) (by conv => lhs; cbv) ?_
        refine Le.guardP 5 (by subst hO; rfl) (by conv => lhs; cbv) ?_
        refine Le.condN 9 4 (by subst hO; exact (Bool.not_not _).symm) (by conv => lhs; cbv) (by conv => lhs; cbv) ?_ ?_
        · exact Le.ret2 (by subst hO; rfl)
        · refine Le.guardP 0 (by subst hO; rfl) (by conv => lhs; cbv) ?_
          refine Le.guardP 4 (by subst hO; rfl) (by conv => lhs; cbv) ?_
          refine Le.condN 0 0 (by subst hO; exact (Bool.not_not _).symm) (by conv => lhs; cbv) (by conv => lhs; cbv) ?_ ?_
          · exact Le.ret2 (by subst hO; rfl)
          · refine Le.guardP 0 (by subst hO; rfl) (by conv => lhs; cbv) ?_
            exact Le.again (ih0 n0 (by omega) ((O.app x_6 [r8]), (O.wrap .i64 (O.add x_7 1)))) (by subst hO; rfl) rfl
    · refine Le.callC 0 (fi := fi23) rfl (impl_PutEntries.le O hO n0 x_6) (by subst hO; rfl) (by intro r9; conv => lhs; cbv) ?_
      intro r9
      refine Le.callC 0 (fi := fi14) rfl (impl_GetEntries.le O hO n0 r9) (by subst hO; rfl) (by intro r10; conv => lhs; cbv) ?_
      intro r10
      refine Le.callC 0 (fi := fi24) rfl (impl_EntriesOk.le O hO n0 x_6) (by subst hO; rfl) (by intro r11; conv => lhs; cbv) ?_
      intro r11
      refine Le.condN 16 2 (by subst hO; exact Bool.decide_eq_true.trans (Bool.not_not _).symm) (by conv => lhs; cbv) (by conv => lhs; cbv) ?_ ?_
      · exact Le.ret2 (by subst hO; rfl)
      · refine Le.condN 13 5 (by subst hO; exact Bool.decide_eq_true.trans (Bool.not_not _).symm) (by conv => lhs; cbv) (by conv => lhs; cbv) ?_ ?_
        · exact Le.ret2 (by subst hO; rfl)
        · refine Le.condN 7 3 (by subst hO; exact (Bool.not_not _).symm) (by conv => lhs; cbv) (by conv => lhs; cbv) ?_ ?_
          · exact Le.ret2 (by subst hO; rfl)
          · refine Le.callC 3 (fi := fi25) rfl (spec_PutEntries.le O hO n0 x_6) (by subst hO; rfl) (by intro r12; conv => lhs; cbv) ?_
            intro r12
            refine Le.condN 0 0 (by subst hO; exact (Bool.not_not _).symm) (by conv => lhs; cbv) (by conv => lhs; cbv) ?_ ?_
            · exact Le.ret2 (by subst hO; rfl)
            · refine Le.loopS (fun (n : Nat) (v : Int) => laws_FnEntries.l2 n x_6 r9 r10 v) (fun (x_14 : Int) => (⟨[], [D_, D_, D_, D_, .one (.imm 42 x_6), D_, D_, .one (.imm 5 r9), .one (.imm 42 r10.1), D_, .one (.lit (.int .i64 x_14)), D_, D_, D_, D_, D_, D_, D_, D_, D_, D_, D_, D_, D_, D_, D_, D_, D_, D_, D_, D_, D_, D_, D_, D_, D_, D_, D_, D_, D_, D_, D_, D_, D_, D_, D_, D_, D_, D_, D_, D_, D_, D_, D_, D_, D_, D_, D_, D_, D_, D_, D_, D_, D_, D_, D_, D_, D_, D_, D_, D_, D_, D_, D_, D_, D_, D_, D_, D_, D_, D_, D_, D_, D_, D_, D_, D_, D_, D_, D_, D_, D_, D_, D_, D_, D_, D_, D_, D_, D_, D_, D_, D_, D_, D_, D_, D_, D_, D_, D_, D_, D_, D_, D_, D_, D_, D_], [[], [], [], [], [], [], [], [], [], [], [], [], [], [], [], [], [], [], [], [], [], [], [], [], [], [], [], [], [], [], [], [], [], [], [], [], [], [], [], [], [], [], [], [], [], [], [], [], [], [], [], [], [], [], [], [], [], [], [], [], [], [], [], [], [], [], [], [], [], [], [], [], [], [], [], [], [], [], [], [], [], [], [], [], [], [], [], [], [], [], [], [], [], [], [], [], [], [], [], [], [], [], [], [], [], [], [], [], [], [], [], [], [], [], [], [], [], []], []⟩ : S tab)) n0 0 (by subst hO; rfl) rfl (fun _ => rfl) ?_
              intro n2 hn2 ih2 x_14
              refine Le.eqS 0 (by conv => lhs; cbv) ?_
              show Le F O M _ _ (laws_FnEntries.l2 (n2 + 1) x_6 r9 r10 x_14) _
              rw [laws_FnEntries.l2]
              refine Le.condP 0 0 (by subst hO; rfl) (by conv => lhs; cbv) (by conv => lhs; cbv) ?_ ?_
              · refine Le.guardP 0 (by subst hO; rfl) (by conv => lhs; cbv) ?_
                refine Le.guardP 0 (by subst hO; rfl) (by conv => lhs; cbv) ?_
                refine Le.guardP 0 (by subst hO; rfl) (by conv => lhs; cbv) ?_
                refine Le.guardP 0 (by subst hO; rfl) (by conv => lhs; cbv) ?_
                refine Le.condP 0 1 (by subst hO; exact seq_dec _ _) (by conv => lhs; cbv) (by conv => lhs; cbv) ?_ ?_
                · refine Le.condP 0 1 (by subst hO; rfl) (by conv => lhs; cbv) (by conv => lhs; cbv) ?_ ?_
                  · refine Le.condP 0 1 (by subst hO; rfl) (by conv => lhs; cbv) (by conv => lhs; cbv) ?_ ?_
                    · refine Le.condP 0 1 (by subst hO; rfl) (by conv => lhs; cbv) (by conv => lhs; cbv) ?_ ?_
                      · refine Le.condP 0 1 (by subst hO; rfl) (by conv => lhs; cbv) (by conv => lhs; cbv) ?_ ?_
                        · refine Le.condP 0 1 (by subst hO; exact seq_dec _ _) (by conv => lhs; cbv) (by conv => lhs; cbv) ?_ ?_
                          · refine Le.condP 1 1 (by subst hO; rfl) (by conv => lhs; cbv) (by conv => lhs; cbv) ?_ ?_
                            · exact Le.again (ih2 n2 (by omega) (O.wrap .i64 (O.add x_14 1))) (by subst hO; rfl) rfl
                            · exact Le.ret2 (by subst hO; rfl)
                          · exact Le.ret2 (by subst hO; rfl)
                        · exact Le.ret2 (by subst hO; rfl)
                      · exact Le.ret2 (by subst hO; rfl)
                    · exact Le.ret2 (by subst hO; rfl)
                  · exact Le.ret2 (by subst hO; rfl)
                · exact Le.ret2 (by subst hO; rfl)
              · refine Le.guardP 0 (by subst hO; rfl) (by conv => lhs; cbv) ?_
                refine Le.guardP 0 (by subst hO; rfl) (by conv => lhs; cbv) ?_
                refine Le.callC 0 (fi := fi14) rfl (impl_GetEntries.le O hO n2 (O.app (O.app ([] : List Int) r9) [1])) (by subst hO; rfl) (by intro r15; conv => lhs; cbv) ?_
                intro r15
                exact Le.ret2 (by subst hO; rfl)
end Go.I
