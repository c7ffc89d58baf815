/- What each function that the law reaches answers, by the interpreter. No condition. -/
import Derived.Test.YtogfddilolannaaDoorKD
set_option linter.unusedVariables false
set_option linter.unusedSimpArgs false
set_option maxRecDepth 100000
set_option maxHeartbeats 4000000
namespace Go.I
open Go
/-! ### loop.example/g00100/laws.szNode -/
def laws_szNode.e (r : Int) : Res tab := (([], []), .one (.lit (.int .i64 r)))
def laws_szNode.f (a0 : GNode) (a1 : Int) : Option Int := (if (IntKind.wrap .i64 (a1 - (a0.Path.size : Int))) < 0 then (some (-1)) else (if (IntKind.wrap .i64 ((IntKind.wrap .i64 (a1 - (a0.Path.size : Int))) - (a0.Data.size : Int))) < 0 then (some (-1)) else (if (IntKind.wrap .i64 ((IntKind.wrap .i64 ((IntKind.wrap .i64 (a1 - (a0.Path.size : Int))) - (a0.Data.size : Int))) - (a0.Target.size : Int))) < 0 then (some (-1)) else (some (IntKind.wrap .i64 ((IntKind.wrap .i64 ((IntKind.wrap .i64 (a1 - (a0.Path.size : Int))) - (a0.Data.size : Int))) - (a0.Target.size : Int)))))))
theorem laws_szNode.le (O : Prim) (hO : O = std) (a0 : GNode) (a1 : Int) : Le F O M fi8.kills laws_szNode.e (laws_szNode.f a0 a1) (den O M fi8.kills fi8.fn fi8.body (tab.gives 8) (M 8) [.agg [.lit (.string a0.Path), .lit (.int .i64 a0.Kind), .lit (.int .i64 a0.Mode), .lit (.int .i64 a0.Time), .lit (.string a0.Data), .lit (.string a0.Target), .lit (.int .i64 a0.Group)], .one (.lit (.int .i64 a1))] : Tr tab) := by
  refine Le.eqS 0 (by conv => lhs; cbv) ?_
  unfold laws_szNode.f
  refine Le.condP 0 0 (by subst hO; rfl) (by conv => lhs; cbv) (by conv => lhs; cbv) ?_ ?_
  · exact Le.ret2 (by subst hO; rfl)
  · refine Le.condP 0 0 (by subst hO; rfl) (by conv => lhs; cbv) (by conv => lhs; cbv) ?_ ?_
    · exact Le.ret2 (by subst hO; rfl)
    · refine Le.condP 0 0 (by subst hO; rfl) (by conv => lhs; cbv) (by conv => lhs; cbv) ?_ ?_
      · exact Le.ret2 (by subst hO; rfl)
      · exact Le.ret2 (by subst hO; rfl)
/-! ### loop.example/g00100/laws.toNode -/
def laws_toNode.e (r : GNode) : Res tab := (([], []), .agg [.lit (.string r.Path), .lit (.int .i64 r.Kind), .lit (.int .i64 r.Mode), .lit (.int .i64 r.Time), .lit (.string r.Data), .lit (.string r.Target), .lit (.int .i64 r.Group)])
def laws_toNode.f (a0 : GNode) : Option GNode := (some a0)
theorem laws_toNode.le (O : Prim) (hO : O = std) (a0 : GNode) : Le F O M fi10.kills laws_toNode.e (laws_toNode.f a0) (den O M fi10.kills fi10.fn fi10.body (tab.gives 10) (M 10) [.agg [.lit (.string a0.Path), .lit (.int .i64 a0.Kind), .lit (.int .i64 a0.Mode), .lit (.int .i64 a0.Time), .lit (.string a0.Data), .lit (.string a0.Target), .lit (.int .i64 a0.Group)]] : Tr tab) := by
  refine Le.eqS 0 (by conv => lhs; cbv) ?_
  unfold laws_toNode.f
  exact Le.ret2 (by subst hO; rfl)
/-! ### loop.example/g00100/spec.l02Names -/
def spec_l02Names.e (r : List ByteArray) : Res tab := (([], []), .one (.own 9 r))
def spec_l02Names.l0 : Nat → ByteArray → (List ByteArray) → Int → Int → Option (List ByteArray)
  | 0, _, _, _, _ => none
  | k + 1, a0, x_3, x_4, x_5 => (if x_5 < (a0.size : Int) then (if 0 ≤ x_5 then (if x_5 < (a0.size : Int) then (if (std.sget a0 x_5) = 47 then (if 0 ≤ x_4 then (if x_4 ≤ x_5 then (if x_5 ≤ (a0.size : Int) then (if (((x_3.length : Int) + ([(a0.extract (Int.toNat x_4) (Int.toNat x_5))].length : Int)) * 16) ≤ 140737488351232 then (spec_l02Names.l0 k a0 (x_3 ++ [(a0.extract (Int.toNat x_4) (Int.toNat x_5))]) (IntKind.wrap .i64 (x_5 + 1)) (IntKind.wrap .i64 (x_5 + 1))) else none) else none) else none) else none) else (spec_l02Names.l0 k a0 x_3 x_4 (IntKind.wrap .i64 (x_5 + 1)))) else none) else none) else (if 0 ≤ x_4 then (if x_4 ≤ (a0.size : Int) then (if (a0.size : Int) ≤ (a0.size : Int) then (if (((x_3.length : Int) + ([(a0.extract (Int.toNat x_4) (Int.toNat (a0.size : Int)))].length : Int)) * 16) ≤ 140737488351232 then (some (x_3 ++ [(a0.extract (Int.toNat x_4) (Int.toNat (a0.size : Int)))])) else none) else none) else none) else none))
def spec_l02Names.f (k : Nat) (a0 : ByteArray) : Option (List ByteArray) := (spec_l02Names.l0 k a0 ([] : List ByteArray) 0 0)
theorem spec_l02Names.le (O : Prim) (hO : O = std) (k : Nat) (a0 : ByteArray) : Le F O M fi101.kills spec_l02Names.e (spec_l02Names.f k a0) (den O M fi101.kills fi101.fn fi101.body (tab.gives 101) (M 101) [.one (.lit (.string a0))] : Tr tab) := by
  refine Le.eqS 0 (by conv => lhs; cbv) ?_
  unfold spec_l02Names.f
  refine Le.loopS (fun (n : Nat) (v : List ByteArray × Int × Int) => spec_l02Names.l0 n a0 v.1 v.2.1 v.2.2) (fun (v : List ByteArray × Int × Int) => match v with | (x_3, x_4, x_5) => (⟨[], [.one (.lit (.string a0)), D_, D_, .one (.own 9 x_3), .one (.lit (.int .i64 x_4)), .one (.lit (.int .i64 x_5)), D_, D_, D_, D_, D_, D_, D_, D_, D_, D_, D_, D_, D_, D_, D_, D_, D_, D_, D_, D_, D_, D_, D_, D_, D_, D_], [[], [], [], [], [], [], [], [], [], [], [], [], [], [], [], [], [], [], [], [], [], [], [], [], [], [], [], [], [], [], [], [], []], []⟩ : S tab)) k (([] : List ByteArray), 0, 0) (by subst hO; rfl) rfl (fun _ => rfl) ?_
  intro n0 hn0 ih0 v0
  obtain ⟨x_3, x_4, x_5⟩ := v0
  refine Le.eqS 0 (by conv => lhs; cbv) ?_
  show Le F O M _ _ (spec_l02Names.l0 (n0 + 1) a0 x_3 x_4 x_5) _
  rw [spec_l02Names.l0]
  refine Le.condP 0 0 (by subst hO; rfl) (by conv => lhs; cbv) (by conv => lhs; cbv) ?_ ?_
  · refine Le.guardP 0 (by subst hO; rfl) (by conv => lhs; cbv) ?_
    refine Le.guardP 0 (by subst hO; rfl) (by conv => lhs; cbv) ?_
    refine Le.condP 0 0 (by subst hO; rfl) (by conv => lhs; cbv) (by conv => lhs; cbv) ?_ ?_
    · refine Le.guardP 0 (by subst hO; rfl) (by conv => lhs; cbv) ?_
      refine Le.guardP 0 (by subst hO; rfl) (by conv => lhs; cbv) ?_
      refine Le.guardP 0 (by subst hO; rfl) (by conv => lhs; cbv) ?_
      refine Le.guardP 0 (by subst hO; rfl) (by conv => lhs; cbv) ?_
      exact Le.again (ih0 n0 (by omega) ((O.app x_3 [(O.sext a0 x_4 x_5)]), (O.wrap .i64 (O.add x_5 1)), (O.wrap .i64 (O.add x_5 1)))) (by subst hO; rfl) rfl
    · exact Le.again (ih0 n0 (by omega) (x_3, x_4, (O.wrap .i64 (O.add x_5 1)))) (by subst hO; rfl) rfl
  · refine Le.guardP 0 (by subst hO; rfl) (by conv => lhs; cbv) ?_
    refine Le.guardP 0 (by subst hO; rfl) (by conv => lhs; cbv) ?_
    refine Le.guardP 0 (by subst hO; rfl) (by conv => lhs; cbv) ?_
    refine Le.guardP 0 (by subst hO; rfl) (by conv => lhs; cbv) ?_
    exact Le.ret2 (by subst hO; rfl)
/-! ### loop.example/g00100/spec.l01In -/
def spec_l01In.e (r : Bool) : Res tab := (([], []), .one (.lit (.bool r)))
def spec_l01In.f (a0 : Int) (a1 : Int) (a2 : Int) : Option Bool := (if a1 ≤ a0 then (some (decide (a0 ≤ a2))) else (some false))
theorem spec_l01In.le (O : Prim) (hO : O = std) (a0 : Int) (a1 : Int) (a2 : Int) : Le F O M fi67.kills spec_l01In.e (spec_l01In.f a0 a1 a2) (den O M fi67.kills fi67.fn fi67.body (tab.gives 67) (M 67) [.one (.lit (.int .i64 a0)), .one (.lit (.int .i64 a1)), .one (.lit (.int .i64 a2))] : Tr tab) := by
  refine Le.eqS 0 (by conv => lhs; cbv) ?_
  unfold spec_l01In.f
  refine Le.condP 3 3 (by subst hO; rfl) (by conv => lhs; cbv) (by conv => lhs; cbv) ?_ ?_
  · exact Le.ret2 (by subst hO; rfl)
  · exact Le.ret2 (by subst hO; rfl)
/-! ### loop.example/g00100/spec.NameOk -/
def spec_NameOk.e (r : Bool) : Res tab := (([], []), .one (.lit (.bool r)))
def spec_NameOk.l0 : Nat → ByteArray → Int → Option Bool
  | 0, _, _ => none
  | k + 1, a0, x_8 => (if x_8 < (a0.size : Int) then (if 0 ≤ x_8 then (if x_8 < (a0.size : Int) then ((spec_l01In.f (IntKind.wrap .i64 (std.sget a0 x_8)) 97 122).bind fun r9 => (if r9 = true then (spec_NameOk.l0 k a0 (IntKind.wrap .i64 (x_8 + 1))) else ((spec_l01In.f (IntKind.wrap .i64 (std.sget a0 x_8)) 65 90).bind fun r10 => (if r10 = true then (spec_NameOk.l0 k a0 (IntKind.wrap .i64 (x_8 + 1))) else ((spec_l01In.f (IntKind.wrap .i64 (std.sget a0 x_8)) 48 57).bind fun r11 => (if r11 = true then (spec_NameOk.l0 k a0 (IntKind.wrap .i64 (x_8 + 1))) else (if 0 ≤ x_8 then (if x_8 < (a0.size : Int) then (if (std.sget a0 x_8) = 46 then (spec_NameOk.l0 k a0 (IntKind.wrap .i64 (x_8 + 1))) else (if 0 ≤ x_8 then (if x_8 < (a0.size : Int) then (if (std.sget a0 x_8) = 95 then (spec_NameOk.l0 k a0 (IntKind.wrap .i64 (x_8 + 1))) else (if 0 ≤ x_8 then (if x_8 < (a0.size : Int) then (if (std.sget a0 x_8) = 45 then (spec_NameOk.l0 k a0 (IntKind.wrap .i64 (x_8 + 1))) else (some false)) else none) else none)) else none) else none)) else none) else none))))))) else none) else none) else (some true))
def spec_NameOk.f (k : Nat) (a0 : ByteArray) : Option Bool := ((spec_l01In.f (a0.size : Int) 1 20).bind fun r0 => (if r0 = true then (if a0 = (⟨#[46]⟩ : ByteArray) then (some false) else (if a0 = (⟨#[46, 46]⟩ : ByteArray) then (some false) else (spec_NameOk.l0 k a0 0))) else (some false)))
theorem spec_NameOk.le (O : Prim) (hO : O = std) (k : Nat) (a0 : ByteArray) : Le F O M fi102.kills spec_NameOk.e (spec_NameOk.f k a0) (den O M fi102.kills fi102.fn fi102.body (tab.gives 102) (M 102) [.one (.lit (.string a0))] : Tr tab) := by
  refine Le.eqS 0 (by conv => lhs; cbv) ?_
  unfold spec_NameOk.f
  refine Le.callC 0 (fi := fi67) rfl (spec_l01In.le O hO (O.ssize a0) 1 20) (by subst hO; rfl) (by intro r0; conv => lhs; cbv) ?_
  intro r0
  refine Le.condN 6 2 (by subst hO; exact Bool.decide_eq_true.trans (Bool.not_not _).symm) (by conv => lhs; cbv) (by conv => lhs; cbv) ?_ ?_
  · exact Le.ret2 (by subst hO; rfl)
  · refine Le.condP 3 2 (by subst hO; exact seq_dec _ _) (by conv => lhs; cbv) (by conv => lhs; cbv) ?_ ?_
    · exact Le.ret2 (by subst hO; rfl)
    · refine Le.condP 0 0 (by subst hO; exact seq_dec _ _) (by conv => lhs; cbv) (by conv => lhs; cbv) ?_ ?_
      · exact Le.ret2 (by subst hO; rfl)
      · refine Le.loopS (fun (n : Nat) (v : Int) => spec_NameOk.l0 n a0 v) (fun (x_8 : Int) => (⟨[], [.one (.lit (.string a0)), D_, D_, .one (.lit (.int .i64 x_8)), D_, D_, D_, D_, D_, D_, D_, D_, D_, D_, D_, D_, D_, D_, D_, D_, D_, D_, D_, D_, D_, D_, D_, D_, D_, D_, D_, D_, D_, D_, D_, D_, D_, D_, D_, D_, D_, D_, D_, D_, D_, D_, D_, D_, D_, D_, D_, D_, D_, D_, D_, D_, D_, D_], [[], [], [], [], [], [], [], [], [], [], [], [], [], [], [], [], [], [], [], [], [], [], [], [], [], [], [], [], [], [], [], [], [], [], [], [], [], [], [], [], [], [], [], [], [], [], [], [], [], [], [], [], [], [], [], [], [], [], []], []⟩ : S tab)) k 0 (by subst hO; rfl) rfl (fun _ => rfl) ?_
        intro n0 hn0 ih0 x_8
        refine Le.eqS 0 (by conv => lhs; cbv) ?_
        show Le F O M _ _ (spec_NameOk.l0 (n0 + 1) a0 x_8) _
        rw [spec_NameOk.l0]
        refine Le.condP 0 0 (by subst hO; rfl) (by conv => lhs; cbv) (by conv => lhs; cbv) ?_ ?_
        · refine Le.guardP 0 (by subst hO; rfl) (by conv => lhs; cbv) ?_
          refine Le.guardP 0 (by subst hO; rfl) (by conv => lhs; cbv) ?_
          refine Le.callC 0 (fi := fi67) rfl (spec_l01In.le O hO (O.wrap .i64 (O.sget a0 x_8)) 97 122) (by subst hO; rfl) (by intro r9; conv => lhs; cbv) ?_
          intro r9
          refine Le.condN 1 23 (by subst hO; exact Bool.decide_eq_true.trans (Bool.not_not _).symm) (by conv => lhs; cbv) (by conv => lhs; cbv) ?_ ?_
          · refine Le.callC 2 (fi := fi67) rfl (spec_l01In.le O hO (O.wrap .i64 (O.sget a0 x_8)) 65 90) (by subst hO; rfl) (by intro r10; conv => lhs; cbv) ?_
            intro r10
            refine Le.condN 1 19 (by subst hO; exact Bool.decide_eq_true.trans (Bool.not_not _).symm) (by conv => lhs; cbv) (by conv => lhs; cbv) ?_ ?_
            · refine Le.callC 2 (fi := fi67) rfl (spec_l01In.le O hO (O.wrap .i64 (O.sget a0 x_8)) 48 57) (by subst hO; rfl) (by intro r11; conv => lhs; cbv) ?_
              intro r11
              refine Le.condN 2 15 (by subst hO; exact Bool.decide_eq_true.trans (Bool.not_not _).symm) (by conv => lhs; cbv) (by conv => lhs; cbv) ?_ ?_
              · refine Le.guardP 0 (by subst hO; rfl) (by conv => lhs; cbv) ?_
                refine Le.guardP 2 (by subst hO; rfl) (by conv => lhs; cbv) ?_
                refine Le.condN 2 10 (by subst hO; exact (Bool.not_not _).symm) (by conv => lhs; cbv) (by conv => lhs; cbv) ?_ ?_
                · refine Le.guardP 0 (by subst hO; rfl) (by conv => lhs; cbv) ?_
                  refine Le.guardP 2 (by subst hO; rfl) (by conv => lhs; cbv) ?_
                  refine Le.condN 2 5 (by subst hO; exact (Bool.not_not _).symm) (by conv => lhs; cbv) (by conv => lhs; cbv) ?_ ?_
                  · refine Le.guardP 0 (by subst hO; rfl) (by conv => lhs; cbv) ?_
                    refine Le.guardP 2 (by subst hO; rfl) (by conv => lhs; cbv) ?_
                    refine Le.condN 0 0 (by subst hO; exact (Bool.not_not _).symm) (by conv => lhs; cbv) (by conv => lhs; cbv) ?_ ?_
                    · exact Le.ret2 (by subst hO; rfl)
                    · exact Le.again (ih0 n0 (by omega) (O.wrap .i64 (O.add x_8 1))) (by subst hO; rfl) rfl
                  · exact Le.again (ih0 n0 (by omega) (O.wrap .i64 (O.add x_8 1))) (by subst hO; rfl) rfl
                · exact Le.again (ih0 n0 (by omega) (O.wrap .i64 (O.add x_8 1))) (by subst hO; rfl) rfl
              · exact Le.again (ih0 n0 (by omega) (O.wrap .i64 (O.add x_8 1))) (by subst hO; rfl) rfl
            · exact Le.again (ih0 n0 (by omega) (O.wrap .i64 (O.add x_8 1))) (by subst hO; rfl) rfl
          · exact Le.again (ih0 n0 (by omega) (O.wrap .i64 (O.add x_8 1))) (by subst hO; rfl) rfl
        · exact Le.ret2 (by subst hO; rfl)
/-! ### loop.example/g00100/spec.PathOk -/
def spec_PathOk.e (r : Bool) : Res tab := (([], []), .one (.lit (.bool r)))
def spec_PathOk.l0 : Nat → (List ByteArray) → Int → Option Bool
  | 0, _, _ => none
  | k + 1, r0, x_4 => (if x_4 < (r0.length : Int) then (if 0 ≤ x_4 then (if x_4 < (r0.length : Int) then ((spec_NameOk.f k (r0.getD (Int.toNat x_4) (⟨#[]⟩ : ByteArray))).bind fun r5 => (if r5 = true then (spec_PathOk.l0 k r0 (IntKind.wrap .i64 (x_4 + 1))) else (some false))) else none) else none) else (some (decide ((r0.length : Int) ≤ 8))))
def spec_PathOk.f (k : Nat) (a0 : ByteArray) : Option Bool := (if 200 < (a0.size : Int) then (some false) else ((spec_l02Names.f k a0).bind fun r0 => (spec_PathOk.l0 k r0 0)))
theorem spec_PathOk.le (O : Prim) (hO : O = std) (k : Nat) (a0 : ByteArray) : Le F O M fi66.kills spec_PathOk.e (spec_PathOk.f k a0) (den O M fi66.kills fi66.fn fi66.body (tab.gives 66) (M 66) [.one (.lit (.string a0))] : Tr tab) := by
  refine Le.eqS 0 (by conv => lhs; cbv) ?_
  unfold spec_PathOk.f
  refine Le.condP 0 0 (by subst hO; rfl) (by conv => lhs; cbv) (by conv => lhs; cbv) ?_ ?_
  · exact Le.ret2 (by subst hO; rfl)
  · refine Le.callC 0 (fi := fi101) rfl (spec_l02Names.le O hO k a0) (by subst hO; rfl) (by intro r0; conv => lhs; cbv) ?_
    intro r0
    refine Le.loopS (fun (n : Nat) (v : Int) => spec_PathOk.l0 n r0 v) (fun (x_4 : Int) => (⟨[], [D_, D_, D_, .one (.own 9 r0), .one (.lit (.int .i64 x_4)), D_, D_, D_, D_, D_, D_, D_, D_, D_, D_, D_, D_, D_, D_, D_, D_, D_, D_, D_, D_], [[], [], [], [], [], [], [], [], [], [], [], [], [], [], [], [], [], [], [], [], [], [], [], [], [], []], []⟩ : S tab)) k 0 (by subst hO; rfl) rfl (fun _ => rfl) ?_
    intro n0 hn0 ih0 x_4
    refine Le.eqS 0 (by conv => lhs; cbv) ?_
    show Le F O M _ _ (spec_PathOk.l0 (n0 + 1) r0 x_4) _
    rw [spec_PathOk.l0]
    refine Le.condP 0 0 (by subst hO; rfl) (by conv => lhs; cbv) (by conv => lhs; cbv) ?_ ?_
    · refine Le.guardP 0 (by subst hO; rfl) (by conv => lhs; cbv) ?_
      refine Le.guardP 0 (by subst hO; rfl) (by conv => lhs; cbv) ?_
      refine Le.callC 0 (fi := fi102) rfl (spec_NameOk.le O hO n0 (O.get (⟨#[]⟩ : ByteArray) r0 x_4)) (by subst hO; rfl) (by intro r5; conv => lhs; cbv) ?_
      intro r5
      refine Le.condN 0 0 (by subst hO; exact Bool.decide_eq_true.trans (Bool.not_not _).symm) (by conv => lhs; cbv) (by conv => lhs; cbv) ?_ ?_
      · exact Le.ret2 (by subst hO; rfl)
      · exact Le.again (ih0 n0 (by omega) (O.wrap .i64 (O.add x_4 1))) (by subst hO; rfl) rfl
    · exact Le.ret2 (by subst hO; rfl)
/-! ### loop.example/g00100/spec.NodeOk -/
def spec_NodeOk.e (r : Bool) : Res tab := (([], []), .one (.lit (.bool r)))
def spec_NodeOk.l1 : Nat → GNode → Int → Option Bool
  | 0, _, _ => none
  | k + 1, a0, x_6 => (if x_6 < (a0.Target.size : Int) then (if 0 ≤ x_6 then (if x_6 < (a0.Target.size : Int) then (if (std.sget a0.Target x_6) = 10 then (some false) else (spec_NodeOk.l1 k a0 (IntKind.wrap .i64 (x_6 + 1)))) else none) else none) else (some true))
def spec_NodeOk.f (k : Nat) (a0 : GNode) : Option Bool := ((spec_PathOk.f k a0.Path).bind fun r0 => (if r0 = true then ((spec_l01In.f a0.Mode 0 511).bind fun r1 => (if r1 = true then ((spec_l01In.f a0.Time 0 1000000000).bind fun r2 => (if r2 = true then (if a0.Kind = 0 then (if a0.Data = (⟨#[]⟩ : ByteArray) then (if a0.Target = (⟨#[]⟩ : ByteArray) then (some (decide (a0.Group = 0))) else (some false)) else (some false)) else (if a0.Kind = 1 then (if (a0.Data.size : Int) ≤ 20000 then (if a0.Target = (⟨#[]⟩ : ByteArray) then ((spec_l01In.f a0.Group 0 200).bind fun r3 => (some r3)) else (some false)) else (some false)) else (if a0.Kind = 2 then (if a0.Data = (⟨#[]⟩ : ByteArray) then (if a0.Mode = 0 then (if a0.Group = 0 then ((spec_l01In.f (a0.Target.size : Int) 1 60).bind fun r4 => (if r4 = true then (spec_NodeOk.l1 k a0 0) else (some false))) else (some false)) else (some false)) else (some false)) else (some false)))) else (some false))) else (some false))) else (some false)))
theorem spec_NodeOk.le (O : Prim) (hO : O = std) (k : Nat) (a0 : GNode) : Le F O M fi34.kills spec_NodeOk.e (spec_NodeOk.f k a0) (den O M fi34.kills fi34.fn fi34.body (tab.gives 34) (M 34) [.agg [.lit (.string a0.Path), .lit (.int .i64 a0.Kind), .lit (.int .i64 a0.Mode), .lit (.int .i64 a0.Time), .lit (.string a0.Data), .lit (.string a0.Target), .lit (.int .i64 a0.Group)]] : Tr tab) := by
  refine Le.eqS 0 (by conv => lhs; cbv) ?_
  unfold spec_NodeOk.f
  refine Le.callC 0 (fi := fi66) rfl (spec_PathOk.le O hO k a0.Path) (by subst hO; rfl) (by intro r0; conv => lhs; cbv) ?_
  intro r0
  refine Le.condN 10 2 (by subst hO; exact Bool.decide_eq_true.trans (Bool.not_not _).symm) (by conv => lhs; cbv) (by conv => lhs; cbv) ?_ ?_
  · exact Le.ret2 (by subst hO; rfl)
  · refine Le.callC 2 (fi := fi67) rfl (spec_l01In.le O hO a0.Mode 0 511) (by subst hO; rfl) (by intro r1; conv => lhs; cbv) ?_
    intro r1
    refine Le.condN 5 2 (by subst hO; exact Bool.decide_eq_true.trans (Bool.not_not _).symm) (by conv => lhs; cbv) (by conv => lhs; cbv) ?_ ?_
    · exact Le.ret2 (by subst hO; rfl)
    · refine Le.callC 2 (fi := fi67) rfl (spec_l01In.le O hO a0.Time 0 1000000000) (by subst hO; rfl) (by intro r2; conv => lhs; cbv) ?_
      intro r2
      refine Le.condN 0 0 (by subst hO; exact Bool.decide_eq_true.trans (Bool.not_not _).symm) (by conv => lhs; cbv) (by conv => lhs; cbv) ?_ ?_
      · exact Le.ret2 (by subst hO; rfl)
      · refine Le.condP 0 0 (by subst hO; rfl) (by conv => lhs; cbv) (by conv => lhs; cbv) ?_ ?_
        · refine Le.condP 3 7 (by subst hO; exact seq_dec _ _) (by conv => lhs; cbv) (by conv => lhs; cbv) ?_ ?_
          · refine Le.condP 3 3 (by subst hO; exact seq_dec _ _) (by conv => lhs; cbv) (by conv => lhs; cbv) ?_ ?_
            · exact Le.ret2 (by subst hO; rfl)
            · exact Le.ret2 (by subst hO; rfl)
          · exact Le.ret2 (by subst hO; rfl)
        · refine Le.condP 0 0 (by subst hO; rfl) (by conv => lhs; cbv) (by conv => lhs; cbv) ?_ ?_
          · refine Le.condP 3 7 (by subst hO; rfl) (by conv => lhs; cbv) (by conv => lhs; cbv) ?_ ?_
            · refine Le.condP 2 3 (by subst hO; exact seq_dec _ _) (by conv => lhs; cbv) (by conv => lhs; cbv) ?_ ?_
              · refine Le.callC 1 (fi := fi67) rfl (spec_l01In.le O hO a0.Group 0 200) (by subst hO; rfl) (by intro r3; conv => lhs; cbv) ?_
                intro r3
                exact Le.ret2 (by subst hO; rfl)
              · exact Le.ret2 (by subst hO; rfl)
            · exact Le.ret2 (by subst hO; rfl)
          · refine Le.condP 0 0 (by subst hO; rfl) (by conv => lhs; cbv) (by conv => lhs; cbv) ?_ ?_
            · refine Le.condN 14 3 (by subst hO; exact (seq_dec _ _).trans (Bool.not_not _).symm) (by conv => lhs; cbv) (by conv => lhs; cbv) ?_ ?_
              · exact Le.ret2 (by subst hO; rfl)
              · refine Le.condN 10 3 (by subst hO; exact (Bool.not_not _).symm) (by conv => lhs; cbv) (by conv => lhs; cbv) ?_ ?_
                · exact Le.ret2 (by subst hO; rfl)
                · refine Le.condN 6 3 (by subst hO; exact (Bool.not_not _).symm) (by conv => lhs; cbv) (by conv => lhs; cbv) ?_ ?_
                  · exact Le.ret2 (by subst hO; rfl)
                  · refine Le.callC 2 (fi := fi67) rfl (spec_l01In.le O hO (O.ssize a0.Target) 1 60) (by subst hO; rfl) (by intro r4; conv => lhs; cbv) ?_
                    intro r4
                    refine Le.condN 0 0 (by subst hO; exact Bool.decide_eq_true.trans (Bool.not_not _).symm) (by conv => lhs; cbv) (by conv => lhs; cbv) ?_ ?_
                    · exact Le.ret2 (by subst hO; rfl)
                    · refine Le.loopS (fun (n : Nat) (v : Int) => spec_NodeOk.l1 n a0 v) (fun (x_6 : Int) => (⟨[], [D_, .one (.ptr ⟨5, 0, []⟩), D_, .one (.lit (.int .i64 x_6)), D_, D_, D_, D_, D_, D_, D_, D_, D_, D_, D_, D_, D_, D_, D_, D_, D_, D_, D_, D_, D_, D_, D_, D_, D_, D_, D_, D_, D_, D_, D_, D_, D_, D_, D_, D_, D_, D_, D_, D_, D_, D_, D_, D_, D_, D_, D_, D_, D_, D_, D_, D_, D_, D_, D_, D_, D_, D_, D_, D_, D_, D_, D_, D_, D_, D_, D_, D_, D_, D_, D_, D_, D_, D_, D_, D_, D_, D_, D_, D_, D_, D_, D_], [[], [.lit (.string a0.Path), .lit (.int .i64 a0.Kind), .lit (.int .i64 a0.Mode), .lit (.int .i64 a0.Time), .lit (.string a0.Data), .lit (.string a0.Target), .lit (.int .i64 a0.Group)], [], [], [], [], [], [], [], [], [], [], [], [], [], [], [], [], [], [], [], [], [], [], [], [], [], [], [], [], [], [], [], [], [], [], [], [], [], [], [], [], [], [], [], [], [], [], [], [], [], [], [], [], [], [], [], [], [], [], [], [], [], [], [], [], [], [], [], [], [], [], [], [], [], [], [], [], [], [], [], [], [], [], [], [], [], []], []⟩ : S tab)) k 0 (by subst hO; rfl) rfl (fun _ => rfl) ?_
                      intro n1 hn1 ih1 x_6
                      refine Le.eqS 0 (by conv => lhs; cbv) ?_
                      show Le F O M _ _ (spec_NodeOk.l1 (n1 + 1) a0 x_6) _
                      rw [spec_NodeOk.l1]
                      refine Le.condP 0 0 (by subst hO; rfl) (by conv => lhs; cbv) (by conv => lhs; cbv) ?_ ?_
                      · refine Le.guardP 0 (by subst hO; rfl) (by conv => lhs; cbv) ?_
                        refine Le.guardP 0 (by subst hO; rfl) (by conv => lhs; cbv) ?_
                        refine Le.condP 0 0 (by subst hO; rfl) (by conv => lhs; cbv) (by conv => lhs; cbv) ?_ ?_
                        · exact Le.ret2 (by subst hO; rfl)
                        · exact Le.again (ih1 n1 (by omega) (O.wrap .i64 (O.add x_6 1))) (by subst hO; rfl) rfl
                      · exact Le.ret2 (by subst hO; rfl)
            · exact Le.ret2 (by subst hO; rfl)
/-! ### loop.example/g00100/spec.DecText -/
def spec_DecText.e (r : ByteArray) : Res tab := (([], []), .one (.lit (.string r)))
def spec_DecText.l0 : Nat → Int → ByteArray → Int → Option ByteArray
  | 0, _, _, _ => none
  | k + 1, a0, x_2, x_3 => (if x_3 = 0 then (if a0 < 0 then (if (((⟨#[45]⟩ : ByteArray).size : Int) + (x_2.size : Int)) ≤ 140737488351232 then (some ((⟨#[45]⟩ : ByteArray) ++ x_2)) else none) else (some x_2)) else (if 10 = 0 then none else (if (Int.tmod x_3 10) < 0 then (if 0 ≤ (IntKind.wrap .i64 (0 - (Int.tmod x_3 10))) then (if (IntKind.wrap .i64 (0 - (Int.tmod x_3 10))) ≤ (IntKind.wrap .i64 ((IntKind.wrap .i64 (0 - (Int.tmod x_3 10))) + 1)) then (if (IntKind.wrap .i64 ((IntKind.wrap .i64 (0 - (Int.tmod x_3 10))) + 1)) ≤ ((⟨#[48, 49, 50, 51, 52, 53, 54, 55, 56, 57]⟩ : ByteArray).size : Int) then (if ((((⟨#[48, 49, 50, 51, 52, 53, 54, 55, 56, 57]⟩ : ByteArray).extract (Int.toNat (IntKind.wrap .i64 (0 - (Int.tmod x_3 10)))) (Int.toNat (IntKind.wrap .i64 ((IntKind.wrap .i64 (0 - (Int.tmod x_3 10))) + 1)))).size : Int) + (x_2.size : Int)) ≤ 140737488351232 then (if 10 = 0 then none else (spec_DecText.l0 k a0 (((⟨#[48, 49, 50, 51, 52, 53, 54, 55, 56, 57]⟩ : ByteArray).extract (Int.toNat (IntKind.wrap .i64 (0 - (Int.tmod x_3 10)))) (Int.toNat (IntKind.wrap .i64 ((IntKind.wrap .i64 (0 - (Int.tmod x_3 10))) + 1)))) ++ x_2) (IntKind.wrap .i64 (Int.tdiv x_3 10)))) else none) else none) else none) else none) else (if 0 ≤ (Int.tmod x_3 10) then (if (Int.tmod x_3 10) ≤ (IntKind.wrap .i64 ((Int.tmod x_3 10) + 1)) then (if (IntKind.wrap .i64 ((Int.tmod x_3 10) + 1)) ≤ ((⟨#[48, 49, 50, 51, 52, 53, 54, 55, 56, 57]⟩ : ByteArray).size : Int) then (if ((((⟨#[48, 49, 50, 51, 52, 53, 54, 55, 56, 57]⟩ : ByteArray).extract (Int.toNat (Int.tmod x_3 10)) (Int.toNat (IntKind.wrap .i64 ((Int.tmod x_3 10) + 1)))).size : Int) + (x_2.size : Int)) ≤ 140737488351232 then (if 10 = 0 then none else (spec_DecText.l0 k a0 (((⟨#[48, 49, 50, 51, 52, 53, 54, 55, 56, 57]⟩ : ByteArray).extract (Int.toNat (Int.tmod x_3 10)) (Int.toNat (IntKind.wrap .i64 ((Int.tmod x_3 10) + 1)))) ++ x_2) (IntKind.wrap .i64 (Int.tdiv x_3 10)))) else none) else none) else none) else none))))
def spec_DecText.f (k : Nat) (a0 : Int) : Option ByteArray := (if a0 = 0 then (some (⟨#[48]⟩ : ByteArray)) else (spec_DecText.l0 k a0 (⟨#[]⟩ : ByteArray) a0))
theorem spec_DecText.le (O : Prim) (hO : O = std) (k : Nat) (a0 : Int) : Le F O M fi35.kills spec_DecText.e (spec_DecText.f k a0) (den O M fi35.kills fi35.fn fi35.body (tab.gives 35) (M 35) [.one (.lit (.int .i64 a0))] : Tr tab) := by
  refine Le.eqS 0 (by conv => lhs; cbv) ?_
  unfold spec_DecText.f
  refine Le.condP 0 0 (by subst hO; rfl) (by conv => lhs; cbv) (by conv => lhs; cbv) ?_ ?_
  · exact Le.ret2 (by subst hO; rfl)
  · refine Le.loopS (fun (n : Nat) (v : ByteArray × Int) => spec_DecText.l0 n a0 v.1 v.2) (fun (v : ByteArray × Int) => match v with | (x_2, x_3) => (⟨[], [.one (.lit (.int .i64 a0)), D_, D_, .one (.lit (.string x_2)), .one (.lit (.int .i64 x_3)), D_, D_, D_, D_, D_, D_, D_, D_, D_, D_, D_, D_, D_, D_, D_, D_, D_, D_, D_, D_, D_, D_, D_, D_, D_], [[], [], [], [], [], [], [], [], [], [], [], [], [], [], [], [], [], [], [], [], [], [], [], [], [], [], [], [], [], [], []], []⟩ : S tab)) k ((⟨#[]⟩ : ByteArray), a0) (by subst hO; rfl) rfl (fun _ => rfl) ?_
    intro n0 hn0 ih0 v0
    obtain ⟨x_2, x_3⟩ := v0
    refine Le.eqS 0 (by conv => lhs; cbv) ?_
    show Le F O M _ _ (spec_DecText.l0 (n0 + 1) a0 x_2 x_3) _
    rw [spec_DecText.l0]
    refine Le.condN 0 0 (by subst hO; exact (Bool.not_not _).symm) (by conv => lhs; cbv) (by conv => lhs; cbv) ?_ ?_
    · refine Le.guardN 0 (by subst hO; rfl) (by conv => lhs; cbv) ?_
      refine Le.condP 0 0 (by subst hO; rfl) (by conv => lhs; cbv) (by conv => lhs; cbv) ?_ ?_
      · refine Le.guardP 0 (by subst hO; rfl) (by conv => lhs; cbv) ?_
        refine Le.guardP 0 (by subst hO; rfl) (by conv => lhs; cbv) ?_
        refine Le.guardP 0 (by subst hO; rfl) (by conv => lhs; cbv) ?_
        refine Le.guardP 0 (by subst hO; rfl) (by conv => lhs; cbv) ?_
        refine Le.guardN 0 (by subst hO; rfl) (by conv => lhs; cbv) ?_
        exact Le.again (ih0 n0 (by omega) ((O.scat (O.sext (⟨#[48, 49, 50, 51, 52, 53, 54, 55, 56, 57]⟩ : ByteArray) (O.wrap .i64 (O.sub 0 (O.rem x_3 10))) (O.wrap .i64 (O.add (O.wrap .i64 (O.sub 0 (O.rem x_3 10))) 1))) x_2), (O.wrap .i64 (O.quo x_3 10)))) (by subst hO; rfl) rfl
      · refine Le.guardP 0 (by subst hO; rfl) (by conv => lhs; cbv) ?_
        refine Le.guardP 0 (by subst hO; rfl) (by conv => lhs; cbv) ?_
        refine Le.guardP 0 (by subst hO; rfl) (by conv => lhs; cbv) ?_
        refine Le.guardP 0 (by subst hO; rfl) (by conv => lhs; cbv) ?_
        refine Le.guardN 0 (by subst hO; rfl) (by conv => lhs; cbv) ?_
        exact Le.again (ih0 n0 (by omega) ((O.scat (O.sext (⟨#[48, 49, 50, 51, 52, 53, 54, 55, 56, 57]⟩ : ByteArray) (O.rem x_3 10) (O.wrap .i64 (O.add (O.rem x_3 10) 1))) x_2), (O.wrap .i64 (O.quo x_3 10)))) (by subst hO; rfl) rfl
    · refine Le.condP 0 0 (by subst hO; rfl) (by conv => lhs; cbv) (by conv => lhs; cbv) ?_ ?_
      · refine Le.guardP 0 (by subst hO; rfl) (by conv => lhs; cbv) ?_
        exact Le.ret2 (by subst hO; rfl)
      · exact Le.ret2 (by subst hO; rfl)
/-! ### loop.example/g00100/spec.HexText -/
def spec_HexText.e (r : ByteArray) : Res tab := (([], []), .one (.lit (.string r)))
def spec_HexText.l0 : Nat → (List Int) → (List Int) → Int → Option ByteArray
  | 0, _, _, _ => none
  | k + 1, a0, x_2, x_3 => (if x_3 < (a0.length : Int) then (if 0 ≤ x_3 then (if x_3 < (a0.length : Int) then (if 16 = 0 then none else (if 0 ≤ (IntKind.wrap .u8 (Int.tdiv (a0.getD (Int.toNat x_3) 0) 16)) then (if (IntKind.wrap .u8 (Int.tdiv (a0.getD (Int.toNat x_3) 0) 16)) < ((⟨#[48, 49, 50, 51, 52, 53, 54, 55, 56, 57, 97, 98, 99, 100, 101, 102]⟩ : ByteArray).size : Int) then (if 0 ≤ x_3 then (if x_3 < (a0.length : Int) then (if 16 = 0 then none else (if 0 ≤ (Int.tmod (a0.getD (Int.toNat x_3) 0) 16) then (if (Int.tmod (a0.getD (Int.toNat x_3) 0) 16) < ((⟨#[48, 49, 50, 51, 52, 53, 54, 55, 56, 57, 97, 98, 99, 100, 101, 102]⟩ : ByteArray).size : Int) then (if (((x_2.length : Int) + ([(std.sget (⟨#[48, 49, 50, 51, 52, 53, 54, 55, 56, 57, 97, 98, 99, 100, 101, 102]⟩ : ByteArray) (IntKind.wrap .u8 (Int.tdiv (a0.getD (Int.toNat x_3) 0) 16))), (std.sget (⟨#[48, 49, 50, 51, 52, 53, 54, 55, 56, 57, 97, 98, 99, 100, 101, 102]⟩ : ByteArray) (Int.tmod (a0.getD (Int.toNat x_3) 0) 16))].length : Int)) * 1) ≤ 140737488351232 then (spec_HexText.l0 k a0 (x_2 ++ [(std.sget (⟨#[48, 49, 50, 51, 52, 53, 54, 55, 56, 57, 97, 98, 99, 100, 101, 102]⟩ : ByteArray) (IntKind.wrap .u8 (Int.tdiv (a0.getD (Int.toNat x_3) 0) 16))), (std.sget (⟨#[48, 49, 50, 51, 52, 53, 54, 55, 56, 57, 97, 98, 99, 100, 101, 102]⟩ : ByteArray) (Int.tmod (a0.getD (Int.toNat x_3) 0) 16))]) (IntKind.wrap .i64 (x_3 + 1))) else none) else none) else none)) else none) else none) else none) else none)) else none) else none) else (some (std.strOf x_2)))
def spec_HexText.f (k : Nat) (a0 : List Int) : Option ByteArray := (if 20000 < (a0.length : Int) then (some (⟨#[]⟩ : ByteArray)) else (spec_HexText.l0 k a0 ([] : List Int) 0))
theorem spec_HexText.le (O : Prim) (hO : O = std) (k : Nat) (a0 : List Int) : Le F O M fi68.kills spec_HexText.e (spec_HexText.f k a0) (den O M fi68.kills fi68.fn fi68.body (tab.gives 68) (M 68) [.one (.imm 5 a0)] : Tr tab) := by
  refine Le.eqS 0 (by conv => lhs; cbv) ?_
  unfold spec_HexText.f
  refine Le.condP 0 0 (by subst hO; rfl) (by conv => lhs; cbv) (by conv => lhs; cbv) ?_ ?_
  · exact Le.ret2 (by subst hO; rfl)
  · refine Le.loopS (fun (n : Nat) (v : List Int × Int) => spec_HexText.l0 n a0 v.1 v.2) (fun (v : List Int × Int) => match v with | (x_2, x_3) => (⟨[], [.one (.imm 5 a0), D_, D_, .one (.own 5 x_2), .one (.lit (.int .i64 x_3)), D_, D_, D_, D_, D_, D_, D_, D_, D_, D_, D_, D_, D_, D_, D_, D_, D_, D_, D_, D_, D_, D_, D_, D_, D_, D_, D_], [[], [], [], [], [], [], [], [], [], [], [], [], [], [], [], [], [], [], [], [], [], [], [], [], [], [], [], [], [], [], [], [], []], []⟩ : S tab)) k (([] : List Int), 0) (by subst hO; rfl) rfl (fun _ => rfl) ?_
    intro n0 hn0 ih0 v0
    obtain ⟨x_2, x_3⟩ := v0
    refine Le.eqS 0 (by conv => lhs; cbv) ?_
    show Le F O M _ _ (spec_HexText.l0 (n0 + 1) a0 x_2 x_3) _
    rw [spec_HexText.l0]
    refine Le.condP 0 0 (by subst hO; rfl) (by conv => lhs; cbv) (by conv => lhs; cbv) ?_ ?_
    · refine Le.guardP 0 (by subst hO; rfl) (by conv => lhs; cbv) ?_
      refine Le.guardP 0 (by subst hO; rfl) (by conv => lhs; cbv) ?_
      refine Le.guardN 0 (by subst hO; rfl) (by conv => lhs; cbv) ?_
      refine Le.guardP 0 (by subst hO; rfl) (by conv => lhs; cbv) ?_
      refine Le.guardP 0 (by subst hO; rfl) (by conv => lhs; cbv) ?_
      refine Le.guardP 0 (by subst hO; rfl) (by conv => lhs; cbv) ?_
      refine Le.guardP 0 (by subst hO; rfl) (by conv => lhs; cbv) ?_
      refine Le.guardN 0 (by subst hO; rfl) (by conv => lhs; cbv) ?_
      refine Le.guardP 0 (by subst hO; rfl) (by conv => lhs; cbv) ?_
      refine Le.guardP 0 (by subst hO; rfl) (by conv => lhs; cbv) ?_
      refine Le.guardP 0 (by subst hO; rfl) (by conv => lhs; cbv) ?_
      exact Le.again (ih0 n0 (by omega) ((O.app x_2 [(O.sget (⟨#[48, 49, 50, 51, 52, 53, 54, 55, 56, 57, 97, 98, 99, 100, 101, 102]⟩ : ByteArray) (O.wrap .u8 (O.quo (O.get 0 a0 x_3) 16))), (O.sget (⟨#[48, 49, 50, 51, 52, 53, 54, 55, 56, 57, 97, 98, 99, 100, 101, 102]⟩ : ByteArray) (O.rem (O.get 0 a0 x_3) 16))]), (O.wrap .i64 (O.add x_3 1)))) (by subst hO; rfl) rfl
    · exact Le.ret2 (by subst hO; rfl)
/-! ### loop.example/g00100/spec.l20Hex -/
def spec_l20Hex.e (r : ByteArray) : Res tab := (([], []), .one (.lit (.string r)))
def spec_l20Hex.f (k : Nat) (a0 : ByteArray) : Option ByteArray := (if a0 = (⟨#[]⟩ : ByteArray) then (some (⟨#[45]⟩ : ByteArray)) else (if (a0.size : Int) ≤ 140737488351232 then ((spec_HexText.f k (std.bytesOf a0)).bind fun r0 => (some r0)) else none))
theorem spec_l20Hex.le (O : Prim) (hO : O = std) (k : Nat) (a0 : ByteArray) : Le F O M fi36.kills spec_l20Hex.e (spec_l20Hex.f k a0) (den O M fi36.kills fi36.fn fi36.body (tab.gives 36) (M 36) [.one (.lit (.string a0))] : Tr tab) := by
  refine Le.eqS 0 (by conv => lhs; cbv) ?_
  unfold spec_l20Hex.f
  refine Le.condP 0 0 (by subst hO; exact seq_dec _ _) (by conv => lhs; cbv) (by conv => lhs; cbv) ?_ ?_
  · exact Le.ret2 (by subst hO; rfl)
  · refine Le.guardP 0 (by subst hO; rfl) (by conv => lhs; cbv) ?_
    refine Le.callC 0 (fi := fi68) rfl (spec_HexText.le O hO k (O.bytesOf a0)) (by subst hO; rfl) (by intro r0; conv => lhs; cbv) ?_
    intro r0
    exact Le.ret2 (by subst hO; rfl)
/-! ### loop.example/g00100/spec.ShowNode -/
def spec_ShowNode.e (r : ByteArray) : Res tab := (([], []), .one (.lit (.string r)))
def spec_ShowNode.f (k : Nat) (a0 : GNode) : Option ByteArray := ((spec_NodeOk.f k a0).bind fun r0 => (if r0 = true then (if a0.Kind = 0 then (if (((⟨#[100, 32]⟩ : ByteArray).size : Int) + (a0.Path.size : Int)) ≤ 140737488351232 then (if ((((⟨#[100, 32]⟩ : ByteArray) ++ a0.Path).size : Int) + ((⟨#[32]⟩ : ByteArray).size : Int)) ≤ 140737488351232 then ((spec_DecText.f k a0.Mode).bind fun r1 => (if (((((⟨#[100, 32]⟩ : ByteArray) ++ a0.Path) ++ (⟨#[32]⟩ : ByteArray)).size : Int) + (r1.size : Int)) ≤ 140737488351232 then (if ((((((⟨#[100, 32]⟩ : ByteArray) ++ a0.Path) ++ (⟨#[32]⟩ : ByteArray)) ++ r1).size : Int) + ((⟨#[32]⟩ : ByteArray).size : Int)) ≤ 140737488351232 then ((spec_DecText.f k a0.Time).bind fun r2 => (if (((((((⟨#[100, 32]⟩ : ByteArray) ++ a0.Path) ++ (⟨#[32]⟩ : ByteArray)) ++ r1) ++ (⟨#[32]⟩ : ByteArray)).size : Int) + (r2.size : Int)) ≤ 140737488351232 then (some ((((((⟨#[100, 32]⟩ : ByteArray) ++ a0.Path) ++ (⟨#[32]⟩ : ByteArray)) ++ r1) ++ (⟨#[32]⟩ : ByteArray)) ++ r2)) else none)) else none) else none)) else none) else none) else (if a0.Kind = 1 then (if (((⟨#[102, 32]⟩ : ByteArray).size : Int) + (a0.Path.size : Int)) ≤ 140737488351232 then (if ((((⟨#[102, 32]⟩ : ByteArray) ++ a0.Path).size : Int) + ((⟨#[32]⟩ : ByteArray).size : Int)) ≤ 140737488351232 then ((spec_DecText.f k a0.Mode).bind fun r3 => (if (((((⟨#[102, 32]⟩ : ByteArray) ++ a0.Path) ++ (⟨#[32]⟩ : ByteArray)).size : Int) + (r3.size : Int)) ≤ 140737488351232 then (if ((((((⟨#[102, 32]⟩ : ByteArray) ++ a0.Path) ++ (⟨#[32]⟩ : ByteArray)) ++ r3).size : Int) + ((⟨#[32]⟩ : ByteArray).size : Int)) ≤ 140737488351232 then ((spec_DecText.f k a0.Time).bind fun r4 => (if (((((((⟨#[102, 32]⟩ : ByteArray) ++ a0.Path) ++ (⟨#[32]⟩ : ByteArray)) ++ r3) ++ (⟨#[32]⟩ : ByteArray)).size : Int) + (r4.size : Int)) ≤ 140737488351232 then (if ((((((((⟨#[102, 32]⟩ : ByteArray) ++ a0.Path) ++ (⟨#[32]⟩ : ByteArray)) ++ r3) ++ (⟨#[32]⟩ : ByteArray)) ++ r4).size : Int) + ((⟨#[32]⟩ : ByteArray).size : Int)) ≤ 140737488351232 then ((spec_DecText.f k a0.Group).bind fun r5 => (if (((((((((⟨#[102, 32]⟩ : ByteArray) ++ a0.Path) ++ (⟨#[32]⟩ : ByteArray)) ++ r3) ++ (⟨#[32]⟩ : ByteArray)) ++ r4) ++ (⟨#[32]⟩ : ByteArray)).size : Int) + (r5.size : Int)) ≤ 140737488351232 then (if ((((((((((⟨#[102, 32]⟩ : ByteArray) ++ a0.Path) ++ (⟨#[32]⟩ : ByteArray)) ++ r3) ++ (⟨#[32]⟩ : ByteArray)) ++ r4) ++ (⟨#[32]⟩ : ByteArray)) ++ r5).size : Int) + ((⟨#[32]⟩ : ByteArray).size : Int)) ≤ 140737488351232 then ((spec_l20Hex.f k a0.Data).bind fun r6 => (if (((((((((((⟨#[102, 32]⟩ : ByteArray) ++ a0.Path) ++ (⟨#[32]⟩ : ByteArray)) ++ r3) ++ (⟨#[32]⟩ : ByteArray)) ++ r4) ++ (⟨#[32]⟩ : ByteArray)) ++ r5) ++ (⟨#[32]⟩ : ByteArray)).size : Int) + (r6.size : Int)) ≤ 140737488351232 then (some ((((((((((⟨#[102, 32]⟩ : ByteArray) ++ a0.Path) ++ (⟨#[32]⟩ : ByteArray)) ++ r3) ++ (⟨#[32]⟩ : ByteArray)) ++ r4) ++ (⟨#[32]⟩ : ByteArray)) ++ r5) ++ (⟨#[32]⟩ : ByteArray)) ++ r6)) else none)) else none) else none)) else none) else none)) else none) else none)) else none) else none) else (if (((⟨#[108, 32]⟩ : ByteArray).size : Int) + (a0.Path.size : Int)) ≤ 140737488351232 then (if ((((⟨#[108, 32]⟩ : ByteArray) ++ a0.Path).size : Int) + ((⟨#[32]⟩ : ByteArray).size : Int)) ≤ 140737488351232 then ((spec_DecText.f k a0.Time).bind fun r7 => (if (((((⟨#[108, 32]⟩ : ByteArray) ++ a0.Path) ++ (⟨#[32]⟩ : ByteArray)).size : Int) + (r7.size : Int)) ≤ 140737488351232 then (if ((((((⟨#[108, 32]⟩ : ByteArray) ++ a0.Path) ++ (⟨#[32]⟩ : ByteArray)) ++ r7).size : Int) + ((⟨#[32]⟩ : ByteArray).size : Int)) ≤ 140737488351232 then ((spec_l20Hex.f k a0.Target).bind fun r8 => (if (((((((⟨#[108, 32]⟩ : ByteArray) ++ a0.Path) ++ (⟨#[32]⟩ : ByteArray)) ++ r7) ++ (⟨#[32]⟩ : ByteArray)).size : Int) + (r8.size : Int)) ≤ 140737488351232 then (some ((((((⟨#[108, 32]⟩ : ByteArray) ++ a0.Path) ++ (⟨#[32]⟩ : ByteArray)) ++ r7) ++ (⟨#[32]⟩ : ByteArray)) ++ r8)) else none)) else none) else none)) else none) else none))) else (some (⟨#[]⟩ : ByteArray))))
theorem spec_ShowNode.le (O : Prim) (hO : O = std) (k : Nat) (a0 : GNode) : Le F O M fi9.kills spec_ShowNode.e (spec_ShowNode.f k a0) (den O M fi9.kills fi9.fn fi9.body (tab.gives 9) (M 9) [.agg [.lit (.string a0.Path), .lit (.int .i64 a0.Kind), .lit (.int .i64 a0.Mode), .lit (.int .i64 a0.Time), .lit (.string a0.Data), .lit (.string a0.Target), .lit (.int .i64 a0.Group)]] : Tr tab) := by
  refine Le.eqS 0 (by conv => lhs; cbv) ?_
  unfold spec_ShowNode.f
  refine Le.callC 0 (fi := fi34) rfl (spec_NodeOk.le O hO k a0) (by subst hO; rfl) (by intro r0; conv => lhs; cbv) ?_
  intro r0
  refine Le.condN 0 0 (by subst hO; exact Bool.decide_eq_true.trans (Bool.not_not _).symm) (by conv => lhs; cbv) (by conv => lhs; cbv) ?_ ?_
  · exact Le.ret2 (by subst hO; rfl)
  · refine Le.condP 0 0 (by subst hO; rfl) (by conv => lhs; cbv) (by conv => lhs; cbv) ?_ ?_
    · refine Le.guardP 0 (by subst hO; rfl) (by conv => lhs; cbv) ?_
      refine Le.guardP 0 (by subst hO; rfl) (by conv => lhs; cbv) ?_
      refine Le.callC 0 (fi := fi35) rfl (spec_DecText.le O hO k a0.Mode) (by subst hO; rfl) (by intro r1; conv => lhs; cbv) ?_
      intro r1
      refine Le.guardP 0 (by subst hO; rfl) (by conv => lhs; cbv) ?_
      refine Le.guardP 0 (by subst hO; rfl) (by conv => lhs; cbv) ?_
      refine Le.callC 0 (fi := fi35) rfl (spec_DecText.le O hO k a0.Time) (by subst hO; rfl) (by intro r2; conv => lhs; cbv) ?_
      intro r2
      refine Le.guardP 0 (by subst hO; rfl) (by conv => lhs; cbv) ?_
      exact Le.ret2 (by subst hO; rfl)
    · refine Le.condP 0 0 (by subst hO; rfl) (by conv => lhs; cbv) (by conv => lhs; cbv) ?_ ?_
      · refine Le.guardP 0 (by subst hO; rfl) (by conv => lhs; cbv) ?_
        refine Le.guardP 0 (by subst hO; rfl) (by conv => lhs; cbv) ?_
        refine Le.callC 0 (fi := fi35) rfl (spec_DecText.le O hO k a0.Mode) (by subst hO; rfl) (by intro r3; conv => lhs; cbv) ?_
        intro r3
        refine Le.guardP 0 (by subst hO; rfl) (by conv => lhs; cbv) ?_
        refine Le.guardP 0 (by subst hO; rfl) (by conv => lhs; cbv) ?_
        refine Le.callC 0 (fi := fi35) rfl (spec_DecText.le O hO k a0.Time) (by subst hO; rfl) (by intro r4; conv => lhs; cbv) ?_
        intro r4
        refine Le.guardP 0 (by subst hO; rfl) (by conv => lhs; cbv) ?_
        refine Le.guardP 0 (by subst hO; rfl) (by conv => lhs; cbv) ?_
        refine Le.callC 0 (fi := fi35) rfl (spec_DecText.le O hO k a0.Group) (by subst hO; rfl) (by intro r5; conv => lhs; cbv) ?_
        intro r5
        refine Le.guardP 0 (by subst hO; rfl) (by conv => lhs; cbv) ?_
        refine Le.guardP 0 (by subst hO; rfl) (by conv => lhs; cbv) ?_
        refine Le.callC 0 (fi := fi36) rfl (spec_l20Hex.le O hO k a0.Data) (by subst hO; rfl) (by intro r6; conv => lhs; cbv) ?_
        intro r6
        refine Le.guardP 0 (by subst hO; rfl) (by conv => lhs; cbv) ?_
        exact Le.ret2 (by subst hO; rfl)
      · refine Le.guardP 0 (by subst hO; rfl) (by conv => lhs; cbv) ?_
        refine Le.guardP 0 (by subst hO; rfl) (by conv => lhs; cbv) ?_
        refine Le.callC 0 (fi := fi35) rfl (spec_DecText.le O hO k a0.Time) (by subst hO; rfl) (by intro r7; conv => lhs; cbv) ?_
        intro r7
        refine Le.guardP 0 (by subst hO; rfl) (by conv => lhs; cbv) ?_
        refine Le.guardP 0 (by subst hO; rfl) (by conv => lhs; cbv) ?_
        refine Le.callC 0 (fi := fi36) rfl (spec_l20Hex.le O hO k a0.Target) (by subst hO; rfl) (by intro r8; conv => lhs; cbv) ?_
        intro r8
        refine Le.guardP 0 (by subst hO; rfl) (by conv => lhs; cbv) ?_
        exact Le.ret2 (by subst hO; rfl)
/-! ### loop.example/g00100/impl.within -/
def impl_within.e (r : Bool) : Res tab := (([], []), .one (.lit (.bool r)))
def impl_within.f (a0 : Int) (a1 : Int) (a2 : Int) : Option Bool := (if a1 ≤ a0 then (some (decide (a0 ≤ a2))) else (some false))
theorem impl_within.le (O : Prim) (hO : O = std) (a0 : Int) (a1 : Int) (a2 : Int) : Le F O M fi70.kills impl_within.e (impl_within.f a0 a1 a2) (den O M fi70.kills fi70.fn fi70.body (tab.gives 70) (M 70) [.one (.lit (.int .i64 a0)), .one (.lit (.int .i64 a1)), .one (.lit (.int .i64 a2))] : Tr tab) := by
  refine Le.eqS 0 (by conv => lhs; cbv) ?_
  unfold impl_within.f
  refine Le.condP 3 3 (by subst hO; rfl) (by conv => lhs; cbv) (by conv => lhs; cbv) ?_ ?_
  · exact Le.ret2 (by subst hO; rfl)
  · exact Le.ret2 (by subst hO; rfl)
/-! ### loop.example/g00100/impl.NameOk -/
def impl_NameOk.e (r : Bool) : Res tab := (([], []), .one (.lit (.bool r)))
def impl_NameOk.l0 : Nat → ByteArray → Int → Option Bool
  | 0, _, _ => none
  | k + 1, a0, x_1 => (if x_1 < (a0.size : Int) then (if 0 ≤ x_1 then (if x_1 < (a0.size : Int) then (if 97 ≤ (std.sget a0 x_1) then (if (std.sget a0 x_1) ≤ 122 then (if true = true then (impl_NameOk.l0 k a0 (IntKind.wrap .i64 (x_1 + 1))) else (some false)) else (if 65 ≤ (std.sget a0 x_1) then (if (std.sget a0 x_1) ≤ 90 then (if true = true then (impl_NameOk.l0 k a0 (IntKind.wrap .i64 (x_1 + 1))) else (some false)) else (if 48 ≤ (std.sget a0 x_1) then (if (std.sget a0 x_1) ≤ 57 then (if true = true then (impl_NameOk.l0 k a0 (IntKind.wrap .i64 (x_1 + 1))) else (some false)) else (if (std.sget a0 x_1) = 46 then (if true = true then (impl_NameOk.l0 k a0 (IntKind.wrap .i64 (x_1 + 1))) else (some false)) else (if (std.sget a0 x_1) = 95 then (if true = true then (impl_NameOk.l0 k a0 (IntKind.wrap .i64 (x_1 + 1))) else (some false)) else (if (std.sget a0 x_1) = 45 then (impl_NameOk.l0 k a0 (IntKind.wrap .i64 (x_1 + 1))) else (some false))))) else (if (std.sget a0 x_1) = 46 then (if true = true then (impl_NameOk.l0 k a0 (IntKind.wrap .i64 (x_1 + 1))) else (some false)) else (if (std.sget a0 x_1) = 95 then (if true = true then (impl_NameOk.l0 k a0 (IntKind.wrap .i64 (x_1 + 1))) else (some false)) else (if (std.sget a0 x_1) = 45 then (impl_NameOk.l0 k a0 (IntKind.wrap .i64 (x_1 + 1))) else (some false)))))) else (if 48 ≤ (std.sget a0 x_1) then (if (std.sget a0 x_1) ≤ 57 then (if true = true then (impl_NameOk.l0 k a0 (IntKind.wrap .i64 (x_1 + 1))) else (some false)) else (if (std.sget a0 x_1) = 46 then (if true = true then (impl_NameOk.l0 k a0 (IntKind.wrap .i64 (x_1 + 1))) else (some false)) else (if (std.sget a0 x_1) = 95 then (if true = true then (impl_NameOk.l0 k a0 (IntKind.wrap .i64 (x_1 + 1))) else (some false)) else (if (std.sget a0 x_1) = 45 then (impl_NameOk.l0 k a0 (IntKind.wrap .i64 (x_1 + 1))) else (some false))))) else (if (std.sget a0 x_1) = 46 then (if true = true then (impl_NameOk.l0 k a0 (IntKind.wrap .i64 (x_1 + 1))) else (some false)) else (if (std.sget a0 x_1) = 95 then (if true = true then (impl_NameOk.l0 k a0 (IntKind.wrap .i64 (x_1 + 1))) else (some false)) else (if (std.sget a0 x_1) = 45 then (impl_NameOk.l0 k a0 (IntKind.wrap .i64 (x_1 + 1))) else (some false))))))) else (if 65 ≤ (std.sget a0 x_1) then (if (std.sget a0 x_1) ≤ 90 then (if true = true then (impl_NameOk.l0 k a0 (IntKind.wrap .i64 (x_1 + 1))) else (some false)) else (if 48 ≤ (std.sget a0 x_1) then (if (std.sget a0 x_1) ≤ 57 then (if true = true then (impl_NameOk.l0 k a0 (IntKind.wrap .i64 (x_1 + 1))) else (some false)) else (if (std.sget a0 x_1) = 46 then (if true = true then (impl_NameOk.l0 k a0 (IntKind.wrap .i64 (x_1 + 1))) else (some false)) else (if (std.sget a0 x_1) = 95 then (if true = true then (impl_NameOk.l0 k a0 (IntKind.wrap .i64 (x_1 + 1))) else (some false)) else (if (std.sget a0 x_1) = 45 then (impl_NameOk.l0 k a0 (IntKind.wrap .i64 (x_1 + 1))) else (some false))))) else (if (std.sget a0 x_1) = 46 then (if true = true then (impl_NameOk.l0 k a0 (IntKind.wrap .i64 (x_1 + 1))) else (some false)) else (if (std.sget a0 x_1) = 95 then (if true = true then (impl_NameOk.l0 k a0 (IntKind.wrap .i64 (x_1 + 1))) else (some false)) else (if (std.sget a0 x_1) = 45 then (impl_NameOk.l0 k a0 (IntKind.wrap .i64 (x_1 + 1))) else (some false)))))) else (if 48 ≤ (std.sget a0 x_1) then (if (std.sget a0 x_1) ≤ 57 then (if true = true then (impl_NameOk.l0 k a0 (IntKind.wrap .i64 (x_1 + 1))) else (some false)) else (if (std.sget a0 x_1) = 46 then (if true = true then (impl_NameOk.l0 k a0 (IntKind.wrap .i64 (x_1 + 1))) else (some false)) else (if (std.sget a0 x_1) = 95 then (if true = true then (impl_NameOk.l0 k a0 (IntKind.wrap .i64 (x_1 + 1))) else (some false)) else (if (std.sget a0 x_1) = 45 then (impl_NameOk.l0 k a0 (IntKind.wrap .i64 (x_1 + 1))) else (some false))))) else (if (std.sget a0 x_1) = 46 then (if true = true then (impl_NameOk.l0 k a0 (IntKind.wrap .i64 (x_1 + 1))) else (some false)) else (if (std.sget a0 x_1) = 95 then (if true = true then (impl_NameOk.l0 k a0 (IntKind.wrap .i64 (x_1 + 1))) else (some false)) else (if (std.sget a0 x_1) = 45 then (impl_NameOk.l0 k a0 (IntKind.wrap .i64 (x_1 + 1))) else (some false))))))) else none) else none) else ((impl_within.f (a0.size : Int) 1 20).bind fun r2 => (if r2 = true then (if a0 = (⟨#[46]⟩ : ByteArray) then (some false) else (some (!(std.seq a0 (⟨#[46, 46]⟩ : ByteArray))))) else (some false))))
def impl_NameOk.f (k : Nat) (a0 : ByteArray) : Option Bool := (impl_NameOk.l0 k a0 0)
theorem impl_NameOk.le (O : Prim) (hO : O = std) (k : Nat) (a0 : ByteArray) : Le F O M fi122.kills impl_NameOk.e (impl_NameOk.f k a0) (den O M fi122.kills fi122.fn fi122.body (tab.gives 122) (M 122) [.one (.lit (.string a0))] : Tr tab) := by
  refine Le.eqS 0 (by conv => lhs; cbv) ?_
  unfold impl_NameOk.f
  refine Le.loopS (fun (n : Nat) (v : Int) => impl_NameOk.l0 n a0 v) (fun (x_1 : Int) => (⟨[], [.one (.lit (.string a0)), D_, D_, D_, D_, D_, .one (.lit (.int .i64 (O.ssize a0))), .one (.lit (.int .i64 x_1)), D_, D_, D_, D_, D_, D_, D_, D_, D_, D_, D_, D_, D_, D_, D_, D_, D_, D_, D_, D_, D_, D_, D_, D_, D_, D_, D_, D_, D_, D_, D_, D_, D_, D_, D_, D_, D_, D_, D_, D_, D_, D_, D_, D_, D_, D_, D_, D_, D_, D_, D_, D_], [[], [], [], [], [], [], [], [], [], [], [], [], [], [], [], [], [], [], [], [], [], [], [], [], [], [], [], [], [], [], [], [], [], [], [], [], [], [], [], [], [], [], [], [], [], [], [], [], [], [], [], [], [], [], [], [], [], [], [], [], []], []⟩ : S tab)) k 0 (by subst hO; rfl) rfl (fun _ => rfl) ?_
  intro n0 hn0 ih0 x_1
  refine Le.eqS 0 (by conv => lhs; cbv) ?_
  show Le F O M _ _ (impl_NameOk.l0 (n0 + 1) a0 x_1) _
  rw [impl_NameOk.l0]
  refine Le.condP 0 0 (by subst hO; rfl) (by conv => lhs; cbv) (by conv => lhs; cbv) ?_ ?_
  · refine Le.guardP 0 (by subst hO; rfl) (by conv => lhs; cbv) ?_
    refine Le.guardP 0 (by subst hO; rfl) (by conv => lhs; cbv) ?_
    refine Le.condP 2 5 (by subst hO; rfl) (by conv => lhs; cbv) (by conv => lhs; cbv) ?_ ?_
    · refine Le.condP 18 2 (by subst hO; rfl) (by conv => lhs; cbv) (by conv => lhs; cbv) ?_ ?_
      · refine Le.condN 0 0 (by subst hO; exact Bool.decide_eq_true.trans (Bool.not_not _).symm) (by conv => lhs; cbv) (by conv => lhs; cbv) ?_ ?_
        · exact Le.ret2 (by subst hO; rfl)
        · exact Le.again (ih0 n0 (by omega) (O.wrap .i64 (O.add x_1 1))) (by subst hO; rfl) rfl
      · refine Le.condP 4 7 (by subst hO; rfl) (by conv => lhs; cbv) (by conv => lhs; cbv) ?_ ?_
        · refine Le.condP 13 2 (by subst hO; rfl) (by conv => lhs; cbv) (by conv => lhs; cbv) ?_ ?_
          · refine Le.condN 0 0 (by subst hO; exact Bool.decide_eq_true.trans (Bool.not_not _).symm) (by conv => lhs; cbv) (by conv => lhs; cbv) ?_ ?_
            · exact Le.ret2 (by subst hO; rfl)
            · exact Le.again (ih0 n0 (by omega) (O.wrap .i64 (O.add x_1 1))) (by subst hO; rfl) rfl
          · refine Le.condP 4 7 (by subst hO; rfl) (by conv => lhs; cbv) (by conv => lhs; cbv) ?_ ?_
            · refine Le.condP 8 2 (by subst hO; rfl) (by conv => lhs; cbv) (by conv => lhs; cbv) ?_ ?_
              · refine Le.condN 0 0 (by subst hO; exact Bool.decide_eq_true.trans (Bool.not_not _).symm) (by conv => lhs; cbv) (by conv => lhs; cbv) ?_ ?_
                · exact Le.ret2 (by subst hO; rfl)
                · exact Le.again (ih0 n0 (by omega) (O.wrap .i64 (O.add x_1 1))) (by subst hO; rfl) rfl
              · refine Le.condP 5 2 (by subst hO; rfl) (by conv => lhs; cbv) (by conv => lhs; cbv) ?_ ?_
                · refine Le.condN 0 0 (by subst hO; exact Bool.decide_eq_true.trans (Bool.not_not _).symm) (by conv => lhs; cbv) (by conv => lhs; cbv) ?_ ?_
                  · exact Le.ret2 (by subst hO; rfl)
                  · exact Le.again (ih0 n0 (by omega) (O.wrap .i64 (O.add x_1 1))) (by subst hO; rfl) rfl
                · refine Le.condP 2 2 (by subst hO; rfl) (by conv => lhs; cbv) (by conv => lhs; cbv) ?_ ?_
                  · refine Le.condN 0 0 (by subst hO; exact Bool.decide_eq_true.trans (Bool.not_not _).symm) (by conv => lhs; cbv) (by conv => lhs; cbv) ?_ ?_
                    · exact Le.ret2 (by subst hO; rfl)
                    · exact Le.again (ih0 n0 (by omega) (O.wrap .i64 (O.add x_1 1))) (by subst hO; rfl) rfl
                  · refine Le.condN 0 0 (by subst hO; exact (Bool.not_not _).symm) (by conv => lhs; cbv) (by conv => lhs; cbv) ?_ ?_
                    · exact Le.ret2 (by subst hO; rfl)
                    · exact Le.again (ih0 n0 (by omega) (O.wrap .i64 (O.add x_1 1))) (by subst hO; rfl) rfl
            · refine Le.condP 5 2 (by subst hO; rfl) (by conv => lhs; cbv) (by conv => lhs; cbv) ?_ ?_
              · refine Le.condN 0 0 (by subst hO; exact Bool.decide_eq_true.trans (Bool.not_not _).symm) (by conv => lhs; cbv) (by conv => lhs; cbv) ?_ ?_
                · exact Le.ret2 (by subst hO; rfl)
                · exact Le.again (ih0 n0 (by omega) (O.wrap .i64 (O.add x_1 1))) (by subst hO; rfl) rfl
              · refine Le.condP 2 2 (by subst hO; rfl) (by conv => lhs; cbv) (by conv => lhs; cbv) ?_ ?_
                · refine Le.condN 0 0 (by subst hO; exact Bool.decide_eq_true.trans (Bool.not_not _).symm) (by conv => lhs; cbv) (by conv => lhs; cbv) ?_ ?_
                  · exact Le.ret2 (by subst hO; rfl)
                  · exact Le.again (ih0 n0 (by omega) (O.wrap .i64 (O.add x_1 1))) (by subst hO; rfl) rfl
                · refine Le.condN 0 0 (by subst hO; exact (Bool.not_not _).symm) (by conv => lhs; cbv) (by conv => lhs; cbv) ?_ ?_
                  · exact Le.ret2 (by subst hO; rfl)
                  · exact Le.again (ih0 n0 (by omega) (O.wrap .i64 (O.add x_1 1))) (by subst hO; rfl) rfl
        · refine Le.condP 4 7 (by subst hO; rfl) (by conv => lhs; cbv) (by conv => lhs; cbv) ?_ ?_
          · refine Le.condP 8 2 (by subst hO; rfl) (by conv => lhs; cbv) (by conv => lhs; cbv) ?_ ?_
            · refine Le.condN 0 0 (by subst hO; exact Bool.decide_eq_true.trans (Bool.not_not _).symm) (by conv => lhs; cbv) (by conv => lhs; cbv) ?_ ?_
              · exact Le.ret2 (by subst hO; rfl)
              · exact Le.again (ih0 n0 (by omega) (O.wrap .i64 (O.add x_1 1))) (by subst hO; rfl) rfl
            · refine Le.condP 5 2 (by subst hO; rfl) (by conv => lhs; cbv) (by conv => lhs; cbv) ?_ ?_
              · refine Le.condN 0 0 (by subst hO; exact Bool.decide_eq_true.trans (Bool.not_not _).symm) (by conv => lhs; cbv) (by conv => lhs; cbv) ?_ ?_
                · exact Le.ret2 (by subst hO; rfl)
                · exact Le.again (ih0 n0 (by omega) (O.wrap .i64 (O.add x_1 1))) (by subst hO; rfl) rfl
              · refine Le.condP 2 2 (by subst hO; rfl) (by conv => lhs; cbv) (by conv => lhs; cbv) ?_ ?_
                · refine Le.condN 0 0 (by subst hO; exact Bool.decide_eq_true.trans (Bool.not_not _).symm) (by conv => lhs; cbv) (by conv => lhs; cbv) ?_ ?_
                  · exact Le.ret2 (by subst hO; rfl)
                  · exact Le.again (ih0 n0 (by omega) (O.wrap .i64 (O.add x_1 1))) (by subst hO; rfl) rfl
                · refine Le.condN 0 0 (by subst hO; exact (Bool.not_not _).symm) (by conv => lhs; cbv) (by conv => lhs; cbv) ?_ ?_
                  · exact Le.ret2 (by subst hO; rfl)
                  · exact Le.again (ih0 n0 (by omega) (O.wrap .i64 (O.add x_1 1))) (by subst hO; rfl) rfl
          · refine Le.condP 5 2 (by subst hO; rfl) (by conv => lhs; cbv) (by conv => lhs; cbv) ?_ ?_
            · refine Le.condN 0 0 (by subst hO; exact Bool.decide_eq_true.trans (Bool.not_not _).symm) (by conv => lhs; cbv) (by conv => lhs; cbv) ?_ ?_
              · exact Le.ret2 (by subst hO; rfl)
              · exact Le.again (ih0 n0 (by omega) (O.wrap .i64 (O.add x_1 1))) (by subst hO; rfl) rfl
            · refine Le.condP 2 2 (by subst hO; rfl) (by conv => lhs; cbv) (by conv => lhs; cbv) ?_ ?_
              · refine Le.condN 0 0 (by subst hO; exact Bool.decide_eq_true.trans (Bool.not_not _).symm) (by conv => lhs; cbv) (by conv => lhs; cbv) ?_ ?_
                · exact Le.ret2 (by subst hO; rfl)
                · exact Le.again (ih0 n0 (by omega) (O.wrap .i64 (O.add x_1 1))) (by subst hO; rfl) rfl
              · refine Le.condN 0 0 (by subst hO; exact (Bool.not_not _).symm) (by conv => lhs; cbv) (by conv => lhs; cbv) ?_ ?_
                · exact Le.ret2 (by subst hO; rfl)
                · exact Le.again (ih0 n0 (by omega) (O.wrap .i64 (O.add x_1 1))) (by subst hO; rfl) rfl
    · refine Le.condP 4 7 (by subst hO; rfl) (by conv => lhs; cbv) (by conv => lhs; cbv) ?_ ?_
      · refine Le.condP 13 2 (by subst hO; rfl) (by conv => lhs; cbv) (by conv => lhs; cbv) ?_ ?_
        · refine Le.condN 0 0 (by subst hO; exact Bool.decide_eq_true.trans (Bool.not_not _).symm) (by conv => lhs; cbv) (by conv => lhs; cbv) ?_ ?_
          · exact Le.ret2 (by subst hO; rfl)
          · exact Le.again (ih0 n0 (by omega) (O.wrap .i64 (O.add x_1 1))) (by subst hO; rfl) rfl
        · refine Le.condP 4 7 (by subst hO; rfl) (by conv => lhs; cbv) (by conv => lhs; cbv) ?_ ?_
          · refine Le.condP 8 2 (by subst hO; rfl) (by conv => lhs; cbv) (by conv => lhs; cbv) ?_ ?_
            · refine Le.condN 0 0 (by subst hO; exact Bool.decide_eq_true.trans (Bool.not_not _).symm) (by conv => lhs; cbv) (by conv => lhs; cbv) ?_ ?_
              · exact Le.ret2 (by subst hO; rfl)
              · exact Le.again (ih0 n0 (by omega) (O.wrap .i64 (O.add x_1 1))) (by subst hO; rfl) rfl
            · refine Le.condP 5 2 (by subst hO; rfl) (by conv => lhs; cbv) (by conv => lhs; cbv) ?_ ?_
              · refine Le.condN 0 0 (by subst hO; exact Bool.decide_eq_true.trans (Bool.not_not _).symm) (by conv => lhs; cbv) (by conv => lhs; cbv) ?_ ?_
                · exact Le.ret2 (by subst hO; rfl)
                · exact Le.again (ih0 n0 (by omega) (O.wrap .i64 (O.add x_1 1))) (by subst hO; rfl) rfl
              · refine Le.condP 2 2 (by subst hO; rfl) (by conv => lhs; cbv) (by conv => lhs; cbv) ?_ ?_
                · refine Le.condN 0 0 (by subst hO; exact Bool.decide_eq_true.trans (Bool.not_not _).symm) (by conv => lhs; cbv) (by conv => lhs; cbv) ?_ ?_
                  · exact Le.ret2 (by subst hO; rfl)
                  · exact Le.again (ih0 n0 (by omega) (O.wrap .i64 (O.add x_1 1))) (by subst hO; rfl) rfl
                · refine Le.condN 0 0 (by subst hO; exact (Bool.not_not _).symm) (by conv => lhs; cbv) (by conv => lhs; cbv) ?_ ?_
                  · exact Le.ret2 (by subst hO; rfl)
                  · exact Le.again (ih0 n0 (by omega) (O.wrap .i64 (O.add x_1 1))) (by subst hO; rfl) rfl
          · refine Le.condP 5 2 (by subst hO; rfl) (by conv => lhs; cbv) (by conv => lhs; cbv) ?_ ?_
            · refine Le.condN 0 0 (by subst hO; exact Bool.decide_eq_true.trans (Bool.not_not _).symm) (by conv => lhs; cbv) (by conv => lhs; cbv) ?_ ?_
              · exact Le.ret2 (by subst hO; rfl)
              · exact Le.again (ih0 n0 (by omega) (O.wrap .i64 (O.add x_1 1))) (by subst hO; rfl) rfl
            · refine Le.condP 2 2 (by subst hO; rfl) (by conv => lhs; cbv) (by conv => lhs; cbv) ?_ ?_
              · refine Le.condN 0 0 (by subst hO; exact Bool.decide_eq_true.trans (Bool.not_not _).symm) (by conv => lhs; cbv) (by conv => lhs; cbv) ?_ ?_
                · exact Le.ret2 (by subst hO; rfl)
                · exact Le.again (ih0 n0 (by omega) (O.wrap .i64 (O.add x_1 1))) (by subst hO; rfl) rfl
              · refine Le.condN 0 0 (by subst hO; exact (Bool.not_not _).symm) (by conv => lhs; cbv) (by conv => lhs; cbv) ?_ ?_
                · exact Le.ret2 (by subst hO; rfl)
                · exact Le.again (ih0 n0 (by omega) (O.wrap .i64 (O.add x_1 1))) (by subst hO; rfl) rfl
      · refine Le.condP 4 7 (by subst hO; rfl) (by conv => lhs; cbv) (by conv => lhs; cbv) ?_ ?_
        · refine Le.condP 8 2 (by subst hO; rfl) (by conv => lhs; cbv) (by conv => lhs; cbv) ?_ ?_
          · refine Le.condN 0 0 (by subst hO; exact Bool.decide_eq_true.trans (Bool.not_not _).symm) (by conv => lhs; cbv) (by conv => lhs; cbv) ?_ ?_
            · exact Le.ret2 (by subst hO; rfl)
            · exact Le.again (ih0 n0 (by omega) (O.wrap .i64 (O.add x_1 1))) (by subst hO; rfl) rfl
          · refine Le.condP 5 2 (by subst hO; rfl) (by conv => lhs; cbv) (by conv => lhs; cbv) ?_ ?_
            · refine Le.condN 0 0 (by subst hO; exact Bool.decide_eq_true.trans (Bool.not_not _).symm) (by conv => lhs; cbv) (by conv => lhs; cbv) ?_ ?_
              · exact Le.ret2 (by subst hO; rfl)
              · exact Le.again (ih0 n0 (by omega) (O.wrap .i64 (O.add x_1 1))) (by subst hO; rfl) rfl
            · refine Le.condP 2 2 (by subst hO; rfl) (by conv => lhs; cbv) (by conv => lhs; cbv) ?_ ?_
              · refine Le.condN 0 0 (by subst hO; exact Bool.decide_eq_true.trans (Bool.not_not _).symm) (by conv => lhs; cbv) (by conv => lhs; cbv) ?_ ?_
                · exact Le.ret2 (by subst hO; rfl)
                · exact Le.again (ih0 n0 (by omega) (O.wrap .i64 (O.add x_1 1))) (by subst hO; rfl) rfl
              · refine Le.condN 0 0 (by subst hO; exact (Bool.not_not _).symm) (by conv => lhs; cbv) (by conv => lhs; cbv) ?_ ?_
                · exact Le.ret2 (by subst hO; rfl)
                · exact Le.again (ih0 n0 (by omega) (O.wrap .i64 (O.add x_1 1))) (by subst hO; rfl) rfl
        · refine Le.condP 5 2 (by subst hO; rfl) (by conv => lhs; cbv) (by conv => lhs; cbv) ?_ ?_
          · refine Le.condN 0 0 (by subst hO; exact Bool.decide_eq_true.trans (Bool.not_not _).symm) (by conv => lhs; cbv) (by conv => lhs; cbv) ?_ ?_
            · exact Le.ret2 (by subst hO; rfl)
            · exact Le.again (ih0 n0 (by omega) (O.wrap .i64 (O.add x_1 1))) (by subst hO; rfl) rfl
          · refine Le.condP 2 2 (by subst hO; rfl) (by conv => lhs; cbv) (by conv => lhs; cbv) ?_ ?_
            · refine Le.condN 0 0 (by subst hO; exact Bool.decide_eq_true.trans (Bool.not_not _).symm) (by conv => lhs; cbv) (by conv => lhs; cbv) ?_ ?_
              · exact Le.ret2 (by subst hO; rfl)
              · exact Le.again (ih0 n0 (by omega) (O.wrap .i64 (O.add x_1 1))) (by subst hO; rfl) rfl
            · refine Le.condN 0 0 (by subst hO; exact (Bool.not_not _).symm) (by conv => lhs; cbv) (by conv => lhs; cbv) ?_ ?_
              · exact Le.ret2 (by subst hO; rfl)
              · exact Le.again (ih0 n0 (by omega) (O.wrap .i64 (O.add x_1 1))) (by subst hO; rfl) rfl
  · refine Le.callC 0 (fi := fi70) rfl (impl_within.le O hO (O.ssize a0) 1 20) (by subst hO; rfl) (by intro r2; conv => lhs; cbv) ?_
    intro r2
    refine Le.condP 2 5 (by subst hO; exact Bool.decide_eq_true) (by conv => lhs; cbv) (by conv => lhs; cbv) ?_ ?_
    · refine Le.condN 2 2 (by subst hO; exact (seq_dec _ _).trans (Bool.not_not _).symm) (by conv => lhs; cbv) (by conv => lhs; cbv) ?_ ?_
      · exact Le.ret2 (by subst hO; rfl)
      · exact Le.ret2 (by subst hO; rfl)
    · exact Le.ret2 (by subst hO; rfl)
/-! ### loop.example/g00100/impl.Names -/
def impl_Names.e (r : List ByteArray) : Res tab := (([], []), .one (.imm 9 r))
def impl_Names.l0 : Nat → (List ByteArray) → Int → Option (List ByteArray)
  | 0, _, _ => none
  | k + 1, r0, x_4 => (if x_4 < (r0.length : Int) then (if 0 ≤ x_4 then (if x_4 < (r0.length : Int) then ((impl_NameOk.f k (r0.getD (Int.toNat x_4) (⟨#[]⟩ : ByteArray))).bind fun r5 => (if r5 = true then (impl_Names.l0 k r0 (IntKind.wrap .i64 (x_4 + 1))) else (some ([] : List ByteArray)))) else none) else none) else (some r0))
def impl_Names.f (k : Nat) (a0 : ByteArray) : Option (List ByteArray) := (if 168 < (a0.size : Int) then (some ([] : List ByteArray)) else ((strings_Split.f a0 (⟨#[47]⟩ : ByteArray)).bind fun r0 => (if 8 < (r0.length : Int) then (some ([] : List ByteArray)) else (impl_Names.l0 k r0 0))))
theorem impl_Names.le (O : Prim) (hO : O = std) (k : Nat) (a0 : ByteArray) : Le F O M fi103.kills impl_Names.e (impl_Names.f k a0) (den O M fi103.kills fi103.fn fi103.body (tab.gives 103) (M 103) [.one (.lit (.string a0))] : Tr tab) := by
  refine Le.eqS 0 (by conv => lhs; cbv) ?_
  unfold impl_Names.f
  refine Le.condP 0 0 (by subst hO; rfl) (by conv => lhs; cbv) (by conv => lhs; cbv) ?_ ?_
  · exact Le.ret2 (by subst hO; rfl)
  · refine Le.extC 0 (fi := fi62) rfl (fun b hb => ⟨a0, (⟨#[47]⟩ : ByteArray), b, rfl, hb, rfl⟩) (by subst hO; rfl) (by intro r0; conv => lhs; cbv) ?_
    intro r0
    refine Le.condP 0 0 (by subst hO; rfl) (by conv => lhs; cbv) (by conv => lhs; cbv) ?_ ?_
    · exact Le.ret2 (by subst hO; rfl)
    · refine Le.loopS (fun (n : Nat) (v : Int) => impl_Names.l0 n r0 v) (fun (x_4 : Int) => (⟨[], [D_, D_, D_, .one (.imm 9 r0), D_, D_, D_, D_, D_, D_, D_, D_, D_, D_, .one (.imm 9 r0), .one (.lit (.int .i64 (O.len r0))), .one (.lit (.int .i64 x_4)), D_, D_, D_, D_, D_, D_, D_, D_], [[], [], [], [], [], [], [], [], [], [], [], [], [], [], [], [], [], [], [], [], [], [], [], [], [], []], []⟩ : S tab)) k 0 (by subst hO; rfl) rfl (fun _ => rfl) ?_
      intro n0 hn0 ih0 x_4
      refine Le.eqS 0 (by conv => lhs; cbv) ?_
      show Le F O M _ _ (impl_Names.l0 (n0 + 1) r0 x_4) _
      rw [impl_Names.l0]
      refine Le.condP 0 0 (by subst hO; rfl) (by conv => lhs; cbv) (by conv => lhs; cbv) ?_ ?_
      · refine Le.guardP 0 (by subst hO; rfl) (by conv => lhs; cbv) ?_
        refine Le.guardP 0 (by subst hO; rfl) (by conv => lhs; cbv) ?_
        refine Le.callC 0 (fi := fi122) rfl (impl_NameOk.le O hO n0 (O.get (⟨#[]⟩ : ByteArray) r0 x_4)) (by subst hO; rfl) (by intro r5; conv => lhs; cbv) ?_
        intro r5
        refine Le.condN 0 0 (by subst hO; exact Bool.decide_eq_true.trans (Bool.not_not _).symm) (by conv => lhs; cbv) (by conv => lhs; cbv) ?_ ?_
        · exact Le.ret2 (by subst hO; rfl)
        · exact Le.again (ih0 n0 (by omega) (O.wrap .i64 (O.add x_4 1))) (by subst hO; rfl) rfl
      · exact Le.ret2 (by subst hO; rfl)
/-! ### loop.example/g00100/impl.PathOk -/
def impl_PathOk.e (r : Bool) : Res tab := (([], []), .one (.lit (.bool r)))
def impl_PathOk.f (k : Nat) (a0 : ByteArray) : Option Bool := ((impl_Names.f k a0).bind fun r0 => (some (decide (0 < (r0.length : Int)))))
theorem impl_PathOk.le (O : Prim) (hO : O = std) (k : Nat) (a0 : ByteArray) : Le F O M fi69.kills impl_PathOk.e (impl_PathOk.f k a0) (den O M fi69.kills fi69.fn fi69.body (tab.gives 69) (M 69) [.one (.lit (.string a0))] : Tr tab) := by
  refine Le.eqS 0 (by conv => lhs; cbv) ?_
  unfold impl_PathOk.f
  refine Le.callC 0 (fi := fi103) rfl (impl_Names.le O hO k a0) (by subst hO; rfl) (by intro r0; conv => lhs; cbv) ?_
  intro r0
  exact Le.ret2 (by subst hO; rfl)
/-! ### loop.example/g00100/impl.NodeOk -/
def impl_NodeOk.e (r : Bool) : Res tab := (([], []), .one (.lit (.bool r)))
def impl_NodeOk.f (k : Nat) (a0 : GNode) : Option Bool := ((impl_PathOk.f k a0.Path).bind fun r0 => (if r0 = true then ((impl_within.f a0.Mode 0 511).bind fun r1 => (if r1 = true then ((impl_within.f a0.Time 0 1000000000).bind fun r2 => (if r2 = true then (if a0.Kind = 0 then (if a0.Data = (⟨#[]⟩ : ByteArray) then (if a0.Target = (⟨#[]⟩ : ByteArray) then (some (decide (a0.Group = 0))) else (some false)) else (some false)) else (if a0.Kind = 1 then (if (a0.Data.size : Int) ≤ 20000 then (if a0.Target = (⟨#[]⟩ : ByteArray) then ((impl_within.f a0.Group 0 200).bind fun r3 => (some r3)) else (some false)) else (some false)) else (if a0.Kind = 2 then (if a0.Data = (⟨#[]⟩ : ByteArray) then (if a0.Mode = 0 then (if a0.Group = 0 then ((impl_within.f (a0.Target.size : Int) 1 60).bind fun r4 => (if r4 = true then ((strings_Contains.f a0.Target (⟨#[10]⟩ : ByteArray)).bind fun r5 => (some (!r5))) else (some false))) else (some false)) else (some false)) else (some false)) else (some false)))) else (some false))) else (some false))) else (some false)))
theorem impl_NodeOk.le (O : Prim) (hO : O = std) (k : Nat) (a0 : GNode) : Le F O M fi37.kills impl_NodeOk.e (impl_NodeOk.f k a0) (den O M fi37.kills fi37.fn fi37.body (tab.gives 37) (M 37) [.agg [.lit (.string a0.Path), .lit (.int .i64 a0.Kind), .lit (.int .i64 a0.Mode), .lit (.int .i64 a0.Time), .lit (.string a0.Data), .lit (.string a0.Target), .lit (.int .i64 a0.Group)]] : Tr tab) := by
  refine Le.eqS 0 (by conv => lhs; cbv) ?_
  unfold impl_NodeOk.f
  refine Le.callC 0 (fi := fi69) rfl (impl_PathOk.le O hO k a0.Path) (by subst hO; rfl) (by intro r0; conv => lhs; cbv) ?_
  intro r0
  refine Le.condN 10 2 (by subst hO; exact Bool.decide_eq_true.trans (Bool.not_not _).symm) (by conv => lhs; cbv) (by conv => lhs; cbv) ?_ ?_
  · exact Le.ret2 (by subst hO; rfl)
  · refine Le.callC 2 (fi := fi70) rfl (impl_within.le O hO a0.Mode 0 511) (by subst hO; rfl) (by intro r1; conv => lhs; cbv) ?_
    intro r1
    refine Le.condN 5 2 (by subst hO; exact Bool.decide_eq_true.trans (Bool.not_not _).symm) (by conv => lhs; cbv) (by conv => lhs; cbv) ?_ ?_
    · exact Le.ret2 (by subst hO; rfl)
    · refine Le.callC 2 (fi := fi70) rfl (impl_within.le O hO a0.Time 0 1000000000) (by subst hO; rfl) (by intro r2; conv => lhs; cbv) ?_
      intro r2
      refine Le.condN 0 0 (by subst hO; exact Bool.decide_eq_true.trans (Bool.not_not _).symm) (by conv => lhs; cbv) (by conv => lhs; cbv) ?_ ?_
      · exact Le.ret2 (by subst hO; rfl)
      · refine Le.condP 0 0 (by subst hO; rfl) (by conv => lhs; cbv) (by conv => lhs; cbv) ?_ ?_
        · refine Le.condP 3 7 (by subst hO; exact seq_dec _ _) (by conv => lhs; cbv) (by conv => lhs; cbv) ?_ ?_
          · refine Le.condP 3 3 (by subst hO; exact seq_dec _ _) (by conv => lhs; cbv) (by conv => lhs; cbv) ?_ ?_
            · exact Le.ret2 (by subst hO; rfl)
            · exact Le.ret2 (by subst hO; rfl)
          · exact Le.ret2 (by subst hO; rfl)
        · refine Le.condP 0 0 (by subst hO; rfl) (by conv => lhs; cbv) (by conv => lhs; cbv) ?_ ?_
          · refine Le.condP 3 7 (by subst hO; rfl) (by conv => lhs; cbv) (by conv => lhs; cbv) ?_ ?_
            · refine Le.condP 2 3 (by subst hO; exact seq_dec _ _) (by conv => lhs; cbv) (by conv => lhs; cbv) ?_ ?_
              · refine Le.callC 1 (fi := fi70) rfl (impl_within.le O hO a0.Group 0 200) (by subst hO; rfl) (by intro r3; conv => lhs; cbv) ?_
                intro r3
                exact Le.ret2 (by subst hO; rfl)
              · exact Le.ret2 (by subst hO; rfl)
            · exact Le.ret2 (by subst hO; rfl)
          · refine Le.condP 0 0 (by subst hO; rfl) (by conv => lhs; cbv) (by conv => lhs; cbv) ?_ ?_
            · refine Le.condP 3 17 (by subst hO; exact seq_dec _ _) (by conv => lhs; cbv) (by conv => lhs; cbv) ?_ ?_
              · refine Le.condP 3 13 (by subst hO; rfl) (by conv => lhs; cbv) (by conv => lhs; cbv) ?_ ?_
                · refine Le.condP 3 9 (by subst hO; rfl) (by conv => lhs; cbv) (by conv => lhs; cbv) ?_ ?_
                  · refine Le.callC 1 (fi := fi70) rfl (impl_within.le O hO (O.ssize a0.Target) 1 60) (by subst hO; rfl) (by intro r4; conv => lhs; cbv) ?_
                    intro r4
                    refine Le.condP 2 4 (by subst hO; exact Bool.decide_eq_true) (by conv => lhs; cbv) (by conv => lhs; cbv) ?_ ?_
                    · refine Le.extC 2 (fi := fi71) rfl (fun b hb => ⟨a0.Target, (⟨#[10]⟩ : ByteArray), b, rfl, hb, rfl⟩) (by subst hO; rfl) (by intro r5; conv => lhs; cbv) ?_
                      intro r5
                      exact Le.ret2 (by subst hO; rfl)
                    · exact Le.ret2 (by subst hO; rfl)
                  · exact Le.ret2 (by subst hO; rfl)
                · exact Le.ret2 (by subst hO; rfl)
              · exact Le.ret2 (by subst hO; rfl)
            · exact Le.ret2 (by subst hO; rfl)
/-! ### loop.example/g00100/impl.DecText -/
def impl_DecText.e (r : ByteArray) : Res tab := (([], []), .one (.lit (.string r)))
def impl_DecText.f (a0 : Int) : Option ByteArray := ((strconv_Itoa.f a0).bind fun r0 => (some r0))
theorem impl_DecText.le (O : Prim) (hO : O = std) (a0 : Int) : Le F O M fi73.kills impl_DecText.e (impl_DecText.f a0) (den O M fi73.kills fi73.fn fi73.body (tab.gives 73) (M 73) [.one (.lit (.int .i64 a0))] : Tr tab) := by
  refine Le.eqS 0 (by conv => lhs; cbv) ?_
  unfold impl_DecText.f
  refine Le.extC 0 (fi := fi106) rfl (fun b hb => ⟨a0, b, rfl, hb, rfl⟩) (by subst hO; rfl) (by intro r0; conv => lhs; cbv) ?_
  intro r0
  exact Le.ret2 (by subst hO; rfl)
/-! ### loop.example/g00100/impl.hexText -/
def impl_hexText.e (r : ByteArray) : Res tab := (([], []), .one (.lit (.string r)))
def impl_hexText.l0 : Nat → ByteArray → (List Int) → Int → Option ByteArray
  | 0, _, _, _ => none
  | k + 1, a0, x_2, x_3 => (if x_3 < (a0.size : Int) then (if 0 ≤ x_3 then (if x_3 < (a0.size : Int) then (if 16 = 0 then none else (if 0 ≤ (IntKind.wrap .u8 (Int.tdiv (std.sget a0 x_3) 16)) then (if (IntKind.wrap .u8 (Int.tdiv (std.sget a0 x_3) 16)) < ((⟨#[48, 49, 50, 51, 52, 53, 54, 55, 56, 57, 97, 98, 99, 100, 101, 102]⟩ : ByteArray).size : Int) then (if 0 ≤ x_3 then (if x_3 < (a0.size : Int) then (if 16 = 0 then none else (if 0 ≤ (Int.tmod (std.sget a0 x_3) 16) then (if (Int.tmod (std.sget a0 x_3) 16) < ((⟨#[48, 49, 50, 51, 52, 53, 54, 55, 56, 57, 97, 98, 99, 100, 101, 102]⟩ : ByteArray).size : Int) then (if (((x_2.length : Int) + ([(std.sget (⟨#[48, 49, 50, 51, 52, 53, 54, 55, 56, 57, 97, 98, 99, 100, 101, 102]⟩ : ByteArray) (IntKind.wrap .u8 (Int.tdiv (std.sget a0 x_3) 16))), (std.sget (⟨#[48, 49, 50, 51, 52, 53, 54, 55, 56, 57, 97, 98, 99, 100, 101, 102]⟩ : ByteArray) (Int.tmod (std.sget a0 x_3) 16))].length : Int)) * 1) ≤ 140737488351232 then (impl_hexText.l0 k a0 (x_2 ++ [(std.sget (⟨#[48, 49, 50, 51, 52, 53, 54, 55, 56, 57, 97, 98, 99, 100, 101, 102]⟩ : ByteArray) (IntKind.wrap .u8 (Int.tdiv (std.sget a0 x_3) 16))), (std.sget (⟨#[48, 49, 50, 51, 52, 53, 54, 55, 56, 57, 97, 98, 99, 100, 101, 102]⟩ : ByteArray) (Int.tmod (std.sget a0 x_3) 16))]) (IntKind.wrap .i64 (x_3 + 1))) else none) else none) else none)) else none) else none) else none) else none)) else none) else none) else (some (std.strOf x_2)))
def impl_hexText.f (k : Nat) (a0 : ByteArray) : Option ByteArray := (if 0 ≤ 0 then (if 0 ≤ (IntKind.wrap .i64 (2 * (a0.size : Int))) then (if ((IntKind.wrap .i64 (2 * (a0.size : Int))) * 1) ≤ 281474976710656 then (impl_hexText.l0 k a0 (List.replicate (Int.toNat 0) 0) 0) else none) else none) else none)
theorem impl_hexText.le (O : Prim) (hO : O = std) (k : Nat) (a0 : ByteArray) : Le F O M fi107.kills impl_hexText.e (impl_hexText.f k a0) (den O M fi107.kills fi107.fn fi107.body (tab.gives 107) (M 107) [.one (.lit (.string a0))] : Tr tab) := by
  refine Le.eqS 0 (by conv => lhs; cbv) ?_
  unfold impl_hexText.f
  refine Le.guardP 0 (by subst hO; rfl) (by conv => lhs; cbv) ?_
  refine Le.guardP 0 (by subst hO; rfl) (by conv => lhs; cbv) ?_
  refine Le.guardP 0 (by subst hO; rfl) (by conv => lhs; cbv) ?_
  refine Le.loopS (fun (n : Nat) (v : List Int × Int) => impl_hexText.l0 n a0 v.1 v.2) (fun (v : List Int × Int) => match v with | (x_2, x_3) => (⟨[], [.one (.lit (.string a0)), D_, D_, .one (.own 5 x_2), D_, D_, D_, D_, D_, D_, .one (.lit (.int .i64 (O.ssize a0))), .one (.lit (.int .i64 x_3)), D_, D_, D_, D_, D_, D_, D_, D_, D_, D_, D_, D_, D_, D_, D_, D_, D_, D_], [[], [], [], [], [], [], [], [], [], [], [], [], [], [], [], [], [], [], [], [], [], [], [], [], [], [], [], [], [], [], []], []⟩ : S tab)) k ((O.rep 0 0), 0) (by subst hO; rfl) rfl (fun _ => rfl) ?_
  intro n0 hn0 ih0 v0
  obtain ⟨x_2, x_3⟩ := v0
  refine Le.eqS 0 (by conv => lhs; cbv) ?_
  show Le F O M _ _ (impl_hexText.l0 (n0 + 1) a0 x_2 x_3) _
  rw [impl_hexText.l0]
  refine Le.condP 0 0 (by subst hO; rfl) (by conv => lhs; cbv) (by conv => lhs; cbv) ?_ ?_
  · refine Le.guardP 0 (by subst hO; rfl) (by conv => lhs; cbv) ?_
    refine Le.guardP 0 (by subst hO; rfl) (by conv => lhs; cbv) ?_
    refine Le.guardN 0 (by subst hO; rfl) (by conv => lhs; cbv) ?_
    refine Le.guardP 0 (by subst hO; rfl) (by conv => lhs; cbv) ?_
    refine Le.guardP 0 (by subst hO; rfl) (by conv => lhs; cbv) ?_
    refine Le.guardP 0 (by subst hO; rfl) (by conv => lhs; cbv) ?_
    refine Le.guardP 0 (by subst hO; rfl) (by conv => lhs; cbv) ?_
    refine Le.guardN 0 (by subst hO; rfl) (by conv => lhs; cbv) ?_
    refine Le.guardP 0 (by subst hO; rfl) (by conv => lhs; cbv) ?_
    refine Le.guardP 0 (by subst hO; rfl) (by conv => lhs; cbv) ?_
    refine Le.guardP 0 (by subst hO; rfl) (by conv => lhs; cbv) ?_
    exact Le.again (ih0 n0 (by omega) ((O.app x_2 [(O.sget (⟨#[48, 49, 50, 51, 52, 53, 54, 55, 56, 57, 97, 98, 99, 100, 101, 102]⟩ : ByteArray) (O.wrap .u8 (O.quo (O.sget a0 x_3) 16))), (O.sget (⟨#[48, 49, 50, 51, 52, 53, 54, 55, 56, 57, 97, 98, 99, 100, 101, 102]⟩ : ByteArray) (O.rem (O.sget a0 x_3) 16))]), (O.wrap .i64 (O.add x_3 1)))) (by subst hO; rfl) rfl
  · exact Le.ret2 (by subst hO; rfl)
/-! ### loop.example/g00100/impl.hexOf -/
def impl_hexOf.e (r : ByteArray) : Res tab := (([], []), .one (.lit (.string r)))
def impl_hexOf.f (k : Nat) (a0 : ByteArray) : Option ByteArray := (if a0 = (⟨#[]⟩ : ByteArray) then (some (⟨#[45]⟩ : ByteArray)) else ((impl_hexText.f k a0).bind fun r0 => (some r0)))
theorem impl_hexOf.le (O : Prim) (hO : O = std) (k : Nat) (a0 : ByteArray) : Le F O M fi74.kills impl_hexOf.e (impl_hexOf.f k a0) (den O M fi74.kills fi74.fn fi74.body (tab.gives 74) (M 74) [.one (.lit (.string a0))] : Tr tab) := by
  refine Le.eqS 0 (by conv => lhs; cbv) ?_
  unfold impl_hexOf.f
  refine Le.condP 0 0 (by subst hO; exact seq_dec _ _) (by conv => lhs; cbv) (by conv => lhs; cbv) ?_ ?_
  · exact Le.ret2 (by subst hO; rfl)
  · refine Le.callC 0 (fi := fi107) rfl (impl_hexText.le O hO k a0) (by subst hO; rfl) (by intro r0; conv => lhs; cbv) ?_
    intro r0
    exact Le.ret2 (by subst hO; rfl)
/-! ### loop.example/g00100/impl.showNode -/
def impl_showNode.e (r : ByteArray) : Res tab := (([], []), .one (.lit (.string r)))
def impl_showNode.f (k : Nat) (a0 : GNode) : Option ByteArray := (if a0.Kind = 0 then ((impl_DecText.f a0.Mode).bind fun r0 => ((impl_DecText.f a0.Time).bind fun r1 => ((strings_Join.f [(⟨#[100]⟩ : ByteArray), a0.Path, r0, r1] (⟨#[32]⟩ : ByteArray)).bind fun r2 => (some r2)))) else (if a0.Kind = 1 then ((impl_DecText.f a0.Mode).bind fun r3 => ((impl_DecText.f a0.Time).bind fun r4 => ((impl_DecText.f a0.Group).bind fun r5 => ((impl_hexOf.f k a0.Data).bind fun r6 => ((strings_Join.f [(⟨#[102]⟩ : ByteArray), a0.Path, r3, r4, r5, r6] (⟨#[32]⟩ : ByteArray)).bind fun r7 => (some r7)))))) else ((impl_DecText.f a0.Time).bind fun r8 => ((impl_hexOf.f k a0.Target).bind fun r9 => ((strings_Join.f [(⟨#[108]⟩ : ByteArray), a0.Path, r8, r9] (⟨#[32]⟩ : ByteArray)).bind fun r10 => (some r10))))))
theorem impl_showNode.le (O : Prim) (hO : O = std) (k : Nat) (a0 : GNode) : Le F O M fi38.kills impl_showNode.e (impl_showNode.f k a0) (den O M fi38.kills fi38.fn fi38.body (tab.gives 38) (M 38) [.agg [.lit (.string a0.Path), .lit (.int .i64 a0.Kind), .lit (.int .i64 a0.Mode), .lit (.int .i64 a0.Time), .lit (.string a0.Data), .lit (.string a0.Target), .lit (.int .i64 a0.Group)]] : Tr tab) := by
  refine Le.eqS 0 (by conv => lhs; cbv) ?_
  unfold impl_showNode.f
  refine Le.condP 0 0 (by subst hO; rfl) (by conv => lhs; cbv) (by conv => lhs; cbv) ?_ ?_
  · refine Le.callC 0 (fi := fi73) rfl (impl_DecText.le O hO a0.Mode) (by subst hO; rfl) (by intro r0; conv => lhs; cbv) ?_
    intro r0
    refine Le.callC 0 (fi := fi73) rfl (impl_DecText.le O hO a0.Time) (by subst hO; rfl) (by intro r1; conv => lhs; cbv) ?_
    intro r1
    refine Le.extC 0 (fi := fi72) rfl (fun b hb => ⟨[(⟨#[100]⟩ : ByteArray), a0.Path, r0, r1], (⟨#[32]⟩ : ByteArray), b, rfl, hb, rfl⟩) (by subst hO; rfl) (by intro r2; conv => lhs; cbv) ?_
    intro r2
    exact Le.ret2 (by subst hO; rfl)
  · refine Le.condP 0 0 (by subst hO; rfl) (by conv => lhs; cbv) (by conv => lhs; cbv) ?_ ?_
    · refine Le.callC 0 (fi := fi73) rfl (impl_DecText.le O hO a0.Mode) (by subst hO; rfl) (by intro r3; conv => lhs; cbv) ?_
      intro r3
      refine Le.callC 0 (fi := fi73) rfl (impl_DecText.le O hO a0.Time) (by subst hO; rfl) (by intro r4; conv => lhs; cbv) ?_
      intro r4
      refine Le.callC 0 (fi := fi73) rfl (impl_DecText.le O hO a0.Group) (by subst hO; rfl) (by intro r5; conv => lhs; cbv) ?_
      intro r5
      refine Le.callC 0 (fi := fi74) rfl (impl_hexOf.le O hO k a0.Data) (by subst hO; rfl) (by intro r6; conv => lhs; cbv) ?_
      intro r6
      refine Le.extC 0 (fi := fi72) rfl (fun b hb => ⟨[(⟨#[102]⟩ : ByteArray), a0.Path, r3, r4, r5, r6], (⟨#[32]⟩ : ByteArray), b, rfl, hb, rfl⟩) (by subst hO; rfl) (by intro r7; conv => lhs; cbv) ?_
      intro r7
      exact Le.ret2 (by subst hO; rfl)
    · refine Le.callC 0 (fi := fi73) rfl (impl_DecText.le O hO a0.Time) (by subst hO; rfl) (by intro r8; conv => lhs; cbv) ?_
      intro r8
      refine Le.callC 0 (fi := fi74) rfl (impl_hexOf.le O hO k a0.Target) (by subst hO; rfl) (by intro r9; conv => lhs; cbv) ?_
      intro r9
      refine Le.extC 0 (fi := fi72) rfl (fun b hb => ⟨[(⟨#[108]⟩ : ByteArray), a0.Path, r8, r9], (⟨#[32]⟩ : ByteArray), b, rfl, hb, rfl⟩) (by subst hO; rfl) (by intro r10; conv => lhs; cbv) ?_
      intro r10
      exact Le.ret2 (by subst hO; rfl)
/-! ### loop.example/g00100/impl.ShowNode -/
def impl_ShowNode.e (r : ByteArray) : Res tab := (([], []), .one (.lit (.string r)))
def impl_ShowNode.f (k : Nat) (a0 : GNode) : Option ByteArray := ((impl_NodeOk.f k a0).bind fun r0 => (if r0 = true then ((impl_showNode.f k a0).bind fun r1 => (some r1)) else (some (⟨#[]⟩ : ByteArray))))
theorem impl_ShowNode.le (O : Prim) (hO : O = std) (k : Nat) (a0 : GNode) : Le F O M fi11.kills impl_ShowNode.e (impl_ShowNode.f k a0) (den O M fi11.kills fi11.fn fi11.body (tab.gives 11) (M 11) [.agg [.lit (.string a0.Path), .lit (.int .i64 a0.Kind), .lit (.int .i64 a0.Mode), .lit (.int .i64 a0.Time), .lit (.string a0.Data), .lit (.string a0.Target), .lit (.int .i64 a0.Group)]] : Tr tab) := by
  refine Le.eqS 0 (by conv => lhs; cbv) ?_
  unfold impl_ShowNode.f
  refine Le.callC 0 (fi := fi37) rfl (impl_NodeOk.le O hO k a0) (by subst hO; rfl) (by intro r0; conv => lhs; cbv) ?_
  intro r0
  refine Le.condN 0 0 (by subst hO; exact Bool.decide_eq_true.trans (Bool.not_not _).symm) (by conv => lhs; cbv) (by conv => lhs; cbv) ?_ ?_
  · exact Le.ret2 (by subst hO; rfl)
  · refine Le.callC 0 (fi := fi38) rfl (impl_showNode.le O hO k a0) (by subst hO; rfl) (by intro r1; conv => lhs; cbv) ?_
    intro r1
    exact Le.ret2 (by subst hO; rfl)
/-! ### loop.example/g00100/laws.FnExactShowNode -/
def laws_FnExactShowNode.e (r : Bool) : Res tab := (([], []), .one (.lit (.bool r)))
def laws_FnExactShowNode.f (k : Nat) (a0 : GNode) : Option Bool := ((laws_szNode.f a0 1048576).bind fun r0 => (if r0 < 0 then (some true) else ((laws_toNode.f a0).bind fun r1 => ((spec_ShowNode.f k r1).bind fun r2 => ((laws_toNode.f a0).bind fun r3 => ((impl_ShowNode.f k r3).bind fun r4 => (if r4 = r2 then (some true) else (some false))))))))
theorem laws_FnExactShowNode.le (O : Prim) (hO : O = std) (k : Nat) (a0 : GNode) : Le F O M fi3.kills laws_FnExactShowNode.e (laws_FnExactShowNode.f k a0) (den O M fi3.kills fi3.fn fi3.body (tab.gives 3) (M 3) [.agg [.lit (.string a0.Path), .lit (.int .i64 a0.Kind), .lit (.int .i64 a0.Mode), .lit (.int .i64 a0.Time), .lit (.string a0.Data), .lit (.string a0.Target), .lit (.int .i64 a0.Group)]] : Tr tab) := by
  refine Le.eqS 0 (by conv => lhs; cbv) ?_
  unfold laws_FnExactShowNode.f
  refine Le.callC 0 (fi := fi8) rfl (laws_szNode.le O hO a0 1048576) (by subst hO; rfl) (by intro r0; conv => lhs; cbv) ?_
  intro r0
  refine Le.condP 0 0 (by subst hO; rfl) (by conv => lhs; cbv) (by conv => lhs; cbv) ?_ ?_
  · exact Le.ret2 (by subst hO; rfl)
  · refine Le.callC 0 (fi := fi10) rfl (laws_toNode.le O hO a0) (by subst hO; rfl) (by intro r1; conv => lhs; cbv) ?_
    intro r1
    refine Le.callC 0 (fi := fi9) rfl (spec_ShowNode.le O hO k r1) (by subst hO; rfl) (by intro r2; conv => lhs; cbv) ?_
    intro r2
    refine Le.callC 0 (fi := fi10) rfl (laws_toNode.le O hO a0) (by subst hO; rfl) (by intro r3; conv => lhs; cbv) ?_
    intro r3
    refine Le.callC 0 (fi := fi11) rfl (impl_ShowNode.le O hO k r3) (by subst hO; rfl) (by intro r4; conv => lhs; cbv) ?_
    intro r4
    refine Le.condN 0 0 (by subst hO; exact (seq_dec _ _).trans (Bool.not_not _).symm) (by conv => lhs; cbv) (by conv => lhs; cbv) ?_ ?_
    · exact Le.ret2 (by subst hO; rfl)
    · exact Le.ret2 (by subst hO; rfl)
end Go.I
