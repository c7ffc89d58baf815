/- What each function that the law reaches answers, by the interpreter. No condition. -/
import Derived.Test.YtogfddilolannaaDoorEKD
set_option linter.unusedVariables false
set_option linter.unusedSimpArgs false
set_option maxRecDepth 100000
set_option maxHeartbeats 4000000
namespace Go.I
open Go
/-! ### loop.example/g00100/spec.l01Split -/
def spec_l01Split.e (r : List ByteArray) : Res tab := (([], []), .one (.own 9 r))
def spec_l01Split.l0 : Nat → ByteArray → (List ByteArray) → Int → Int → Option (List ByteArray)
  | 0, _, _, _, _ => none
  | k + 1, a0, x_3, x_4, x_5 => (if x_5 < (a0.size : Int) then (if 0 ≤ x_5 then (if x_5 < (a0.size : Int) then (if (std.sget a0 x_5) = 32 then (if 0 ≤ x_4 then (if x_4 ≤ x_5 then (if x_5 ≤ (a0.size : Int) then (if (((x_3.length : Int) + ([(a0.extract (Int.toNat x_4) (Int.toNat x_5))].length : Int)) * 16) ≤ 140737488351232 then (spec_l01Split.l0 k a0 (x_3 ++ [(a0.extract (Int.toNat x_4) (Int.toNat x_5))]) (IntKind.wrap .i64 (x_5 + 1)) (IntKind.wrap .i64 (x_5 + 1))) else none) else none) else none) else none) else (spec_l01Split.l0 k a0 x_3 x_4 (IntKind.wrap .i64 (x_5 + 1)))) else none) else none) else (if 0 ≤ x_4 then (if x_4 ≤ (a0.size : Int) then (if (a0.size : Int) ≤ (a0.size : Int) then (if (((x_3.length : Int) + ([(a0.extract (Int.toNat x_4) (Int.toNat (a0.size : Int)))].length : Int)) * 16) ≤ 140737488351232 then (some (x_3 ++ [(a0.extract (Int.toNat x_4) (Int.toNat (a0.size : Int)))])) else none) else none) else none) else none))
def spec_l01Split.f (k : Nat) (a0 : ByteArray) : Option (List ByteArray) := (spec_l01Split.l0 k a0 ([] : List ByteArray) 0 0)
theorem spec_l01Split.le (O : Prim) (hO : O = std) (k : Nat) (a0 : ByteArray) : Le F O M fi59.kills spec_l01Split.e (spec_l01Split.f k a0) (den O M fi59.kills fi59.fn fi59.body (tab.gives 59) (M 59) [.one (.lit (.string a0))] : Tr tab) := by
  refine Le.eqS 0 (by conv => lhs; cbv) ?_
  unfold spec_l01Split.f
  refine Le.loopS (fun (n : Nat) (v : List ByteArray × Int × Int) => spec_l01Split.l0 n a0 v.1 v.2.1 v.2.2) (fun (v : List ByteArray × Int × Int) => match v with | (x_3, x_4, x_5) => (⟨[], [.one (.lit (.string a0)), D_, D_, .one (.own 9 x_3), .one (.lit (.int .i64 x_4)), .one (.lit (.int .i64 x_5)), D_, D_, D_, D_, D_, D_, D_, D_, D_, D_, D_, D_, D_, D_, D_, D_, D_, D_, D_, D_, D_, D_, D_, D_, D_, D_], [[], [], [], [], [], [], [], [], [], [], [], [], [], [], [], [], [], [], [], [], [], [], [], [], [], [], [], [], [], [], [], [], []], []⟩ : S tab)) k (([] : List ByteArray), 0, 0) (by subst hO; rfl) rfl (fun _ => rfl) ?_
  intro n0 hn0 ih0 v0
  obtain ⟨x_3, x_4, x_5⟩ := v0
  refine Le.eqS 0 (by conv => lhs; cbv) ?_
  show Le F O M _ _ (spec_l01Split.l0 (n0 + 1) a0 x_3 x_4 x_5) _
  rw [spec_l01Split.l0]
  refine Le.condP 0 0 (by subst hO; rfl) (by conv => lhs; cbv) (by conv => lhs; cbv) ?_ ?_
  · refine Le.guardP 0 (by subst hO; rfl) (by conv => lhs; cbv) ?_
    refine Le.guardP 0 (by subst hO; rfl) (by conv => lhs; cbv) ?_
    refine Le.condP 0 0 (by subst hO; rfl) (by conv => lhs; cbv) (by conv => lhs; cbv) ?_ ?_
    · refine Le.guardP 0 (by subst hO; rfl) (by conv => lhs; cbv) ?_
      refine Le.guardP 0 (by subst hO; rfl) (by conv => lhs; cbv) ?_
      refine Le.guardP 0 (by subst hO; rfl) (by conv => lhs; cbv) ?_
      refine Le.guardP 0 (by subst hO; rfl) (by conv => lhs; cbv) ?_
      exact Le.again (ih0 n0 (by omega) ((O.app x_3 [(O.sext a0 x_4 x_5)]), (O.wrap .i64 (O.add x_5 1)), (O.wrap .i64 (O.add x_5 1)))) (by subst hO; rfl) rfl
    · exact Le.again (ih0 n0 (by omega) (x_3, x_4, (O.wrap .i64 (O.add x_5 1)))) (by subst hO; rfl) rfl
  · refine Le.guardP 0 (by subst hO; rfl) (by conv => lhs; cbv) ?_
    refine Le.guardP 0 (by subst hO; rfl) (by conv => lhs; cbv) ?_
    refine Le.guardP 0 (by subst hO; rfl) (by conv => lhs; cbv) ?_
    refine Le.guardP 0 (by subst hO; rfl) (by conv => lhs; cbv) ?_
    exact Le.ret2 (by subst hO; rfl)
/-! ### loop.example/g00100/spec.l01In -/
def spec_l01In.e (r : Bool) : Res tab := (([], []), .one (.lit (.bool r)))
def spec_l01In.f (a0 : Int) (a1 : Int) (a2 : Int) : Option Bool := (if a1 ≤ a0 then (some (decide (a0 ≤ a2))) else (some false))
theorem spec_l01In.le (O : Prim) (hO : O = std) (a0 : Int) (a1 : Int) (a2 : Int) : Le F O M fi67.kills spec_l01In.e (spec_l01In.f a0 a1 a2) (den O M fi67.kills fi67.fn fi67.body (tab.gives 67) (M 67) [.one (.lit (.int .i64 a0)), .one (.lit (.int .i64 a1)), .one (.lit (.int .i64 a2))] : Tr tab) := by
  refine Le.eqS 0 (by conv => lhs; cbv) ?_
  unfold spec_l01In.f
  refine Le.condP 3 3 (by subst hO; rfl) (by conv => lhs; cbv) (by conv => lhs; cbv) ?_ ?_
  · exact Le.ret2 (by subst hO; rfl)
  · exact Le.ret2 (by subst hO; rfl)
/-! ### loop.example/g00100/spec.DecText -/
def spec_DecText.e (r : ByteArray) : Res tab := (([], []), .one (.lit (.string r)))
def spec_DecText.l0 : Nat → Int → ByteArray → Int → Option ByteArray
  | 0, _, _, _ => none
  | k + 1, a0, x_2, x_3 => (if x_3 = 0 then (if a0 < 0 then (if (((⟨#[45]⟩ : ByteArray).size : Int) + (x_2.size : Int)) ≤ 140737488351232 then (some ((⟨#[45]⟩ : ByteArray) ++ x_2)) else none) else (some x_2)) else (if 10 = 0 then none else (if (Int.tmod x_3 10) < 0 then (if 0 ≤ (IntKind.wrap .i64 (0 - (Int.tmod x_3 10))) then (if (IntKind.wrap .i64 (0 - (Int.tmod x_3 10))) ≤ (IntKind.wrap .i64 ((IntKind.wrap .i64 (0 - (Int.tmod x_3 10))) + 1)) then (if (IntKind.wrap .i64 ((IntKind.wrap .i64 (0 - (Int.tmod x_3 10))) + 1)) ≤ ((⟨#[48, 49, 50, 51, 52, 53, 54, 55, 56, 57]⟩ : ByteArray).size : Int) then (if ((((⟨#[48, 49, 50, 51, 52, 53, 54, 55, 56, 57]⟩ : ByteArray).extract (Int.toNat (IntKind.wrap .i64 (0 - (Int.tmod x_3 10)))) (Int.toNat (IntKind.wrap .i64 ((IntKind.wrap .i64 (0 - (Int.tmod x_3 10))) + 1)))).size : Int) + (x_2.size : Int)) ≤ 140737488351232 then (if 10 = 0 then none else (spec_DecText.l0 k a0 (((⟨#[48, 49, 50, 51, 52, 53, 54, 55, 56, 57]⟩ : ByteArray).extract (Int.toNat (IntKind.wrap .i64 (0 - (Int.tmod x_3 10)))) (Int.toNat (IntKind.wrap .i64 ((IntKind.wrap .i64 (0 - (Int.tmod x_3 10))) + 1)))) ++ x_2) (IntKind.wrap .i64 (Int.tdiv x_3 10)))) else none) else none) else none) else none) else (if 0 ≤ (Int.tmod x_3 10) then (if (Int.tmod x_3 10) ≤ (IntKind.wrap .i64 ((Int.tmod x_3 10) + 1)) then (if (IntKind.wrap .i64 ((Int.tmod x_3 10) + 1)) ≤ ((⟨#[48, 49, 50, 51, 52, 53, 54, 55, 56, 57]⟩ : ByteArray).size : Int) then (if ((((⟨#[48, 49, 50, 51, 52, 53, 54, 55, 56, 57]⟩ : ByteArray).extract (Int.toNat (Int.tmod x_3 10)) (Int.toNat (IntKind.wrap .i64 ((Int.tmod x_3 10) + 1)))).size : Int) + (x_2.size : Int)) ≤ 140737488351232 then (if 10 = 0 then none else (spec_DecText.l0 k a0 (((⟨#[48, 49, 50, 51, 52, 53, 54, 55, 56, 57]⟩ : ByteArray).extract (Int.toNat (Int.tmod x_3 10)) (Int.toNat (IntKind.wrap .i64 ((Int.tmod x_3 10) + 1)))) ++ x_2) (IntKind.wrap .i64 (Int.tdiv x_3 10)))) else none) else none) else none) else none))))
def spec_DecText.f (k : Nat) (a0 : Int) : Option ByteArray := (if a0 = 0 then (some (⟨#[48]⟩ : ByteArray)) else (spec_DecText.l0 k a0 (⟨#[]⟩ : ByteArray) a0))
theorem spec_DecText.le (O : Prim) (hO : O = std) (k : Nat) (a0 : Int) : Le F O M fi35.kills spec_DecText.e (spec_DecText.f k a0) (den O M fi35.kills fi35.fn fi35.body (tab.gives 35) (M 35) [.one (.lit (.int .i64 a0))] : Tr tab) := by
  refine Le.eqS 0 (by conv => lhs; cbv) ?_
  unfold spec_DecText.f
  refine Le.condP 0 0 (by subst hO; rfl) (by conv => lhs; cbv) (by conv => lhs; cbv) ?_ ?_
  · exact Le.ret2 (by subst hO; rfl)
  · refine Le.loopS (fun (n : Nat) (v : ByteArray × Int) => spec_DecText.l0 n a0 v.1 v.2) (fun (v : ByteArray × Int) => match v with | (x_2, x_3) => (⟨[], [.one (.lit (.int .i64 a0)), D_, D_, .one (.lit (.string x_2)), .one (.lit (.int .i64 x_3)), D_, D_, D_, D_, D_, D_, D_, D_, D_, D_, D_, D_, D_, D_, D_, D_, D_, D_, D_, D_, D_, D_, D_, D_, D_], [[], [], [], [], [], [], [], [], [], [], [], [], [], [], [], [], [], [], [], [], [], [], [], [], [], [], [], [], [], [], []], []⟩ : S tab)) k ((⟨#[]⟩ : ByteArray), a0) (by subst hO; rfl) rfl (fun _ => rfl) ?_
    intro n0 hn0 ih0 v0
    obtain ⟨x_2, x_3⟩ := v0
    refine Le.eqS 0 (by conv => lhs; cbv) ?_
    show Le F O M _ _ (spec_DecText.l0 (n0 + 1) a0 x_2 x_3) _
    rw [spec_DecText.l0]
    refine Le.condN 0 0 (by subst hO; exact (Bool.not_not _).symm) (by conv => lhs; cbv) (by conv => lhs; cbv) ?_ ?_
    · refine Le.guardN 0 (by subst hO; rfl) (by conv => lhs; cbv) ?_
      refine Le.condP 0 0 (by subst hO; rfl) (by conv => lhs; cbv) (by conv => lhs; cbv) ?_ ?_
      · refine Le.guardP 0 (by subst hO; rfl) (by conv => lhs; cbv) ?_
        refine Le.guardP 0 (by subst hO; rfl) (by conv => lhs; cbv) ?_
        refine Le.guardP 0 (by subst hO; rfl) (by conv => lhs; cbv) ?_
        refine Le.guardP 0 (by subst hO; rfl) (by conv => lhs; cbv) ?_
        refine Le.guardN 0 (by subst hO; rfl) (by conv => lhs; cbv) ?_
        exact Le.again (ih0 n0 (by omega) ((O.scat (O.sext (⟨#[48, 49, 50, 51, 52, 53, 54, 55, 56, 57]⟩ : ByteArray) (O.wrap .i64 (O.sub 0 (O.rem x_3 10))) (O.wrap .i64 (O.add (O.wrap .i64 (O.sub 0 (O.rem x_3 10))) 1))) x_2), (O.wrap .i64 (O.quo x_3 10)))) (by subst hO; rfl) rfl
      · refine Le.guardP 0 (by subst hO; rfl) (by conv => lhs; cbv) ?_
        refine Le.guardP 0 (by subst hO; rfl) (by conv => lhs; cbv) ?_
        refine Le.guardP 0 (by subst hO; rfl) (by conv => lhs; cbv) ?_
        refine Le.guardP 0 (by subst hO; rfl) (by conv => lhs; cbv) ?_
        refine Le.guardN 0 (by subst hO; rfl) (by conv => lhs; cbv) ?_
        exact Le.again (ih0 n0 (by omega) ((O.scat (O.sext (⟨#[48, 49, 50, 51, 52, 53, 54, 55, 56, 57]⟩ : ByteArray) (O.rem x_3 10) (O.wrap .i64 (O.add (O.rem x_3 10) 1))) x_2), (O.wrap .i64 (O.quo x_3 10)))) (by subst hO; rfl) rfl
    · refine Le.condP 0 0 (by subst hO; rfl) (by conv => lhs; cbv) (by conv => lhs; cbv) ?_ ?_
      · refine Le.guardP 0 (by subst hO; rfl) (by conv => lhs; cbv) ?_
        exact Le.ret2 (by subst hO; rfl)
      · exact Le.ret2 (by subst hO; rfl)
/-! ### loop.example/g00100/spec.DecNum -/
def spec_DecNum.e (r : Int × Bool) : Res tab := (([], []), .tup [(false, [.lit (.int .i64 r.1)]), (false, [.lit (.bool r.2)])])
def spec_DecNum.l0 : Nat → ByteArray → Int → Int → Int → Option (Int × Bool)
  | 0, _, _, _, _ => none
  | k + 1, a0, a1, x_5, x_6 => (if x_6 < (a0.size : Int) then (if 0 ≤ x_6 then (if x_6 < (a0.size : Int) then ((spec_l01In.f (IntKind.wrap .i64 ((IntKind.wrap .i64 (std.sget a0 x_6)) - 48)) 0 9).bind fun r7 => (if r7 = true then (spec_DecNum.l0 k a0 a1 (IntKind.wrap .i64 ((IntKind.wrap .i64 (10 * x_5)) + (IntKind.wrap .i64 ((IntKind.wrap .i64 (std.sget a0 x_6)) - 48)))) (IntKind.wrap .i64 (x_6 + 1))) else (some (0, false)))) else none) else none) else (if 1 = 1 then ((spec_DecText.f k (IntKind.wrap .i64 (0 - x_5))).bind fun r8 => (if r8 = a0 then (if a1 < (IntKind.wrap .i64 (0 - x_5)) then (some (0, false)) else (if (IntKind.wrap .i64 (0 - x_5)) < (IntKind.wrap .i64 (0 - a1)) then (some (0, false)) else (some ((IntKind.wrap .i64 (0 - x_5)), true)))) else (some (0, false)))) else ((spec_DecText.f k x_5).bind fun r9 => (if r9 = a0 then (if a1 < x_5 then (some (0, false)) else (if x_5 < (IntKind.wrap .i64 (0 - a1)) then (some (0, false)) else (some (x_5, true)))) else (some (0, false))))))
def spec_DecNum.l0v1 : Nat → ByteArray → Int → Int → Int → Option (Int × Bool)
  | 0, _, _, _, _ => none
  | k + 1, a0, a1, x_14, x_15 => (if x_15 < (a0.size : Int) then (if 0 ≤ x_15 then (if x_15 < (a0.size : Int) then ((spec_l01In.f (IntKind.wrap .i64 ((IntKind.wrap .i64 (std.sget a0 x_15)) - 48)) 0 9).bind fun r16 => (if r16 = true then (spec_DecNum.l0v1 k a0 a1 (IntKind.wrap .i64 ((IntKind.wrap .i64 (10 * x_14)) + (IntKind.wrap .i64 ((IntKind.wrap .i64 (std.sget a0 x_15)) - 48)))) (IntKind.wrap .i64 (x_15 + 1))) else (some (0, false)))) else none) else none) else (if 0 = 1 then ((spec_DecText.f k (IntKind.wrap .i64 (0 - x_14))).bind fun r17 => (if r17 = a0 then (if a1 < (IntKind.wrap .i64 (0 - x_14)) then (some (0, false)) else (if (IntKind.wrap .i64 (0 - x_14)) < (IntKind.wrap .i64 (0 - a1)) then (some (0, false)) else (some ((IntKind.wrap .i64 (0 - x_14)), true)))) else (some (0, false)))) else ((spec_DecText.f k x_14).bind fun r18 => (if r18 = a0 then (if a1 < x_14 then (some (0, false)) else (if x_14 < (IntKind.wrap .i64 (0 - a1)) then (some (0, false)) else (some (x_14, true)))) else (some (0, false))))))
def spec_DecNum.f (k : Nat) (a0 : ByteArray) (a1 : Int) : Option (Int × Bool) := ((spec_l01In.f a1 0 1000000000000).bind fun r0 => (if r0 = true then (if (a0.size : Int) = 0 then (some (0, false)) else (if 14 < (a0.size : Int) then (some (0, false)) else (if 0 ≤ 0 then (if 0 < (a0.size : Int) then (if (std.sget a0 0) = 45 then (spec_DecNum.l0 k a0 a1 0 1) else (spec_DecNum.l0v1 k a0 a1 0 0)) else none) else none))) else (some (0, false))))
theorem spec_DecNum.le (O : Prim) (hO : O = std) (k : Nat) (a0 : ByteArray) (a1 : Int) : Le F O M fi60.kills spec_DecNum.e (spec_DecNum.f k a0 a1) (den O M fi60.kills fi60.fn fi60.body (tab.gives 60) (M 60) [.one (.lit (.string a0)), .one (.lit (.int .i64 a1))] : Tr tab) := by
  refine Le.eqS 0 (by conv => lhs; cbv) ?_
  unfold spec_DecNum.f
  refine Le.callC 0 (fi := fi67) rfl (spec_l01In.le O hO a1 0 1000000000000) (by subst hO; rfl) (by intro r0; conv => lhs; cbv) ?_
  intro r0
  refine Le.condN 8 3 (by subst hO; exact Bool.decide_eq_true.trans (Bool.not_not _).symm) (by conv => lhs; cbv) (by conv => lhs; cbv) ?_ ?_
  · exact Le.ret2 (by subst hO; rfl)
  · refine Le.condP 4 3 (by subst hO; rfl) (by conv => lhs; cbv) (by conv => lhs; cbv) ?_ ?_
    · exact Le.ret2 (by subst hO; rfl)
    · refine Le.condP 0 0 (by subst hO; rfl) (by conv => lhs; cbv) (by conv => lhs; cbv) ?_ ?_
      · exact Le.ret2 (by subst hO; rfl)
      · refine Le.guardP 0 (by subst hO; rfl) (by conv => lhs; cbv) ?_
        refine Le.guardP 0 (by subst hO; rfl) (by conv => lhs; cbv) ?_
        refine Le.condP 0 0 (by subst hO; rfl) (by conv => lhs; cbv) (by conv => lhs; cbv) ?_ ?_
        · refine Le.loopS (fun (n : Nat) (v : Int × Int) => spec_DecNum.l0 n a0 a1 v.1 v.2) (fun (v : Int × Int) => match v with | (x_5, x_6) => (⟨[], [.one (.lit (.string a0)), .one (.lit (.int .i64 a1)), D_, D_, D_, D_, .one (.lit (.int .i64 1)), .one (.lit (.int .i64 x_5)), .one (.lit (.int .i64 x_6)), D_, D_, D_, D_, D_, D_, D_, D_, D_, D_, D_, D_, D_, D_, D_, D_, D_, D_, D_, D_, D_, D_, D_, D_, D_, D_, D_, D_, D_, D_, D_, D_, D_, D_, D_, D_, D_, D_, D_, D_, D_, D_, D_, D_, D_, D_, D_, D_, D_, D_, D_, D_, D_, D_, D_, D_], [[], [], [], [], [], [], [], [], [], [], [], [], [], [], [], [], [], [], [], [], [], [], [], [], [], [], [], [], [], [], [], [], [], [], [], [], [], [], [], [], [], [], [], [], [], [], [], [], [], [], [], [], [], [], [], [], [], [], [], [], [], [], [], [], [], [], []], []⟩ : S tab)) k (0, 1) (by subst hO; rfl) rfl (fun _ => rfl) ?_
          intro n0 hn0 ih0 v0
          obtain ⟨x_5, x_6⟩ := v0
          refine Le.eqS 0 (by conv => lhs; cbv) ?_
          show Le F O M _ _ (spec_DecNum.l0 (n0 + 1) a0 a1 x_5 x_6) _
          rw [spec_DecNum.l0]
          refine Le.condP 0 0 (by subst hO; rfl) (by conv => lhs; cbv) (by conv => lhs; cbv) ?_ ?_
          · refine Le.guardP 0 (by subst hO; rfl) (by conv => lhs; cbv) ?_
            refine Le.guardP 0 (by subst hO; rfl) (by conv => lhs; cbv) ?_
            refine Le.callC 0 (fi := fi67) rfl (spec_l01In.le O hO (O.wrap .i64 (O.sub (O.wrap .i64 (O.sget a0 x_6)) 48)) 0 9) (by subst hO; rfl) (by intro r7; conv => lhs; cbv) ?_
            intro r7
            refine Le.condN 0 0 (by subst hO; exact Bool.decide_eq_true.trans (Bool.not_not _).symm) (by conv => lhs; cbv) (by conv => lhs; cbv) ?_ ?_
            · exact Le.ret2 (by subst hO; rfl)
            · exact Le.again (ih0 n0 (by omega) ((O.wrap .i64 (O.add (O.wrap .i64 (O.mul 10 x_5)) (O.wrap .i64 (O.sub (O.wrap .i64 (O.sget a0 x_6)) 48)))), (O.wrap .i64 (O.add x_6 1)))) (by subst hO; rfl) rfl
          · refine Le.condP 0 0 (by subst hO; rfl) (by conv => lhs; cbv) (by conv => lhs; cbv) ?_ ?_
            · refine Le.callC 0 (fi := fi35) rfl (spec_DecText.le O hO n0 (O.wrap .i64 (O.sub 0 x_5))) (by subst hO; rfl) (by intro r8; conv => lhs; cbv) ?_
              intro r8
              refine Le.condN 9 3 (by subst hO; exact (seq_dec _ _).trans (Bool.not_not _).symm) (by conv => lhs; cbv) (by conv => lhs; cbv) ?_ ?_
              · exact Le.ret2 (by subst hO; rfl)
              · refine Le.condP 5 4 (by subst hO; rfl) (by conv => lhs; cbv) (by conv => lhs; cbv) ?_ ?_
                · exact Le.ret2 (by subst hO; rfl)
                · refine Le.condP 0 0 (by subst hO; rfl) (by conv => lhs; cbv) (by conv => lhs; cbv) ?_ ?_
                  · exact Le.ret2 (by subst hO; rfl)
                  · exact Le.ret2 (by subst hO; rfl)
            · refine Le.callC 0 (fi := fi35) rfl (spec_DecText.le O hO n0 x_5) (by subst hO; rfl) (by intro r9; conv => lhs; cbv) ?_
              intro r9
              refine Le.condN 9 3 (by subst hO; exact (seq_dec _ _).trans (Bool.not_not _).symm) (by conv => lhs; cbv) (by conv => lhs; cbv) ?_ ?_
              · exact Le.ret2 (by subst hO; rfl)
              · refine Le.condP 5 4 (by subst hO; rfl) (by conv => lhs; cbv) (by conv => lhs; cbv) ?_ ?_
                · exact Le.ret2 (by subst hO; rfl)
                · refine Le.condP 0 0 (by subst hO; rfl) (by conv => lhs; cbv) (by conv => lhs; cbv) ?_ ?_
                  · exact Le.ret2 (by subst hO; rfl)
                  · exact Le.ret2 (by subst hO; rfl)
        · refine Le.loopS (fun (n : Nat) (v : Int × Int) => spec_DecNum.l0v1 n a0 a1 v.1 v.2) (fun (v : Int × Int) => match v with | (x_14, x_15) => (⟨[], [.one (.lit (.string a0)), .one (.lit (.int .i64 a1)), D_, D_, D_, D_, .one (.lit (.int .i64 0)), .one (.lit (.int .i64 x_14)), .one (.lit (.int .i64 x_15)), D_, D_, D_, D_, D_, D_, D_, D_, D_, D_, D_, D_, D_, D_, D_, D_, D_, D_, D_, D_, D_, D_, D_, D_, D_, D_, D_, D_, D_, D_, D_, D_, D_, D_, D_, D_, D_, D_, D_, D_, D_, D_, D_, D_, D_, D_, D_, D_, D_, D_, D_, D_, D_, D_, D_, D_], [[], [], [], [], [], [], [], [], [], [], [], [], [], [], [], [], [], [], [], [], [], [], [], [], [], [], [], [], [], [], [], [], [], [], [], [], [], [], [], [], [], [], [], [], [], [], [], [], [], [], [], [], [], [], [], [], [], [], [], [], [], [], [], [], [], [], []], []⟩ : S tab)) k (0, 0) (by subst hO; rfl) rfl (fun _ => rfl) ?_
          intro n0 hn0 ih0 v0
          obtain ⟨x_14, x_15⟩ := v0
          refine Le.eqS 0 (by conv => lhs; cbv) ?_
          show Le F O M _ _ (spec_DecNum.l0v1 (n0 + 1) a0 a1 x_14 x_15) _
          rw [spec_DecNum.l0v1]
          refine Le.condP 0 0 (by subst hO; rfl) (by conv => lhs; cbv) (by conv => lhs; cbv) ?_ ?_
          · refine Le.guardP 0 (by subst hO; rfl) (by conv => lhs; cbv) ?_
            refine Le.guardP 0 (by subst hO; rfl) (by conv => lhs; cbv) ?_
            refine Le.callC 0 (fi := fi67) rfl (spec_l01In.le O hO (O.wrap .i64 (O.sub (O.wrap .i64 (O.sget a0 x_15)) 48)) 0 9) (by subst hO; rfl) (by intro r16; conv => lhs; cbv) ?_
            intro r16
            refine Le.condN 0 0 (by subst hO; exact Bool.decide_eq_true.trans (Bool.not_not _).symm) (by conv => lhs; cbv) (by conv => lhs; cbv) ?_ ?_
            · exact Le.ret2 (by subst hO; rfl)
            · exact Le.again (ih0 n0 (by omega) ((O.wrap .i64 (O.add (O.wrap .i64 (O.mul 10 x_14)) (O.wrap .i64 (O.sub (O.wrap .i64 (O.sget a0 x_15)) 48)))), (O.wrap .i64 (O.add x_15 1)))) (by subst hO; rfl) rfl
          · refine Le.condP 0 0 (by subst hO; rfl) (by conv => lhs; cbv) (by conv => lhs; cbv) ?_ ?_
            · refine Le.callC 0 (fi := fi35) rfl (spec_DecText.le O hO n0 (O.wrap .i64 (O.sub 0 x_14))) (by subst hO; rfl) (by intro r17; conv => lhs; cbv) ?_
              intro r17
              refine Le.condN 9 3 (by subst hO; exact (seq_dec _ _).trans (Bool.not_not _).symm) (by conv => lhs; cbv) (by conv => lhs; cbv) ?_ ?_
              · exact Le.ret2 (by subst hO; rfl)
              · refine Le.condP 5 4 (by subst hO; rfl) (by conv => lhs; cbv) (by conv => lhs; cbv) ?_ ?_
                · exact Le.ret2 (by subst hO; rfl)
                · refine Le.condP 0 0 (by subst hO; rfl) (by conv => lhs; cbv) (by conv => lhs; cbv) ?_ ?_
                  · exact Le.ret2 (by subst hO; rfl)
                  · exact Le.ret2 (by subst hO; rfl)
            · refine Le.callC 0 (fi := fi35) rfl (spec_DecText.le O hO n0 x_14) (by subst hO; rfl) (by intro r18; conv => lhs; cbv) ?_
              intro r18
              refine Le.condN 9 3 (by subst hO; exact (seq_dec _ _).trans (Bool.not_not _).symm) (by conv => lhs; cbv) (by conv => lhs; cbv) ?_ ?_
              · exact Le.ret2 (by subst hO; rfl)
              · refine Le.condP 5 4 (by subst hO; rfl) (by conv => lhs; cbv) (by conv => lhs; cbv) ?_ ?_
                · exact Le.ret2 (by subst hO; rfl)
                · refine Le.condP 0 0 (by subst hO; rfl) (by conv => lhs; cbv) (by conv => lhs; cbv) ?_ ?_
                  · exact Le.ret2 (by subst hO; rfl)
                  · exact Le.ret2 (by subst hO; rfl)
/-! ### loop.example/g00100/spec.l02Names -/
def spec_l02Names.e (r : List ByteArray) : Res tab := (([], []), .one (.own 9 r))
def spec_l02Names.l0 : Nat → ByteArray → (List ByteArray) → Int → Int → Option (List ByteArray)
  | 0, _, _, _, _ => none
  | k + 1, a0, x_3, x_4, x_5 => (if x_5 < (a0.size : Int) then (if 0 ≤ x_5 then (if x_5 < (a0.size : Int) then (if (std.sget a0 x_5) = 47 then (if 0 ≤ x_4 then (if x_4 ≤ x_5 then (if x_5 ≤ (a0.size : Int) then (if (((x_3.length : Int) + ([(a0.extract (Int.toNat x_4) (Int.toNat x_5))].length : Int)) * 16) ≤ 140737488351232 then (spec_l02Names.l0 k a0 (x_3 ++ [(a0.extract (Int.toNat x_4) (Int.toNat x_5))]) (IntKind.wrap .i64 (x_5 + 1)) (IntKind.wrap .i64 (x_5 + 1))) else none) else none) else none) else none) else (spec_l02Names.l0 k a0 x_3 x_4 (IntKind.wrap .i64 (x_5 + 1)))) else none) else none) else (if 0 ≤ x_4 then (if x_4 ≤ (a0.size : Int) then (if (a0.size : Int) ≤ (a0.size : Int) then (if (((x_3.length : Int) + ([(a0.extract (Int.toNat x_4) (Int.toNat (a0.size : Int)))].length : Int)) * 16) ≤ 140737488351232 then (some (x_3 ++ [(a0.extract (Int.toNat x_4) (Int.toNat (a0.size : Int)))])) else none) else none) else none) else none))
def spec_l02Names.f (k : Nat) (a0 : ByteArray) : Option (List ByteArray) := (spec_l02Names.l0 k a0 ([] : List ByteArray) 0 0)
theorem spec_l02Names.le (O : Prim) (hO : O = std) (k : Nat) (a0 : ByteArray) : Le F O M fi101.kills spec_l02Names.e (spec_l02Names.f k a0) (den O M fi101.kills fi101.fn fi101.body (tab.gives 101) (M 101) [.one (.lit (.string a0))] : Tr tab) := by
  refine Le.eqS 0 (by conv => lhs; cbv) ?_
  unfold spec_l02Names.f
  refine Le.loopS (fun (n : Nat) (v : List ByteArray × Int × Int) => spec_l02Names.l0 n a0 v.1 v.2.1 v.2.2) (fun (v : List ByteArray × Int × Int) => match v with | (x_3, x_4, x_5) => (⟨[], [.one (.lit (.string a0)), D_, D_, .one (.own 9 x_3), .one (.lit (.int .i64 x_4)), .one (.lit (.int .i64 x_5)), D_, D_, D_, D_, D_, D_, D_, D_, D_, D_, D_, D_, D_, D_, D_, D_, D_, D_, D_, D_, D_, D_, D_, D_, D_, D_], [[], [], [], [], [], [], [], [], [], [], [], [], [], [], [], [], [], [], [], [], [], [], [], [], [], [], [], [], [], [], [], [], []], []⟩ : S tab)) k (([] : List ByteArray), 0, 0) (by subst hO; rfl) rfl (fun _ => rfl) ?_
  intro n0 hn0 ih0 v0
  obtain ⟨x_3, x_4, x_5⟩ := v0
  refine Le.eqS 0 (by conv => lhs; cbv) ?_
  show Le F O M _ _ (spec_l02Names.l0 (n0 + 1) a0 x_3 x_4 x_5) _
  rw [spec_l02Names.l0]
  refine Le.condP 0 0 (by subst hO; rfl) (by conv => lhs; cbv) (by conv => lhs; cbv) ?_ ?_
  · refine Le.guardP 0 (by subst hO; rfl) (by conv => lhs; cbv) ?_
    refine Le.guardP 0 (by subst hO; rfl) (by conv => lhs; cbv) ?_
    refine Le.condP 0 0 (by subst hO; rfl) (by conv => lhs; cbv) (by conv => lhs; cbv) ?_ ?_
    · refine Le.guardP 0 (by subst hO; rfl) (by conv => lhs; cbv) ?_
      refine Le.guardP 0 (by subst hO; rfl) (by conv => lhs; cbv) ?_
      refine Le.guardP 0 (by subst hO; rfl) (by conv => lhs; cbv) ?_
      refine Le.guardP 0 (by subst hO; rfl) (by conv => lhs; cbv) ?_
      exact Le.again (ih0 n0 (by omega) ((O.app x_3 [(O.sext a0 x_4 x_5)]), (O.wrap .i64 (O.add x_5 1)), (O.wrap .i64 (O.add x_5 1)))) (by subst hO; rfl) rfl
    · exact Le.again (ih0 n0 (by omega) (x_3, x_4, (O.wrap .i64 (O.add x_5 1)))) (by subst hO; rfl) rfl
  · refine Le.guardP 0 (by subst hO; rfl) (by conv => lhs; cbv) ?_
    refine Le.guardP 0 (by subst hO; rfl) (by conv => lhs; cbv) ?_
    refine Le.guardP 0 (by subst hO; rfl) (by conv => lhs; cbv) ?_
    refine Le.guardP 0 (by subst hO; rfl) (by conv => lhs; cbv) ?_
    exact Le.ret2 (by subst hO; rfl)
/-! ### loop.example/g00100/spec.NameOk -/
def spec_NameOk.e (r : Bool) : Res tab := (([], []), .one (.lit (.bool r)))
def spec_NameOk.l0 : Nat → ByteArray → Int → Option Bool
  | 0, _, _ => none
  | k + 1, a0, x_8 => (if x_8 < (a0.size : Int) then (if 0 ≤ x_8 then (if x_8 < (a0.size : Int) then ((spec_l01In.f (IntKind.wrap .i64 (std.sget a0 x_8)) 97 122).bind fun r9 => (if r9 = true then (spec_NameOk.l0 k a0 (IntKind.wrap .i64 (x_8 + 1))) else ((spec_l01In.f (IntKind.wrap .i64 (std.sget a0 x_8)) 65 90).bind fun r10 => (if r10 = true then (spec_NameOk.l0 k a0 (IntKind.wrap .i64 (x_8 + 1))) else ((spec_l01In.f (IntKind.wrap .i64 (std.sget a0 x_8)) 48 57).bind fun r11 => (if r11 = true then (spec_NameOk.l0 k a0 (IntKind.wrap .i64 (x_8 + 1))) else (if 0 ≤ x_8 then (if x_8 < (a0.size : Int) then (if (std.sget a0 x_8) = 46 then (spec_NameOk.l0 k a0 (IntKind.wrap .i64 (x_8 + 1))) else (if 0 ≤ x_8 then (if x_8 < (a0.size : Int) then (if (std.sget a0 x_8) = 95 then (spec_NameOk.l0 k a0 (IntKind.wrap .i64 (x_8 + 1))) else (if 0 ≤ x_8 then (if x_8 < (a0.size : Int) then (if (std.sget a0 x_8) = 45 then (spec_NameOk.l0 k a0 (IntKind.wrap .i64 (x_8 + 1))) else (some false)) else none) else none)) else none) else none)) else none) else none))))))) else none) else none) else (some true))
def spec_NameOk.f (k : Nat) (a0 : ByteArray) : Option Bool := ((spec_l01In.f (a0.size : Int) 1 20).bind fun r0 => (if r0 = true then (if a0 = (⟨#[46]⟩ : ByteArray) then (some false) else (if a0 = (⟨#[46, 46]⟩ : ByteArray) then (some false) else (spec_NameOk.l0 k a0 0))) else (some false)))
theorem spec_NameOk.le (O : Prim) (hO : O = std) (k : Nat) (a0 : ByteArray) : Le F O M fi102.kills spec_NameOk.e (spec_NameOk.f k a0) (den O M fi102.kills fi102.fn fi102.body (tab.gives 102) (M 102) [.one (.lit (.string a0))] : Tr tab) := by
  refine Le.eqS 0 (by conv => lhs; cbv) ?_
  unfold spec_NameOk.f
  refine Le.callC 0 (fi := fi67) rfl (spec_l01In.le O hO (O.ssize a0) 1 20) (by subst hO; rfl) (by intro r0; conv => lhs; cbv) ?_
  intro r0
  refine Le.condN 6 2 (by subst hO; exact Bool.decide_eq_true.trans (Bool.not_not _).symm) (by conv => lhs; cbv) (by conv => lhs; cbv) ?_ ?_
  · exact Le.ret2 (by subst hO; rfl)
  · refine Le.condP 3 2 (by subst hO; exact seq_dec _ _) (by conv => lhs; cbv) (by conv => lhs; cbv) ?_ ?_
    · exact Le.ret2 (by subst hO; rfl)
    · refine Le.condP 0 0 (by subst hO; exact seq_dec _ _) (by conv => lhs; cbv) (by conv => lhs; cbv) ?_ ?_
      · exact Le.ret2 (by subst hO; rfl)
      · refine Le.loopS (fun (n : Nat) (v : Int) => spec_NameOk.l0 n a0 v) (fun (x_8 : Int) => (⟨[], [.one (.lit (.string a0)), D_, D_, .one (.lit (.int .i64 x_8)), D_, D_, D_, D_, D_, D_, D_, D_, D_, D_, D_, D_, D_, D_, D_, D_, D_, D_, D_, D_, D_, D_, D_, D_, D_, D_, D_, D_, D_, D_, D_, D_, D_, D_, D_, D_, D_, D_, D_, D_, D_, D_, D_, D_, D_, D_, D_, D_, D_, D_, D_, D_, D_, D_], [[], [], [], [], [], [], [], [], [], [], [], [], [], [], [], [], [], [], [], [], [], [], [], [], [], [], [], [], [], [], [], [], [], [], [], [], [], [], [], [], [], [], [], [], [], [], [], [], [], [], [], [], [], [], [], [], [], [], []], []⟩ : S tab)) k 0 (by subst hO; rfl) rfl (fun _ => rfl) ?_
        intro n0 hn0 ih0 x_8
        refine Le.eqS 0 (by conv => lhs; cbv) ?_
        show Le F O M _ _ (spec_NameOk.l0 (n0 + 1) a0 x_8) _
        rw [spec_NameOk.l0]
        refine Le.condP 0 0 (by subst hO; rfl) (by conv => lhs; cbv) (by conv => lhs; cbv) ?_ ?_
        · refine Le.guardP 0 (by subst hO; rfl) (by conv => lhs; cbv) ?_
          refine Le.guardP 0 (by subst hO; rfl) (by conv => lhs; cbv) ?_
          refine Le.callC 0 (fi := fi67) rfl (spec_l01In.le O hO (O.wrap .i64 (O.sget a0 x_8)) 97 122) (by subst hO; rfl) (by intro r9; conv => lhs; cbv) ?_
          intro r9
          refine Le.condN 1 23 (by subst hO; exact Bool.decide_eq_true.trans (Bool.not_not _).symm) (by conv => lhs; cbv) (by conv => lhs; cbv) ?_ ?_
          · refine Le.callC 2 (fi := fi67) rfl (spec_l01In.le O hO (O.wrap .i64 (O.sget a0 x_8)) 65 90) (by subst hO; rfl) (by intro r10; conv => lhs; cbv) ?_
            intro r10
            refine Le.condN 1 19 (by subst hO; exact Bool.decide_eq_true.trans (Bool.not_not _).symm) (by conv => lhs; cbv) (by conv => lhs; cbv) ?_ ?_
            · refine Le.callC 2 (fi := fi67) rfl (spec_l01In.le O hO (O.wrap .i64 (O.sget a0 x_8)) 48 57) (by subst hO; rfl) (by intro r11; conv => lhs; cbv) ?_
              intro r11
              refine Le.condN 2 15 (by subst hO; exact Bool.decide_eq_true.trans (Bool.not_not _).symm) (by conv => lhs; cbv) (by conv => lhs; cbv) ?_ ?_
              · refine Le.guardP 0 (by subst hO; rfl) (by conv => lhs; cbv) ?_
                refine Le.guardP 2 (by subst hO; rfl) (by conv => lhs; cbv) ?_
                refine Le.condN 2 10 (by subst hO; exact (Bool.not_not _).symm) (by conv => lhs; cbv) (by conv => lhs; cbv) ?_ ?_
                · refine Le.guardP 0 (by subst hO; rfl) (by conv => lhs; cbv) ?_
                  refine Le.guardP 2 (by subst hO; rfl) (by conv => lhs; cbv) ?_
                  refine Le.condN 2 5 (by subst hO; exact (Bool.not_not _).symm) (by conv => lhs; cbv) (by conv => lhs; cbv) ?_ ?_
                  · refine Le.guardP 0 (by subst hO; rfl) (by conv => lhs; cbv) ?_
                    refine Le.guardP 2 (by subst hO; rfl) (by conv => lhs; cbv) ?_
                    refine Le.condN 0 0 (by subst hO; exact (Bool.not_not _).symm) (by conv => lhs; cbv) (by conv => lhs; cbv) ?_ ?_
                    · exact Le.ret2 (by subst hO; rfl)
                    · exact Le.again (ih0 n0 (by omega) (O.wrap .i64 (O.add x_8 1))) (by subst hO; rfl) rfl
                  · exact Le.again (ih0 n0 (by omega) (O.wrap .i64 (O.add x_8 1))) (by subst hO; rfl) rfl
                · exact Le.again (ih0 n0 (by omega) (O.wrap .i64 (O.add x_8 1))) (by subst hO; rfl) rfl
              · exact Le.again (ih0 n0 (by omega) (O.wrap .i64 (O.add x_8 1))) (by subst hO; rfl) rfl
            · exact Le.again (ih0 n0 (by omega) (O.wrap .i64 (O.add x_8 1))) (by subst hO; rfl) rfl
          · exact Le.again (ih0 n0 (by omega) (O.wrap .i64 (O.add x_8 1))) (by subst hO; rfl) rfl
        · exact Le.ret2 (by subst hO; rfl)
/-! ### loop.example/g00100/spec.PathOk -/
def spec_PathOk.e (r : Bool) : Res tab := (([], []), .one (.lit (.bool r)))
def spec_PathOk.l0 : Nat → (List ByteArray) → Int → Option Bool
  | 0, _, _ => none
  | k + 1, r0, x_4 => (if x_4 < (r0.length : Int) then (if 0 ≤ x_4 then (if x_4 < (r0.length : Int) then ((spec_NameOk.f k (r0.getD (Int.toNat x_4) (⟨#[]⟩ : ByteArray))).bind fun r5 => (if r5 = true then (spec_PathOk.l0 k r0 (IntKind.wrap .i64 (x_4 + 1))) else (some false))) else none) else none) else (some (decide ((r0.length : Int) ≤ 8))))
def spec_PathOk.f (k : Nat) (a0 : ByteArray) : Option Bool := (if 200 < (a0.size : Int) then (some false) else ((spec_l02Names.f k a0).bind fun r0 => (spec_PathOk.l0 k r0 0)))
theorem spec_PathOk.le (O : Prim) (hO : O = std) (k : Nat) (a0 : ByteArray) : Le F O M fi66.kills spec_PathOk.e (spec_PathOk.f k a0) (den O M fi66.kills fi66.fn fi66.body (tab.gives 66) (M 66) [.one (.lit (.string a0))] : Tr tab) := by
  refine Le.eqS 0 (by conv => lhs; cbv) ?_
  unfold spec_PathOk.f
  refine Le.condP 0 0 (by subst hO; rfl) (by conv => lhs; cbv) (by conv => lhs; cbv) ?_ ?_
  · exact Le.ret2 (by subst hO; rfl)
  · refine Le.callC 0 (fi := fi101) rfl (spec_l02Names.le O hO k a0) (by subst hO; rfl) (by intro r0; conv => lhs; cbv) ?_
    intro r0
    refine Le.loopS (fun (n : Nat) (v : Int) => spec_PathOk.l0 n r0 v) (fun (x_4 : Int) => (⟨[], [D_, D_, D_, .one (.own 9 r0), .one (.lit (.int .i64 x_4)), D_, D_, D_, D_, D_, D_, D_, D_, D_, D_, D_, D_, D_, D_, D_, D_, D_, D_, D_, D_], [[], [], [], [], [], [], [], [], [], [], [], [], [], [], [], [], [], [], [], [], [], [], [], [], [], []], []⟩ : S tab)) k 0 (by subst hO; rfl) rfl (fun _ => rfl) ?_
    intro n0 hn0 ih0 x_4
    refine Le.eqS 0 (by conv => lhs; cbv) ?_
    show Le F O M _ _ (spec_PathOk.l0 (n0 + 1) r0 x_4) _
    rw [spec_PathOk.l0]
    refine Le.condP 0 0 (by subst hO; rfl) (by conv => lhs; cbv) (by conv => lhs; cbv) ?_ ?_
    · refine Le.guardP 0 (by subst hO; rfl) (by conv => lhs; cbv) ?_
      refine Le.guardP 0 (by subst hO; rfl) (by conv => lhs; cbv) ?_
      refine Le.callC 0 (fi := fi102) rfl (spec_NameOk.le O hO n0 (O.get (⟨#[]⟩ : ByteArray) r0 x_4)) (by subst hO; rfl) (by intro r5; conv => lhs; cbv) ?_
      intro r5
      refine Le.condN 0 0 (by subst hO; exact Bool.decide_eq_true.trans (Bool.not_not _).symm) (by conv => lhs; cbv) (by conv => lhs; cbv) ?_ ?_
      · exact Le.ret2 (by subst hO; rfl)
      · exact Le.again (ih0 n0 (by omega) (O.wrap .i64 (O.add x_4 1))) (by subst hO; rfl) rfl
    · exact Le.ret2 (by subst hO; rfl)
/-! ### loop.example/g00100/spec.NodeOk -/
def spec_NodeOk.e (r : Bool) : Res tab := (([], []), .one (.lit (.bool r)))
def spec_NodeOk.l1 : Nat → GNode → Int → Option Bool
  | 0, _, _ => none
  | k + 1, a0, x_6 => (if x_6 < (a0.Target.size : Int) then (if 0 ≤ x_6 then (if x_6 < (a0.Target.size : Int) then (if (std.sget a0.Target x_6) = 10 then (some false) else (spec_NodeOk.l1 k a0 (IntKind.wrap .i64 (x_6 + 1)))) else none) else none) else (some true))
def spec_NodeOk.f (k : Nat) (a0 : GNode) : Option Bool := ((spec_PathOk.f k a0.Path).bind fun r0 => (if r0 = true then ((spec_l01In.f a0.Mode 0 511).bind fun r1 => (if r1 = true then ((spec_l01In.f a0.Time 0 1000000000).bind fun r2 => (if r2 = true then (if a0.Kind = 0 then (if a0.Data = (⟨#[]⟩ : ByteArray) then (if a0.Target = (⟨#[]⟩ : ByteArray) then (some (decide (a0.Group = 0))) else (some false)) else (some false)) else (if a0.Kind = 1 then (if (a0.Data.size : Int) ≤ 20000 then (if a0.Target = (⟨#[]⟩ : ByteArray) then ((spec_l01In.f a0.Group 0 200).bind fun r3 => (some r3)) else (some false)) else (some false)) else (if a0.Kind = 2 then (if a0.Data = (⟨#[]⟩ : ByteArray) then (if a0.Mode = 0 then (if a0.Group = 0 then ((spec_l01In.f (a0.Target.size : Int) 1 60).bind fun r4 => (if r4 = true then (spec_NodeOk.l1 k a0 0) else (some false))) else (some false)) else (some false)) else (some false)) else (some false)))) else (some false))) else (some false))) else (some false)))
theorem spec_NodeOk.le (O : Prim) (hO : O = std) (k : Nat) (a0 : GNode) : Le F O M fi34.kills spec_NodeOk.e (spec_NodeOk.f k a0) (den O M fi34.kills fi34.fn fi34.body (tab.gives 34) (M 34) [.agg [.lit (.string a0.Path), .lit (.int .i64 a0.Kind), .lit (.int .i64 a0.Mode), .lit (.int .i64 a0.Time), .lit (.string a0.Data), .lit (.string a0.Target), .lit (.int .i64 a0.Group)]] : Tr tab) := by
  refine Le.eqS 0 (by conv => lhs; cbv) ?_
  unfold spec_NodeOk.f
  refine Le.callC 0 (fi := fi66) rfl (spec_PathOk.le O hO k a0.Path) (by subst hO; rfl) (by intro r0; conv => lhs; cbv) ?_
  intro r0
  refine Le.condN 10 2 (by subst hO; exact Bool.decide_eq_true.trans (Bool.not_not _).symm) (by conv => lhs; cbv) (by conv => lhs; cbv) ?_ ?_
  · exact Le.ret2 (by subst hO; rfl)
  · refine Le.callC 2 (fi := fi67) rfl (spec_l01In.le O hO a0.Mode 0 511) (by subst hO; rfl) (by intro r1; conv => lhs; cbv) ?_
    intro r1
    refine Le.condN 5 2 (by subst hO; exact Bool.decide_eq_true.trans (Bool.not_not _).symm) (by conv => lhs; cbv) (by conv => lhs; cbv) ?_ ?_
    · exact Le.ret2 (by subst hO; rfl)
    · refine Le.callC 2 (fi := fi67) rfl (spec_l01In.le O hO a0.Time 0 1000000000) (by subst hO; rfl) (by intro r2; conv => lhs; cbv) ?_
      intro r2
      refine Le.condN 0 0 (by subst hO; exact Bool.decide_eq_true.trans (Bool.not_not _).symm) (by conv => lhs; cbv) (by conv => lhs; cbv) ?_ ?_
      · exact Le.ret2 (by subst hO; rfl)
      · refine Le.condP 0 0 (by subst hO; rfl) (by conv => lhs; cbv) (by conv => lhs; cbv) ?_ ?_
        · refine Le.condP 3 7 (by subst hO; exact seq_dec _ _) (by conv => lhs; cbv) (by conv => lhs; cbv) ?_ ?_
          · refine Le.condP 3 3 (by subst hO; exact seq_dec _ _) (by conv => lhs; cbv) (by conv => lhs; cbv) ?_ ?_
            · exact Le.ret2 (by subst hO; rfl)
            · exact Le.ret2 (by subst hO; rfl)
          · exact Le.ret2 (by subst hO; rfl)
        · refine Le.condP 0 0 (by subst hO; rfl) (by conv => lhs; cbv) (by conv => lhs; cbv) ?_ ?_
          · refine Le.condP 3 7 (by subst hO; rfl) (by conv => lhs; cbv) (by conv => lhs; cbv) ?_ ?_
            · refine Le.condP 2 3 (by subst hO; exact seq_dec _ _) (by conv => lhs; cbv) (by conv => lhs; cbv) ?_ ?_
              · refine Le.callC 1 (fi := fi67) rfl (spec_l01In.le O hO a0.Group 0 200) (by subst hO; rfl) (by intro r3; conv => lhs; cbv) ?_
                intro r3
                exact Le.ret2 (by subst hO; rfl)
              · exact Le.ret2 (by subst hO; rfl)
            · exact Le.ret2 (by subst hO; rfl)
          · refine Le.condP 0 0 (by subst hO; rfl) (by conv => lhs; cbv) (by conv => lhs; cbv) ?_ ?_
            · refine Le.condN 14 3 (by subst hO; exact (seq_dec _ _).trans (Bool.not_not _).symm) (by conv => lhs; cbv) (by conv => lhs; cbv) ?_ ?_
              · exact Le.ret2 (by subst hO; rfl)
              · refine Le.condN 10 3 (by subst hO; exact (Bool.not_not _).symm) (by conv => lhs; cbv) (by conv => lhs; cbv) ?_ ?_
                · exact Le.ret2 (by subst hO; rfl)
                · refine Le.condN 6 3 (by subst hO; exact (Bool.not_not _).symm) (by conv => lhs; cbv) (by conv => lhs; cbv) ?_ ?_
                  · exact Le.ret2 (by subst hO; rfl)
                  · refine Le.callC 2 (fi := fi67) rfl (spec_l01In.le O hO (O.ssize a0.Target) 1 60) (by subst hO; rfl) (by intro r4; conv => lhs; cbv) ?_
                    intro r4
                    refine Le.condN 0 0 (by subst hO; exact Bool.decide_eq_true.trans (Bool.not_not _).symm) (by conv => lhs; cbv) (by conv => lhs; cbv) ?_ ?_
                    · exact Le.ret2 (by subst hO; rfl)
                    · refine Le.loopS (fun (n : Nat) (v : Int) => spec_NodeOk.l1 n a0 v) (fun (x_6 : Int) => (⟨[], [D_, .one (.ptr ⟨5, 0, []⟩), D_, .one (.lit (.int .i64 x_6)), D_, D_, D_, D_, D_, D_, D_, D_, D_, D_, D_, D_, D_, D_, D_, D_, D_, D_, D_, D_, D_, D_, D_, D_, D_, D_, D_, D_, D_, D_, D_, D_, D_, D_, D_, D_, D_, D_, D_, D_, D_, D_, D_, D_, D_, D_, D_, D_, D_, D_, D_, D_, D_, D_, D_, D_, D_, D_, D_, D_, D_, D_, D_, D_, D_, D_, D_, D_, D_, D_, D_, D_, D_, D_, D_, D_, D_, D_, D_, D_, D_, D_, D_], [[], [.lit (.string a0.Path), .lit (.int .i64 a0.Kind), .lit (.int .i64 a0.Mode), .lit (.int .i64 a0.Time), .lit (.string a0.Data), .lit (.string a0.Target), .lit (.int .i64 a0.Group)], [], [], [], [], [], [], [], [], [], [], [], [], [], [], [], [], [], [], [], [], [], [], [], [], [], [], [], [], [], [], [], [], [], [], [], [], [], [], [], [], [], [], [], [], [], [], [], [], [], [], [], [], [], [], [], [], [], [], [], [], [], [], [], [], [], [], [], [], [], [], [], [], [], [], [], [], [], [], [], [], [], [], [], [], [], []], []⟩ : S tab)) k 0 (by subst hO; rfl) rfl (fun _ => rfl) ?_
                      intro n1 hn1 ih1 x_6
                      refine Le.eqS 0 (by conv => lhs; cbv) ?_
                      show Le F O M _ _ (spec_NodeOk.l1 (n1 + 1) a0 x_6) _
                      rw [spec_NodeOk.l1]
                      refine Le.condP 0 0 (by subst hO; rfl) (by conv => lhs; cbv) (by conv => lhs; cbv) ?_ ?_
                      · refine Le.guardP 0 (by subst hO; rfl) (by conv => lhs; cbv) ?_
                        refine Le.guardP 0 (by subst hO; rfl) (by conv => lhs; cbv) ?_
                        refine Le.condP 0 0 (by subst hO; rfl) (by conv => lhs; cbv) (by conv => lhs; cbv) ?_ ?_
                        · exact Le.ret2 (by subst hO; rfl)
                        · exact Le.again (ih1 n1 (by omega) (O.wrap .i64 (O.add x_6 1))) (by subst hO; rfl) rfl
                      · exact Le.ret2 (by subst hO; rfl)
            · exact Le.ret2 (by subst hO; rfl)
/-! ### loop.example/g00100/spec.HexText -/
def spec_HexText.e (r : ByteArray) : Res tab := (([], []), .one (.lit (.string r)))
def spec_HexText.l0 : Nat → (List Int) → (List Int) → Int → Option ByteArray
  | 0, _, _, _ => none
  | k + 1, a0, x_2, x_3 => (if x_3 < (a0.length : Int) then (if 0 ≤ x_3 then (if x_3 < (a0.length : Int) then (if 16 = 0 then none else (if 0 ≤ (IntKind.wrap .u8 (Int.tdiv (a0.getD (Int.toNat x_3) 0) 16)) then (if (IntKind.wrap .u8 (Int.tdiv (a0.getD (Int.toNat x_3) 0) 16)) < ((⟨#[48, 49, 50, 51, 52, 53, 54, 55, 56, 57, 97, 98, 99, 100, 101, 102]⟩ : ByteArray).size : Int) then (if 0 ≤ x_3 then (if x_3 < (a0.length : Int) then (if 16 = 0 then none else (if 0 ≤ (Int.tmod (a0.getD (Int.toNat x_3) 0) 16) then (if (Int.tmod (a0.getD (Int.toNat x_3) 0) 16) < ((⟨#[48, 49, 50, 51, 52, 53, 54, 55, 56, 57, 97, 98, 99, 100, 101, 102]⟩ : ByteArray).size : Int) then (if (((x_2.length : Int) + ([(std.sget (⟨#[48, 49, 50, 51, 52, 53, 54, 55, 56, 57, 97, 98, 99, 100, 101, 102]⟩ : ByteArray) (IntKind.wrap .u8 (Int.tdiv (a0.getD (Int.toNat x_3) 0) 16))), (std.sget (⟨#[48, 49, 50, 51, 52, 53, 54, 55, 56, 57, 97, 98, 99, 100, 101, 102]⟩ : ByteArray) (Int.tmod (a0.getD (Int.toNat x_3) 0) 16))].length : Int)) * 1) ≤ 140737488351232 then (spec_HexText.l0 k a0 (x_2 ++ [(std.sget (⟨#[48, 49, 50, 51, 52, 53, 54, 55, 56, 57, 97, 98, 99, 100, 101, 102]⟩ : ByteArray) (IntKind.wrap .u8 (Int.tdiv (a0.getD (Int.toNat x_3) 0) 16))), (std.sget (⟨#[48, 49, 50, 51, 52, 53, 54, 55, 56, 57, 97, 98, 99, 100, 101, 102]⟩ : ByteArray) (Int.tmod (a0.getD (Int.toNat x_3) 0) 16))]) (IntKind.wrap .i64 (x_3 + 1))) else none) else none) else none)) else none) else none) else none) else none)) else none) else none) else (some (std.strOf x_2)))
def spec_HexText.f (k : Nat) (a0 : List Int) : Option ByteArray := (if 20000 < (a0.length : Int) then (some (⟨#[]⟩ : ByteArray)) else (spec_HexText.l0 k a0 ([] : List Int) 0))
theorem spec_HexText.le (O : Prim) (hO : O = std) (k : Nat) (a0 : List Int) : Le F O M fi68.kills spec_HexText.e (spec_HexText.f k a0) (den O M fi68.kills fi68.fn fi68.body (tab.gives 68) (M 68) [.one (.imm 5 a0)] : Tr tab) := by
  refine Le.eqS 0 (by conv => lhs; cbv) ?_
  unfold spec_HexText.f
  refine Le.condP 0 0 (by subst hO; rfl) (by conv => lhs; cbv) (by conv => lhs; cbv) ?_ ?_
  · exact Le.ret2 (by subst hO; rfl)
  · refine Le.loopS (fun (n : Nat) (v : List Int × Int) => spec_HexText.l0 n a0 v.1 v.2) (fun (v : List Int × Int) => match v with | (x_2, x_3) => (⟨[], [.one (.imm 5 a0), D_, D_, .one (.own 5 x_2), .one (.lit (.int .i64 x_3)), D_, D_, D_, D_, D_, D_, D_, D_, D_, D_, D_, D_, D_, D_, D_, D_, D_, D_, D_, D_, D_, D_, D_, D_, D_, D_, D_], [[], [], [], [], [], [], [], [], [], [], [], [], [], [], [], [], [], [], [], [], [], [], [], [], [], [], [], [], [], [], [], [], []], []⟩ : S tab)) k (([] : List Int), 0) (by subst hO; rfl) rfl (fun _ => rfl) ?_
    intro n0 hn0 ih0 v0
    obtain ⟨x_2, x_3⟩ := v0
    refine Le.eqS 0 (by conv => lhs; cbv) ?_
    show Le F O M _ _ (spec_HexText.l0 (n0 + 1) a0 x_2 x_3) _
    rw [spec_HexText.l0]
    refine Le.condP 0 0 (by subst hO; rfl) (by conv => lhs; cbv) (by conv => lhs; cbv) ?_ ?_
    · refine Le.guardP 0 (by subst hO; rfl) (by conv => lhs; cbv) ?_
      refine Le.guardP 0 (by subst hO; rfl) (by conv => lhs; cbv) ?_
      refine Le.guardN 0 (by subst hO; rfl) (by conv => lhs; cbv) ?_
      refine Le.guardP 0 (by subst hO; rfl) (by conv => lhs; cbv) ?_
      refine Le.guardP 0 (by subst hO; rfl) (by conv => lhs; cbv) ?_
      refine Le.guardP 0 (by subst hO; rfl) (by conv => lhs; cbv) ?_
      refine Le.guardP 0 (by subst hO; rfl) (by conv => lhs; cbv) ?_
      refine Le.guardN 0 (by subst hO; rfl) (by conv => lhs; cbv) ?_
      refine Le.guardP 0 (by subst hO; rfl) (by conv => lhs; cbv) ?_
      refine Le.guardP 0 (by subst hO; rfl) (by conv => lhs; cbv) ?_
      refine Le.guardP 0 (by subst hO; rfl) (by conv => lhs; cbv) ?_
      exact Le.again (ih0 n0 (by omega) ((O.app x_2 [(O.sget (⟨#[48, 49, 50, 51, 52, 53, 54, 55, 56, 57, 97, 98, 99, 100, 101, 102]⟩ : ByteArray) (O.wrap .u8 (O.quo (O.get 0 a0 x_3) 16))), (O.sget (⟨#[48, 49, 50, 51, 52, 53, 54, 55, 56, 57, 97, 98, 99, 100, 101, 102]⟩ : ByteArray) (O.rem (O.get 0 a0 x_3) 16))]), (O.wrap .i64 (O.add x_3 1)))) (by subst hO; rfl) rfl
    · exact Le.ret2 (by subst hO; rfl)
/-! ### loop.example/g00100/spec.l20Hex -/
def spec_l20Hex.e (r : ByteArray) : Res tab := (([], []), .one (.lit (.string r)))
def spec_l20Hex.f (k : Nat) (a0 : ByteArray) : Option ByteArray := (if a0 = (⟨#[]⟩ : ByteArray) then (some (⟨#[45]⟩ : ByteArray)) else (if (a0.size : Int) ≤ 140737488351232 then ((spec_HexText.f k (std.bytesOf a0)).bind fun r0 => (some r0)) else none))
theorem spec_l20Hex.le (O : Prim) (hO : O = std) (k : Nat) (a0 : ByteArray) : Le F O M fi36.kills spec_l20Hex.e (spec_l20Hex.f k a0) (den O M fi36.kills fi36.fn fi36.body (tab.gives 36) (M 36) [.one (.lit (.string a0))] : Tr tab) := by
  refine Le.eqS 0 (by conv => lhs; cbv) ?_
  unfold spec_l20Hex.f
  refine Le.condP 0 0 (by subst hO; exact seq_dec _ _) (by conv => lhs; cbv) (by conv => lhs; cbv) ?_ ?_
  · exact Le.ret2 (by subst hO; rfl)
  · refine Le.guardP 0 (by subst hO; rfl) (by conv => lhs; cbv) ?_
    refine Le.callC 0 (fi := fi68) rfl (spec_HexText.le O hO k (O.bytesOf a0)) (by subst hO; rfl) (by intro r0; conv => lhs; cbv) ?_
    intro r0
    exact Le.ret2 (by subst hO; rfl)
/-! ### loop.example/g00100/spec.ShowNode -/
def spec_ShowNode.e (r : ByteArray) : Res tab := (([], []), .one (.lit (.string r)))
def spec_ShowNode.f (k : Nat) (a0 : GNode) : Option ByteArray := ((spec_NodeOk.f k a0).bind fun r0 => (if r0 = true then (if a0.Kind = 0 then (if (((⟨#[100, 32]⟩ : ByteArray).size : Int) + (a0.Path.size : Int)) ≤ 140737488351232 then (if ((((⟨#[100, 32]⟩ : ByteArray) ++ a0.Path).size : Int) + ((⟨#[32]⟩ : ByteArray).size : Int)) ≤ 140737488351232 then ((spec_DecText.f k a0.Mode).bind fun r1 => (if (((((⟨#[100, 32]⟩ : ByteArray) ++ a0.Path) ++ (⟨#[32]⟩ : ByteArray)).size : Int) + (r1.size : Int)) ≤ 140737488351232 then (if ((((((⟨#[100, 32]⟩ : ByteArray) ++ a0.Path) ++ (⟨#[32]⟩ : ByteArray)) ++ r1).size : Int) + ((⟨#[32]⟩ : ByteArray).size : Int)) ≤ 140737488351232 then ((spec_DecText.f k a0.Time).bind fun r2 => (if (((((((⟨#[100, 32]⟩ : ByteArray) ++ a0.Path) ++ (⟨#[32]⟩ : ByteArray)) ++ r1) ++ (⟨#[32]⟩ : ByteArray)).size : Int) + (r2.size : Int)) ≤ 140737488351232 then (some ((((((⟨#[100, 32]⟩ : ByteArray) ++ a0.Path) ++ (⟨#[32]⟩ : ByteArray)) ++ r1) ++ (⟨#[32]⟩ : ByteArray)) ++ r2)) else none)) else none) else none)) else none) else none) else (if a0.Kind = 1 then (if (((⟨#[102, 32]⟩ : ByteArray).size : Int) + (a0.Path.size : Int)) ≤ 140737488351232 then (if ((((⟨#[102, 32]⟩ : ByteArray) ++ a0.Path).size : Int) + ((⟨#[32]⟩ : ByteArray).size : Int)) ≤ 140737488351232 then ((spec_DecText.f k a0.Mode).bind fun r3 => (if (((((⟨#[102, 32]⟩ : ByteArray) ++ a0.Path) ++ (⟨#[32]⟩ : ByteArray)).size : Int) + (r3.size : Int)) ≤ 140737488351232 then (if ((((((⟨#[102, 32]⟩ : ByteArray) ++ a0.Path) ++ (⟨#[32]⟩ : ByteArray)) ++ r3).size : Int) + ((⟨#[32]⟩ : ByteArray).size : Int)) ≤ 140737488351232 then ((spec_DecText.f k a0.Time).bind fun r4 => (if (((((((⟨#[102, 32]⟩ : ByteArray) ++ a0.Path) ++ (⟨#[32]⟩ : ByteArray)) ++ r3) ++ (⟨#[32]⟩ : ByteArray)).size : Int) + (r4.size : Int)) ≤ 140737488351232 then (if ((((((((⟨#[102, 32]⟩ : ByteArray) ++ a0.Path) ++ (⟨#[32]⟩ : ByteArray)) ++ r3) ++ (⟨#[32]⟩ : ByteArray)) ++ r4).size : Int) + ((⟨#[32]⟩ : ByteArray).size : Int)) ≤ 140737488351232 then ((spec_DecText.f k a0.Group).bind fun r5 => (if (((((((((⟨#[102, 32]⟩ : ByteArray) ++ a0.Path) ++ (⟨#[32]⟩ : ByteArray)) ++ r3) ++ (⟨#[32]⟩ : ByteArray)) ++ r4) ++ (⟨#[32]⟩ : ByteArray)).size : Int) + (r5.size : Int)) ≤ 140737488351232 then (if ((((((((((⟨#[102, 32]⟩ : ByteArray) ++ a0.Path) ++ (⟨#[32]⟩ : ByteArray)) ++ r3) ++ (⟨#[32]⟩ : ByteArray)) ++ r4) ++ (⟨#[32]⟩ : ByteArray)) ++ r5).size : Int) + ((⟨#[32]⟩ : ByteArray).size : Int)) ≤ 140737488351232 then ((spec_l20Hex.f k a0.Data).bind fun r6 => (if (((((((((((⟨#[102, 32]⟩ : ByteArray) ++ a0.Path) ++ (⟨#[32]⟩ : ByteArray)) ++ r3) ++ (⟨#[32]⟩ : ByteArray)) ++ r4) ++ (⟨#[32]⟩ : ByteArray)) ++ r5) ++ (⟨#[32]⟩ : ByteArray)).size : Int) + (r6.size : Int)) ≤ 140737488351232 then (some ((((((((((⟨#[102, 32]⟩ : ByteArray) ++ a0.Path) ++ (⟨#[32]⟩ : ByteArray)) ++ r3) ++ (⟨#[32]⟩ : ByteArray)) ++ r4) ++ (⟨#[32]⟩ : ByteArray)) ++ r5) ++ (⟨#[32]⟩ : ByteArray)) ++ r6)) else none)) else none) else none)) else none) else none)) else none) else none)) else none) else none) else (if (((⟨#[108, 32]⟩ : ByteArray).size : Int) + (a0.Path.size : Int)) ≤ 140737488351232 then (if ((((⟨#[108, 32]⟩ : ByteArray) ++ a0.Path).size : Int) + ((⟨#[32]⟩ : ByteArray).size : Int)) ≤ 140737488351232 then ((spec_DecText.f k a0.Time).bind fun r7 => (if (((((⟨#[108, 32]⟩ : ByteArray) ++ a0.Path) ++ (⟨#[32]⟩ : ByteArray)).size : Int) + (r7.size : Int)) ≤ 140737488351232 then (if ((((((⟨#[108, 32]⟩ : ByteArray) ++ a0.Path) ++ (⟨#[32]⟩ : ByteArray)) ++ r7).size : Int) + ((⟨#[32]⟩ : ByteArray).size : Int)) ≤ 140737488351232 then ((spec_l20Hex.f k a0.Target).bind fun r8 => (if (((((((⟨#[108, 32]⟩ : ByteArray) ++ a0.Path) ++ (⟨#[32]⟩ : ByteArray)) ++ r7) ++ (⟨#[32]⟩ : ByteArray)).size : Int) + (r8.size : Int)) ≤ 140737488351232 then (some ((((((⟨#[108, 32]⟩ : ByteArray) ++ a0.Path) ++ (⟨#[32]⟩ : ByteArray)) ++ r7) ++ (⟨#[32]⟩ : ByteArray)) ++ r8)) else none)) else none) else none)) else none) else none))) else (some (⟨#[]⟩ : ByteArray))))
theorem spec_ShowNode.le (O : Prim) (hO : O = std) (k : Nat) (a0 : GNode) : Le F O M fi9.kills spec_ShowNode.e (spec_ShowNode.f k a0) (den O M fi9.kills fi9.fn fi9.body (tab.gives 9) (M 9) [.agg [.lit (.string a0.Path), .lit (.int .i64 a0.Kind), .lit (.int .i64 a0.Mode), .lit (.int .i64 a0.Time), .lit (.string a0.Data), .lit (.string a0.Target), .lit (.int .i64 a0.Group)]] : Tr tab) := by
  refine Le.eqS 0 (by conv => lhs; cbv) ?_
  unfold spec_ShowNode.f
  refine Le.callC 0 (fi := fi34) rfl (spec_NodeOk.le O hO k a0) (by subst hO; rfl) (by intro r0; conv => lhs; cbv) ?_
  intro r0
  refine Le.condN 0 0 (by subst hO; exact Bool.decide_eq_true.trans (Bool.not_not _).symm) (by conv => lhs; cbv) (by conv => lhs; cbv) ?_ ?_
  · exact Le.ret2 (by subst hO; rfl)
  · refine Le.condP 0 0 (by subst hO; rfl) (by conv => lhs; cbv) (by conv => lhs; cbv) ?_ ?_
    · refine Le.guardP 0 (by subst hO; rfl) (by conv => lhs; cbv) ?_
      refine Le.guardP 0 (by subst hO; rfl) (by conv => lhs; cbv) ?_
      refine Le.callC 0 (fi := fi35) rfl (spec_DecText.le O hO k a0.Mode) (by subst hO; rfl) (by intro r1; conv => lhs; cbv) ?_
      intro r1
      refine Le.guardP 0 (by subst hO; rfl) (by conv => lhs; cbv) ?_
      refine Le.guardP 0 (by subst hO; rfl) (by conv => lhs; cbv) ?_
      refine Le.callC 0 (fi := fi35) rfl (spec_DecText.le O hO k a0.Time) (by subst hO; rfl) (by intro r2; conv => lhs; cbv) ?_
      intro r2
      refine Le.guardP 0 (by subst hO; rfl) (by conv => lhs; cbv) ?_
      exact Le.ret2 (by subst hO; rfl)
    · refine Le.condP 0 0 (by subst hO; rfl) (by conv => lhs; cbv) (by conv => lhs; cbv) ?_ ?_
      · refine Le.guardP 0 (by subst hO; rfl) (by conv => lhs; cbv) ?_
        refine Le.guardP 0 (by subst hO; rfl) (by conv => lhs; cbv) ?_
        refine Le.callC 0 (fi := fi35) rfl (spec_DecText.le O hO k a0.Mode) (by subst hO; rfl) (by intro r3; conv => lhs; cbv) ?_
        intro r3
        refine Le.guardP 0 (by subst hO; rfl) (by conv => lhs; cbv) ?_
        refine Le.guardP 0 (by subst hO; rfl) (by conv => lhs; cbv) ?_
        refine Le.callC 0 (fi := fi35) rfl (spec_DecText.le O hO k a0.Time) (by subst hO; rfl) (by intro r4; conv => lhs; cbv) ?_
        intro r4
        refine Le.guardP 0 (by subst hO; rfl) (by conv => lhs; cbv) ?_
        refine Le.guardP 0 (by subst hO; rfl) (by conv => lhs; cbv) ?_
        refine Le.callC 0 (fi := fi35) rfl (spec_DecText.le O hO k a0.Group) (by subst hO; rfl) (by intro r5; conv => lhs; cbv) ?_
        intro r5
        refine Le.guardP 0 (by subst hO; rfl) (by conv => lhs; cbv) ?_
        refine Le.guardP 0 (by subst hO; rfl) (by conv => lhs; cbv) ?_
        refine Le.callC 0 (fi := fi36) rfl (spec_l20Hex.le O hO k a0.Data) (by subst hO; rfl) (by intro r6; conv => lhs; cbv) ?_
        intro r6
        refine Le.guardP 0 (by subst hO; rfl) (by conv => lhs; cbv) ?_
        exact Le.ret2 (by subst hO; rfl)
      · refine Le.guardP 0 (by subst hO; rfl) (by conv => lhs; cbv) ?_
        refine Le.guardP 0 (by subst hO; rfl) (by conv => lhs; cbv) ?_
        refine Le.callC 0 (fi := fi35) rfl (spec_DecText.le O hO k a0.Time) (by subst hO; rfl) (by intro r7; conv => lhs; cbv) ?_
        intro r7
        refine Le.guardP 0 (by subst hO; rfl) (by conv => lhs; cbv) ?_
        refine Le.guardP 0 (by subst hO; rfl) (by conv => lhs; cbv) ?_
        refine Le.callC 0 (fi := fi36) rfl (spec_l20Hex.le O hO k a0.Target) (by subst hO; rfl) (by intro r8; conv => lhs; cbv) ?_
        intro r8
        refine Le.guardP 0 (by subst hO; rfl) (by conv => lhs; cbv) ?_
        exact Le.ret2 (by subst hO; rfl)
/-! ### loop.example/g00100/spec.l01Digit -/
def spec_l01Digit.e (r : Int) : Res tab := (([], []), .one (.lit (.int .i64 r)))
def spec_l01Digit.f (a0 : Int) : Option Int := ((spec_l01In.f (IntKind.wrap .i64 a0) 48 57).bind fun r0 => (if r0 = true then (some (IntKind.wrap .i64 ((IntKind.wrap .i64 a0) - 48))) else ((spec_l01In.f (IntKind.wrap .i64 a0) 97 102).bind fun r1 => (if r1 = true then (some (IntKind.wrap .i64 ((IntKind.wrap .i64 a0) - 87))) else (some (-1))))))
theorem spec_l01Digit.le (O : Prim) (hO : O = std) (a0 : Int) : Le F O M fi117.kills spec_l01Digit.e (spec_l01Digit.f a0) (den O M fi117.kills fi117.fn fi117.body (tab.gives 117) (M 117) [.one (.lit (.int .u8 a0))] : Tr tab) := by
  refine Le.eqS 0 (by conv => lhs; cbv) ?_
  unfold spec_l01Digit.f
  refine Le.callC 0 (fi := fi67) rfl (spec_l01In.le O hO (O.wrap .i64 a0) 48 57) (by subst hO; rfl) (by intro r0; conv => lhs; cbv) ?_
  intro r0
  refine Le.condP 0 0 (by subst hO; exact Bool.decide_eq_true) (by conv => lhs; cbv) (by conv => lhs; cbv) ?_ ?_
  · exact Le.ret2 (by subst hO; rfl)
  · refine Le.callC 0 (fi := fi67) rfl (spec_l01In.le O hO (O.wrap .i64 a0) 97 102) (by subst hO; rfl) (by intro r1; conv => lhs; cbv) ?_
    intro r1
    refine Le.condP 0 0 (by subst hO; exact Bool.decide_eq_true) (by conv => lhs; cbv) (by conv => lhs; cbv) ?_ ?_
    · exact Le.ret2 (by subst hO; rfl)
    · exact Le.ret2 (by subst hO; rfl)
/-! ### loop.example/g00100/spec.HexBytes -/
def spec_HexBytes.e (r : List Int × Bool) : Res tab := (([], []), .tup [(false, [.own 5 r.1]), (false, [.lit (.bool r.2)])])
def spec_HexBytes.l0 : Nat → ByteArray → (List Int) → Int → Option (List Int × Bool)
  | 0, _, _, _ => none
  | k + 1, a0, x_6, x_7 => (if x_7 < (a0.size : Int) then (if 0 ≤ x_7 then (if x_7 < (a0.size : Int) then (if 0 ≤ (IntKind.wrap .i64 (x_7 + 1)) then (if (IntKind.wrap .i64 (x_7 + 1)) < (a0.size : Int) then ((spec_l01Digit.f (std.sget a0 x_7)).bind fun r8 => ((spec_l01Digit.f (std.sget a0 (IntKind.wrap .i64 (x_7 + 1)))).bind fun r9 => (if r8 < 0 then (some (([] : List Int), false)) else (if r9 < 0 then (some (([] : List Int), false)) else (if (((x_6.length : Int) + ([(IntKind.wrap .u8 (IntKind.wrap .i64 ((IntKind.wrap .i64 (16 * r8)) + r9)))].length : Int)) * 1) ≤ 140737488351232 then (spec_HexBytes.l0 k a0 (x_6 ++ [(IntKind.wrap .u8 (IntKind.wrap .i64 ((IntKind.wrap .i64 (16 * r8)) + r9)))]) (IntKind.wrap .i64 (x_7 + 2))) else none))))) else none) else none) else none) else none) else (some (x_6, true)))
def spec_HexBytes.f (k : Nat) (a0 : ByteArray) : Option (List Int × Bool) := (if 2 = 0 then none else (if (Int.tmod (a0.size : Int) 2) = 0 then (if 40000 < (a0.size : Int) then (some (([] : List Int), false)) else (spec_HexBytes.l0 k a0 ([] : List Int) 0)) else (some (([] : List Int), false))))
theorem spec_HexBytes.le (O : Prim) (hO : O = std) (k : Nat) (a0 : ByteArray) : Le F O M fi97.kills spec_HexBytes.e (spec_HexBytes.f k a0) (den O M fi97.kills fi97.fn fi97.body (tab.gives 97) (M 97) [.one (.lit (.string a0))] : Tr tab) := by
  refine Le.eqS 0 (by conv => lhs; cbv) ?_
  unfold spec_HexBytes.f
  refine Le.guardN 0 (by subst hO; rfl) (by conv => lhs; cbv) ?_
  refine Le.condN 4 3 (by subst hO; exact (Bool.not_not _).symm) (by conv => lhs; cbv) (by conv => lhs; cbv) ?_ ?_
  · exact Le.ret2 (by subst hO; rfl)
  · refine Le.condP 0 0 (by subst hO; rfl) (by conv => lhs; cbv) (by conv => lhs; cbv) ?_ ?_
    · exact Le.ret2 (by subst hO; rfl)
    · refine Le.loopS (fun (n : Nat) (v : List Int × Int) => spec_HexBytes.l0 n a0 v.1 v.2) (fun (v : List Int × Int) => match v with | (x_6, x_7) => (⟨[], [.one (.lit (.string a0)), D_, D_, D_, .one (.own 5 x_6), .one (.lit (.int .i64 x_7)), D_, D_, D_, D_, D_, D_, D_, D_, D_, D_, D_, D_, D_, D_, D_, D_, D_, D_, D_, D_, D_, D_, D_, D_, D_, D_, D_, D_, D_, D_, D_, D_, D_, D_, D_, D_, D_, D_, D_, D_, D_, D_, D_, D_], [[], [], [], [], [], [], [], [], [], [], [], [], [], [], [], [], [], [], [], [], [], [], [], [], [], [], [], [], [], [], [], [], [], [], [], [], [], [], [], [], [], [], [], [], [], [], [], [], [], [], []], []⟩ : S tab)) k (([] : List Int), 0) (by subst hO; rfl) rfl (fun _ => rfl) ?_
      intro n0 hn0 ih0 v0
      obtain ⟨x_6, x_7⟩ := v0
      refine Le.eqS 0 (by conv => lhs; cbv) ?_
      show Le F O M _ _ (spec_HexBytes.l0 (n0 + 1) a0 x_6 x_7) _
      rw [spec_HexBytes.l0]
      refine Le.condP 0 0 (by subst hO; rfl) (by conv => lhs; cbv) (by conv => lhs; cbv) ?_ ?_
      · refine Le.guardP 0 (by subst hO; rfl) (by conv => lhs; cbv) ?_
        refine Le.guardP 0 (by subst hO; rfl) (by conv => lhs; cbv) ?_
        refine Le.guardP 0 (by subst hO; rfl) (by conv => lhs; cbv) ?_
        refine Le.guardP 0 (by subst hO; rfl) (by conv => lhs; cbv) ?_
        refine Le.callC 0 (fi := fi117) rfl (spec_l01Digit.le O hO (O.sget a0 x_7)) (by subst hO; rfl) (by intro r8; conv => lhs; cbv) ?_
        intro r8
        refine Le.callC 0 (fi := fi117) rfl (spec_l01Digit.le O hO (O.sget a0 (O.wrap .i64 (O.add x_7 1)))) (by subst hO; rfl) (by intro r9; conv => lhs; cbv) ?_
        intro r9
        refine Le.condP 3 2 (by subst hO; rfl) (by conv => lhs; cbv) (by conv => lhs; cbv) ?_ ?_
        · exact Le.ret2 (by subst hO; rfl)
        · refine Le.condP 0 0 (by subst hO; rfl) (by conv => lhs; cbv) (by conv => lhs; cbv) ?_ ?_
          · exact Le.ret2 (by subst hO; rfl)
          · refine Le.guardP 0 (by subst hO; rfl) (by conv => lhs; cbv) ?_
            exact Le.again (ih0 n0 (by omega) ((O.app x_6 [(O.wrap .u8 (O.wrap .i64 (O.add (O.wrap .i64 (O.mul 16 r8)) r9)))]), (O.wrap .i64 (O.add x_7 2)))) (by subst hO; rfl) rfl
      · exact Le.ret2 (by subst hO; rfl)
/-! ### loop.example/g00100/spec.l20Unhex -/
def spec_l20Unhex.e (r : ByteArray) : Res tab := (([], []), .one (.lit (.string r)))
def spec_l20Unhex.f (k : Nat) (a0 : ByteArray) : Option ByteArray := (if a0 = (⟨#[45]⟩ : ByteArray) then (some (⟨#[]⟩ : ByteArray)) else ((spec_HexBytes.f k a0).bind fun r0 => (some (std.strOf r0.1))))
theorem spec_l20Unhex.le (O : Prim) (hO : O = std) (k : Nat) (a0 : ByteArray) : Le F O M fi61.kills spec_l20Unhex.e (spec_l20Unhex.f k a0) (den O M fi61.kills fi61.fn fi61.body (tab.gives 61) (M 61) [.one (.lit (.string a0))] : Tr tab) := by
  refine Le.eqS 0 (by conv => lhs; cbv) ?_
  unfold spec_l20Unhex.f
  refine Le.condP 0 0 (by subst hO; exact seq_dec _ _) (by conv => lhs; cbv) (by conv => lhs; cbv) ?_ ?_
  · exact Le.ret2 (by subst hO; rfl)
  · refine Le.callC 0 (fi := fi97) rfl (spec_HexBytes.le O hO k a0) (by subst hO; rfl) (by intro r0; conv => lhs; cbv) ?_
    intro r0
    exact Le.ret2 (by subst hO; rfl)
/-! ### loop.example/g00100/spec.ReadNode -/
def spec_ReadNode.e (r : GNode × Bool) : Res tab := (([], []), .tup [(true, [.lit (.string r.1.Path), .lit (.int .i64 r.1.Kind), .lit (.int .i64 r.1.Mode), .lit (.int .i64 r.1.Time), .lit (.string r.1.Data), .lit (.string r.1.Target), .lit (.int .i64 r.1.Group)]), (false, [.lit (.bool r.2)])])
def spec_ReadNode.l0 : Nat → ByteArray → (List ByteArray) → (List Int) → Int → Option (GNode × Bool)
  | 0, _, _, _, _ => none
  | k + 1, a0, r0, x_5, x_6 => (if x_6 < (r0.length : Int) then (if 0 ≤ x_6 then (if x_6 < (r0.length : Int) then ((spec_DecNum.f k (r0.getD (Int.toNat x_6) (⟨#[]⟩ : ByteArray)) 1000000000).bind fun r7 => (if (((x_5.length : Int) + ([r7.1].length : Int)) * 8) ≤ 140737488351232 then (spec_ReadNode.l0 k a0 r0 (x_5 ++ [r7.1]) (IntKind.wrap .i64 (x_6 + 1))) else none)) else none) else none) else (if (r0.length : Int) = 4 then (if 0 ≤ 0 then (if 0 < (r0.length : Int) then (if (r0.getD (Int.toNat 0) (⟨#[]⟩ : ByteArray)) = (⟨#[100]⟩ : ByteArray) then (if 0 ≤ 1 then (if 1 < (r0.length : Int) then (if 0 ≤ 2 then (if 2 < (x_5.length : Int) then (if 0 ≤ 3 then (if 3 < (x_5.length : Int) then (if a0 = (⟨#[]⟩ : ByteArray) then (some ((⟨(⟨#[]⟩ : ByteArray), 0, 0, 0, (⟨#[]⟩ : ByteArray), (⟨#[]⟩ : ByteArray), 0⟩ : GNode), false)) else ((spec_ShowNode.f k (⟨(r0.getD (Int.toNat 1) (⟨#[]⟩ : ByteArray)), 0, (x_5.getD (Int.toNat 2) 0), (x_5.getD (Int.toNat 3) 0), (⟨#[]⟩ : ByteArray), (⟨#[]⟩ : ByteArray), 0⟩ : GNode)).bind fun r8 => (if r8 = a0 then (some ((⟨(r0.getD (Int.toNat 1) (⟨#[]⟩ : ByteArray)), 0, (x_5.getD (Int.toNat 2) 0), (x_5.getD (Int.toNat 3) 0), (⟨#[]⟩ : ByteArray), (⟨#[]⟩ : ByteArray), 0⟩ : GNode), true)) else (some ((⟨(⟨#[]⟩ : ByteArray), 0, 0, 0, (⟨#[]⟩ : ByteArray), (⟨#[]⟩ : ByteArray), 0⟩ : GNode), false))))) else none) else none) else none) else none) else none) else none) else (if (r0.length : Int) = 6 then (if 0 ≤ 0 then (if 0 < (r0.length : Int) then (if (r0.getD (Int.toNat 0) (⟨#[]⟩ : ByteArray)) = (⟨#[102]⟩ : ByteArray) then (if 0 ≤ 1 then (if 1 < (r0.length : Int) then (if 0 ≤ 2 then (if 2 < (x_5.length : Int) then (if 0 ≤ 3 then (if 3 < (x_5.length : Int) then (if 0 ≤ 4 then (if 4 < (x_5.length : Int) then (if 0 ≤ 5 then (if 5 < (r0.length : Int) then ((spec_l20Unhex.f k (r0.getD (Int.toNat 5) (⟨#[]⟩ : ByteArray))).bind fun r9 => (if a0 = (⟨#[]⟩ : ByteArray) then (some ((⟨(⟨#[]⟩ : ByteArray), 0, 0, 0, (⟨#[]⟩ : ByteArray), (⟨#[]⟩ : ByteArray), 0⟩ : GNode), false)) else ((spec_ShowNode.f k (⟨(r0.getD (Int.toNat 1) (⟨#[]⟩ : ByteArray)), 1, (x_5.getD (Int.toNat 2) 0), (x_5.getD (Int.toNat 3) 0), r9, (⟨#[]⟩ : ByteArray), (x_5.getD (Int.toNat 4) 0)⟩ : GNode)).bind fun r10 => (if r10 = a0 then (some ((⟨(r0.getD (Int.toNat 1) (⟨#[]⟩ : ByteArray)), 1, (x_5.getD (Int.toNat 2) 0), (x_5.getD (Int.toNat 3) 0), r9, (⟨#[]⟩ : ByteArray), (x_5.getD (Int.toNat 4) 0)⟩ : GNode), true)) else (some ((⟨(⟨#[]⟩ : ByteArray), 0, 0, 0, (⟨#[]⟩ : ByteArray), (⟨#[]⟩ : ByteArray), 0⟩ : GNode), false)))))) else none) else none) else none) else none) else none) else none) else none) else none) else none) else none) else (if (r0.length : Int) = 4 then (if 0 ≤ 0 then (if 0 < (r0.length : Int) then (if (r0.getD (Int.toNat 0) (⟨#[]⟩ : ByteArray)) = (⟨#[108]⟩ : ByteArray) then (if 0 ≤ 1 then (if 1 < (r0.length : Int) then (if 0 ≤ 2 then (if 2 < (x_5.length : Int) then (if 0 ≤ 3 then (if 3 < (r0.length : Int) then ((spec_l20Unhex.f k (r0.getD (Int.toNat 3) (⟨#[]⟩ : ByteArray))).bind fun r11 => (if a0 = (⟨#[]⟩ : ByteArray) then (some ((⟨(⟨#[]⟩ : ByteArray), 0, 0, 0, (⟨#[]⟩ : ByteArray), (⟨#[]⟩ : ByteArray), 0⟩ : GNode), false)) else ((spec_ShowNode.f k (⟨(r0.getD (Int.toNat 1) (⟨#[]⟩ : ByteArray)), 2, 0, (x_5.getD (Int.toNat 2) 0), (⟨#[]⟩ : ByteArray), r11, 0⟩ : GNode)).bind fun r12 => (if r12 = a0 then (some ((⟨(r0.getD (Int.toNat 1) (⟨#[]⟩ : ByteArray)), 2, 0, (x_5.getD (Int.toNat 2) 0), (⟨#[]⟩ : ByteArray), r11, 0⟩ : GNode), true)) else (some ((⟨(⟨#[]⟩ : ByteArray), 0, 0, 0, (⟨#[]⟩ : ByteArray), (⟨#[]⟩ : ByteArray), 0⟩ : GNode), false)))))) else none) else none) else none) else none) else none) else none) else (if a0 = (⟨#[]⟩ : ByteArray) then (some ((⟨(⟨#[]⟩ : ByteArray), 0, 0, 0, (⟨#[]⟩ : ByteArray), (⟨#[]⟩ : ByteArray), 0⟩ : GNode), false)) else ((spec_ShowNode.f k (⟨(⟨#[]⟩ : ByteArray), 0, 0, 0, (⟨#[]⟩ : ByteArray), (⟨#[]⟩ : ByteArray), 0⟩ : GNode)).bind fun r13 => (if r13 = a0 then (some ((⟨(⟨#[]⟩ : ByteArray), 0, 0, 0, (⟨#[]⟩ : ByteArray), (⟨#[]⟩ : ByteArray), 0⟩ : GNode), true)) else (some ((⟨(⟨#[]⟩ : ByteArray), 0, 0, 0, (⟨#[]⟩ : ByteArray), (⟨#[]⟩ : ByteArray), 0⟩ : GNode), false)))))) else none) else none) else (if a0 = (⟨#[]⟩ : ByteArray) then (some ((⟨(⟨#[]⟩ : ByteArray), 0, 0, 0, (⟨#[]⟩ : ByteArray), (⟨#[]⟩ : ByteArray), 0⟩ : GNode), false)) else ((spec_ShowNode.f k (⟨(⟨#[]⟩ : ByteArray), 0, 0, 0, (⟨#[]⟩ : ByteArray), (⟨#[]⟩ : ByteArray), 0⟩ : GNode)).bind fun r14 => (if r14 = a0 then (some ((⟨(⟨#[]⟩ : ByteArray), 0, 0, 0, (⟨#[]⟩ : ByteArray), (⟨#[]⟩ : ByteArray), 0⟩ : GNode), true)) else (some ((⟨(⟨#[]⟩ : ByteArray), 0, 0, 0, (⟨#[]⟩ : ByteArray), (⟨#[]⟩ : ByteArray), 0⟩ : GNode), false))))))) else none) else none) else (if (r0.length : Int) = 4 then (if 0 ≤ 0 then (if 0 < (r0.length : Int) then (if (r0.getD (Int.toNat 0) (⟨#[]⟩ : ByteArray)) = (⟨#[108]⟩ : ByteArray) then (if 0 ≤ 1 then (if 1 < (r0.length : Int) then (if 0 ≤ 2 then (if 2 < (x_5.length : Int) then (if 0 ≤ 3 then (if 3 < (r0.length : Int) then ((spec_l20Unhex.f k (r0.getD (Int.toNat 3) (⟨#[]⟩ : ByteArray))).bind fun r15 => (if a0 = (⟨#[]⟩ : ByteArray) then (some ((⟨(⟨#[]⟩ : ByteArray), 0, 0, 0, (⟨#[]⟩ : ByteArray), (⟨#[]⟩ : ByteArray), 0⟩ : GNode), false)) else ((spec_ShowNode.f k (⟨(r0.getD (Int.toNat 1) (⟨#[]⟩ : ByteArray)), 2, 0, (x_5.getD (Int.toNat 2) 0), (⟨#[]⟩ : ByteArray), r15, 0⟩ : GNode)).bind fun r16 => (if r16 = a0 then (some ((⟨(r0.getD (Int.toNat 1) (⟨#[]⟩ : ByteArray)), 2, 0, (x_5.getD (Int.toNat 2) 0), (⟨#[]⟩ : ByteArray), r15, 0⟩ : GNode), true)) else (some ((⟨(⟨#[]⟩ : ByteArray), 0, 0, 0, (⟨#[]⟩ : ByteArray), (⟨#[]⟩ : ByteArray), 0⟩ : GNode), false)))))) else none) else none) else none) else none) else none) else none) else (if a0 = (⟨#[]⟩ : ByteArray) then (some ((⟨(⟨#[]⟩ : ByteArray), 0, 0, 0, (⟨#[]⟩ : ByteArray), (⟨#[]⟩ : ByteArray), 0⟩ : GNode), false)) else ((spec_ShowNode.f k (⟨(⟨#[]⟩ : ByteArray), 0, 0, 0, (⟨#[]⟩ : ByteArray), (⟨#[]⟩ : ByteArray), 0⟩ : GNode)).bind fun r17 => (if r17 = a0 then (some ((⟨(⟨#[]⟩ : ByteArray), 0, 0, 0, (⟨#[]⟩ : ByteArray), (⟨#[]⟩ : ByteArray), 0⟩ : GNode), true)) else (some ((⟨(⟨#[]⟩ : ByteArray), 0, 0, 0, (⟨#[]⟩ : ByteArray), (⟨#[]⟩ : ByteArray), 0⟩ : GNode), false)))))) else none) else none) else (if a0 = (⟨#[]⟩ : ByteArray) then (some ((⟨(⟨#[]⟩ : ByteArray), 0, 0, 0, (⟨#[]⟩ : ByteArray), (⟨#[]⟩ : ByteArray), 0⟩ : GNode), false)) else ((spec_ShowNode.f k (⟨(⟨#[]⟩ : ByteArray), 0, 0, 0, (⟨#[]⟩ : ByteArray), (⟨#[]⟩ : ByteArray), 0⟩ : GNode)).bind fun r18 => (if r18 = a0 then (some ((⟨(⟨#[]⟩ : ByteArray), 0, 0, 0, (⟨#[]⟩ : ByteArray), (⟨#[]⟩ : ByteArray), 0⟩ : GNode), true)) else (some ((⟨(⟨#[]⟩ : ByteArray), 0, 0, 0, (⟨#[]⟩ : ByteArray), (⟨#[]⟩ : ByteArray), 0⟩ : GNode), false)))))))) else none) else none) else (if (r0.length : Int) = 6 then (if 0 ≤ 0 then (if 0 < (r0.length : Int) then (if (r0.getD (Int.toNat 0) (⟨#[]⟩ : ByteArray)) = (⟨#[102]⟩ : ByteArray) then (if 0 ≤ 1 then (if 1 < (r0.length : Int) then (if 0 ≤ 2 then (if 2 < (x_5.length : Int) then (if 0 ≤ 3 then (if 3 < (x_5.length : Int) then (if 0 ≤ 4 then (if 4 < (x_5.length : Int) then (if 0 ≤ 5 then (if 5 < (r0.length : Int) then ((spec_l20Unhex.f k (r0.getD (Int.toNat 5) (⟨#[]⟩ : ByteArray))).bind fun r19 => (if a0 = (⟨#[]⟩ : ByteArray) then (some ((⟨(⟨#[]⟩ : ByteArray), 0, 0, 0, (⟨#[]⟩ : ByteArray), (⟨#[]⟩ : ByteArray), 0⟩ : GNode), false)) else ((spec_ShowNode.f k (⟨(r0.getD (Int.toNat 1) (⟨#[]⟩ : ByteArray)), 1, (x_5.getD (Int.toNat 2) 0), (x_5.getD (Int.toNat 3) 0), r19, (⟨#[]⟩ : ByteArray), (x_5.getD (Int.toNat 4) 0)⟩ : GNode)).bind fun r20 => (if r20 = a0 then (some ((⟨(r0.getD (Int.toNat 1) (⟨#[]⟩ : ByteArray)), 1, (x_5.getD (Int.toNat 2) 0), (x_5.getD (Int.toNat 3) 0), r19, (⟨#[]⟩ : ByteArray), (x_5.getD (Int.toNat 4) 0)⟩ : GNode), true)) else (some ((⟨(⟨#[]⟩ : ByteArray), 0, 0, 0, (⟨#[]⟩ : ByteArray), (⟨#[]⟩ : ByteArray), 0⟩ : GNode), false)))))) else none) else none) else none) else none) else none) else none) else none) else none) else none) else none) else (if (r0.length : Int) = 4 then (if 0 ≤ 0 then (if 0 < (r0.length : Int) then (if (r0.getD (Int.toNat 0) (⟨#[]⟩ : ByteArray)) = (⟨#[108]⟩ : ByteArray) then (if 0 ≤ 1 then (if 1 < (r0.length : Int) then (if 0 ≤ 2 then (if 2 < (x_5.length : Int) then (if 0 ≤ 3 then (if 3 < (r0.length : Int) then ((spec_l20Unhex.f k (r0.getD (Int.toNat 3) (⟨#[]⟩ : ByteArray))).bind fun r21 => (if a0 = (⟨#[]⟩ : ByteArray) then (some ((⟨(⟨#[]⟩ : ByteArray), 0, 0, 0, (⟨#[]⟩ : ByteArray), (⟨#[]⟩ : ByteArray), 0⟩ : GNode), false)) else ((spec_ShowNode.f k (⟨(r0.getD (Int.toNat 1) (⟨#[]⟩ : ByteArray)), 2, 0, (x_5.getD (Int.toNat 2) 0), (⟨#[]⟩ : ByteArray), r21, 0⟩ : GNode)).bind fun r22 => (if r22 = a0 then (some ((⟨(r0.getD (Int.toNat 1) (⟨#[]⟩ : ByteArray)), 2, 0, (x_5.getD (Int.toNat 2) 0), (⟨#[]⟩ : ByteArray), r21, 0⟩ : GNode), true)) else (some ((⟨(⟨#[]⟩ : ByteArray), 0, 0, 0, (⟨#[]⟩ : ByteArray), (⟨#[]⟩ : ByteArray), 0⟩ : GNode), false)))))) else none) else none) else none) else none) else none) else none) else (if a0 = (⟨#[]⟩ : ByteArray) then (some ((⟨(⟨#[]⟩ : ByteArray), 0, 0, 0, (⟨#[]⟩ : ByteArray), (⟨#[]⟩ : ByteArray), 0⟩ : GNode), false)) else ((spec_ShowNode.f k (⟨(⟨#[]⟩ : ByteArray), 0, 0, 0, (⟨#[]⟩ : ByteArray), (⟨#[]⟩ : ByteArray), 0⟩ : GNode)).bind fun r23 => (if r23 = a0 then (some ((⟨(⟨#[]⟩ : ByteArray), 0, 0, 0, (⟨#[]⟩ : ByteArray), (⟨#[]⟩ : ByteArray), 0⟩ : GNode), true)) else (some ((⟨(⟨#[]⟩ : ByteArray), 0, 0, 0, (⟨#[]⟩ : ByteArray), (⟨#[]⟩ : ByteArray), 0⟩ : GNode), false)))))) else none) else none) else (if a0 = (⟨#[]⟩ : ByteArray) then (some ((⟨(⟨#[]⟩ : ByteArray), 0, 0, 0, (⟨#[]⟩ : ByteArray), (⟨#[]⟩ : ByteArray), 0⟩ : GNode), false)) else ((spec_ShowNode.f k (⟨(⟨#[]⟩ : ByteArray), 0, 0, 0, (⟨#[]⟩ : ByteArray), (⟨#[]⟩ : ByteArray), 0⟩ : GNode)).bind fun r24 => (if r24 = a0 then (some ((⟨(⟨#[]⟩ : ByteArray), 0, 0, 0, (⟨#[]⟩ : ByteArray), (⟨#[]⟩ : ByteArray), 0⟩ : GNode), true)) else (some ((⟨(⟨#[]⟩ : ByteArray), 0, 0, 0, (⟨#[]⟩ : ByteArray), (⟨#[]⟩ : ByteArray), 0⟩ : GNode), false))))))) else none) else none) else (if (r0.length : Int) = 4 then (if 0 ≤ 0 then (if 0 < (r0.length : Int) then (if (r0.getD (Int.toNat 0) (⟨#[]⟩ : ByteArray)) = (⟨#[108]⟩ : ByteArray) then (if 0 ≤ 1 then (if 1 < (r0.length : Int) then (if 0 ≤ 2 then (if 2 < (x_5.length : Int) then (if 0 ≤ 3 then (if 3 < (r0.length : Int) then ((spec_l20Unhex.f k (r0.getD (Int.toNat 3) (⟨#[]⟩ : ByteArray))).bind fun r25 => (if a0 = (⟨#[]⟩ : ByteArray) then (some ((⟨(⟨#[]⟩ : ByteArray), 0, 0, 0, (⟨#[]⟩ : ByteArray), (⟨#[]⟩ : ByteArray), 0⟩ : GNode), false)) else ((spec_ShowNode.f k (⟨(r0.getD (Int.toNat 1) (⟨#[]⟩ : ByteArray)), 2, 0, (x_5.getD (Int.toNat 2) 0), (⟨#[]⟩ : ByteArray), r25, 0⟩ : GNode)).bind fun r26 => (if r26 = a0 then (some ((⟨(r0.getD (Int.toNat 1) (⟨#[]⟩ : ByteArray)), 2, 0, (x_5.getD (Int.toNat 2) 0), (⟨#[]⟩ : ByteArray), r25, 0⟩ : GNode), true)) else (some ((⟨(⟨#[]⟩ : ByteArray), 0, 0, 0, (⟨#[]⟩ : ByteArray), (⟨#[]⟩ : ByteArray), 0⟩ : GNode), false)))))) else none) else none) else none) else none) else none) else none) else (if a0 = (⟨#[]⟩ : ByteArray) then (some ((⟨(⟨#[]⟩ : ByteArray), 0, 0, 0, (⟨#[]⟩ : ByteArray), (⟨#[]⟩ : ByteArray), 0⟩ : GNode), false)) else ((spec_ShowNode.f k (⟨(⟨#[]⟩ : ByteArray), 0, 0, 0, (⟨#[]⟩ : ByteArray), (⟨#[]⟩ : ByteArray), 0⟩ : GNode)).bind fun r27 => (if r27 = a0 then (some ((⟨(⟨#[]⟩ : ByteArray), 0, 0, 0, (⟨#[]⟩ : ByteArray), (⟨#[]⟩ : ByteArray), 0⟩ : GNode), true)) else (some ((⟨(⟨#[]⟩ : ByteArray), 0, 0, 0, (⟨#[]⟩ : ByteArray), (⟨#[]⟩ : ByteArray), 0⟩ : GNode), false)))))) else none) else none) else (if a0 = (⟨#[]⟩ : ByteArray) then (some ((⟨(⟨#[]⟩ : ByteArray), 0, 0, 0, (⟨#[]⟩ : ByteArray), (⟨#[]⟩ : ByteArray), 0⟩ : GNode), false)) else ((spec_ShowNode.f k (⟨(⟨#[]⟩ : ByteArray), 0, 0, 0, (⟨#[]⟩ : ByteArray), (⟨#[]⟩ : ByteArray), 0⟩ : GNode)).bind fun r28 => (if r28 = a0 then (some ((⟨(⟨#[]⟩ : ByteArray), 0, 0, 0, (⟨#[]⟩ : ByteArray), (⟨#[]⟩ : ByteArray), 0⟩ : GNode), true)) else (some ((⟨(⟨#[]⟩ : ByteArray), 0, 0, 0, (⟨#[]⟩ : ByteArray), (⟨#[]⟩ : ByteArray), 0⟩ : GNode), false)))))))))
def spec_ReadNode.f (k : Nat) (a0 : ByteArray) : Option (GNode × Bool) := ((spec_l01Split.f k a0).bind fun r0 => (spec_ReadNode.l0 k a0 r0 ([] : List Int) 0))
theorem spec_ReadNode.le (O : Prim) (hO : O = std) (k : Nat) (a0 : ByteArray) : Le F O M fi31.kills spec_ReadNode.e (spec_ReadNode.f k a0) (den O M fi31.kills fi31.fn fi31.body (tab.gives 31) (M 31) [.one (.lit (.string a0))] : Tr tab) := by
  refine Le.eqS 0 (by conv => lhs; cbv) ?_
  unfold spec_ReadNode.f
  refine Le.callC 0 (fi := fi59) rfl (spec_l01Split.le O hO k a0) (by subst hO; rfl) (by intro r0; conv => lhs; cbv) ?_
  intro r0
  refine Le.loopS (fun (n : Nat) (v : List Int × Int) => spec_ReadNode.l0 n a0 r0 v.1 v.2) (fun (v : List Int × Int) => match v with | (x_5, x_6) => (⟨[], [.one (.lit (.string a0)), D_, .one (.ptr ⟨7, 0, []⟩), D_, .one (.own 9 r0), .one (.own 3 x_5), .one (.lit (.int .i64 x_6)), D_, D_, D_, D_, D_, D_, D_, D_, D_, D_, D_, D_, D_, D_, D_, D_, D_, D_, D_, D_, D_, D_, D_, D_, D_, D_, D_, D_, D_, D_, D_, D_, D_, D_, D_, D_, D_, D_, D_, D_, D_, D_, D_, D_, D_, D_, D_, D_, D_, D_, D_, D_, D_, D_, D_, D_, D_, D_, D_, D_, D_, D_, D_, D_, D_, D_, D_, D_, D_, D_, D_, D_, D_, D_, D_, D_, D_, D_, D_, D_, D_, D_, D_, D_, D_, D_, D_, D_, D_, D_, D_, D_, D_, D_, D_, D_, D_, D_, D_, D_, D_, D_, D_], [[], [], [.lit (.string (⟨#[]⟩ : ByteArray)), .lit (.int .i64 0), .lit (.int .i64 0), .lit (.int .i64 0), .lit (.string (⟨#[]⟩ : ByteArray)), .lit (.string (⟨#[]⟩ : ByteArray)), .lit (.int .i64 0)], [], [], [], [], [], [], [], [], [], [], [], [], [], [], [], [], [], [], [], [], [], [], [], [], [], [], [], [], [], [], [], [], [], [], [], [], [], [], [], [], [], [], [], [], [], [], [], [], [], [], [], [], [], [], [], [], [], [], [], [], [], [], [], [], [], [], [], [], [], [], [], [], [], [], [], [], [], [], [], [], [], [], [], [], [], [], [], [], [], [], [], [], [], [], [], [], [], [], [], [], [], [], [], [], [], [], [], []], []⟩ : S tab)) k (([] : List Int), 0) (by subst hO; rfl) rfl (fun _ => rfl) ?_
  intro n0 hn0 ih0 v0
  obtain ⟨x_5, x_6⟩ := v0
  refine Le.eqS 0 (by conv => lhs; cbv) ?_
  show Le F O M _ _ (spec_ReadNode.l0 (n0 + 1) a0 r0 x_5 x_6) _
  rw [spec_ReadNode.l0]
  refine Le.condP 0 0 (by subst hO; rfl) (by conv => lhs; cbv) (by conv => lhs; cbv) ?_ ?_
  · refine Le.guardP 0 (by subst hO; rfl) (by conv => lhs; cbv) ?_
    refine Le.guardP 0 (by subst hO; rfl) (by conv => lhs; cbv) ?_
    refine Le.callC 0 (fi := fi60) rfl (spec_DecNum.le O hO n0 (O.get (⟨#[]⟩ : ByteArray) r0 x_6) 1000000000) (by subst hO; rfl) (by intro r7; conv => lhs; cbv) ?_
    intro r7
    refine Le.guardP 0 (by subst hO; rfl) (by conv => lhs; cbv) ?_
    exact Le.again (ih0 n0 (by omega) ((O.app x_5 [r7.1]), (O.wrap .i64 (O.add x_6 1)))) (by subst hO; rfl) rfl
  · refine Le.condP 1 5 (by subst hO; rfl) (by conv => lhs; cbv) (by conv => lhs; cbv) ?_ ?_
    · refine Le.guardP 0 (by subst hO; rfl) (by conv => lhs; cbv) ?_
      refine Le.guardP 3 (by subst hO; rfl) (by conv => lhs; cbv) ?_
      refine Le.condP 0 0 (by subst hO; exact seq_dec _ _) (by conv => lhs; cbv) (by conv => lhs; cbv) ?_ ?_
      · refine Le.guardP 0 (by subst hO; rfl) (by conv => lhs; cbv) ?_
        refine Le.guardP 0 (by subst hO; rfl) (by conv => lhs; cbv) ?_
        refine Le.guardP 0 (by subst hO; rfl) (by conv => lhs; cbv) ?_
        refine Le.guardP 0 (by subst hO; rfl) (by conv => lhs; cbv) ?_
        refine Le.guardP 0 (by subst hO; rfl) (by conv => lhs; cbv) ?_
        refine Le.guardP 0 (by subst hO; rfl) (by conv => lhs; cbv) ?_
        refine Le.condP 5 1 (by subst hO; exact seq_dec _ _) (by conv => lhs; cbv) (by conv => lhs; cbv) ?_ ?_
        · exact Le.ret2 (by subst hO; rfl)
        · refine Le.callC 3 (fi := fi9) rfl (spec_ShowNode.le O hO n0 (⟨(O.get (⟨#[]⟩ : ByteArray) r0 1), 0, (O.get 0 x_5 2), (O.get 0 x_5 3), (⟨#[]⟩ : ByteArray), (⟨#[]⟩ : ByteArray), 0⟩ : GNode)) (by subst hO; rfl) (by intro r8; conv => lhs; cbv) ?_
          intro r8
          refine Le.condN 0 0 (by subst hO; exact (seq_dec _ _).trans (Bool.not_not _).symm) (by conv => lhs; cbv) (by conv => lhs; cbv) ?_ ?_
          · exact Le.ret2 (by subst hO; rfl)
          · exact Le.ret2 (by subst hO; rfl)
      · refine Le.condP 1 5 (by subst hO; rfl) (by conv => lhs; cbv) (by conv => lhs; cbv) ?_ ?_
        · refine Le.guardP 0 (by subst hO; rfl) (by conv => lhs; cbv) ?_
          refine Le.guardP 3 (by subst hO; rfl) (by conv => lhs; cbv) ?_
          refine Le.condP 0 0 (by subst hO; exact seq_dec _ _) (by conv => lhs; cbv) (by conv => lhs; cbv) ?_ ?_
          · refine Le.guardP 0 (by subst hO; rfl) (by conv => lhs; cbv) ?_
            refine Le.guardP 0 (by subst hO; rfl) (by conv => lhs; cbv) ?_
            refine Le.guardP 0 (by subst hO; rfl) (by conv => lhs; cbv) ?_
            refine Le.guardP 0 (by subst hO; rfl) (by conv => lhs; cbv) ?_
            refine Le.guardP 0 (by subst hO; rfl) (by conv => lhs; cbv) ?_
            refine Le.guardP 0 (by subst hO; rfl) (by conv => lhs; cbv) ?_
            refine Le.guardP 0 (by subst hO; rfl) (by conv => lhs; cbv) ?_
            refine Le.guardP 0 (by subst hO; rfl) (by conv => lhs; cbv) ?_
            refine Le.guardP 0 (by subst hO; rfl) (by conv => lhs; cbv) ?_
            refine Le.guardP 0 (by subst hO; rfl) (by conv => lhs; cbv) ?_
            refine Le.callC 0 (fi := fi61) rfl (spec_l20Unhex.le O hO n0 (O.get (⟨#[]⟩ : ByteArray) r0 5)) (by subst hO; rfl) (by intro r9; conv => lhs; cbv) ?_
            intro r9
            refine Le.condP 5 1 (by subst hO; exact seq_dec _ _) (by conv => lhs; cbv) (by conv => lhs; cbv) ?_ ?_
            · exact Le.ret2 (by subst hO; rfl)
            · refine Le.callC 3 (fi := fi9) rfl (spec_ShowNode.le O hO n0 (⟨(O.get (⟨#[]⟩ : ByteArray) r0 1), 1, (O.get 0 x_5 2), (O.get 0 x_5 3), r9, (⟨#[]⟩ : ByteArray), (O.get 0 x_5 4)⟩ : GNode)) (by subst hO; rfl) (by intro r10; conv => lhs; cbv) ?_
              intro r10
              refine Le.condN 0 0 (by subst hO; exact (seq_dec _ _).trans (Bool.not_not _).symm) (by conv => lhs; cbv) (by conv => lhs; cbv) ?_ ?_
              · exact Le.ret2 (by subst hO; rfl)
              · exact Le.ret2 (by subst hO; rfl)
          · refine Le.condP 1 5 (by subst hO; rfl) (by conv => lhs; cbv) (by conv => lhs; cbv) ?_ ?_
            · refine Le.guardP 0 (by subst hO; rfl) (by conv => lhs; cbv) ?_
              refine Le.guardP 3 (by subst hO; rfl) (by conv => lhs; cbv) ?_
              refine Le.condP 0 0 (by subst hO; exact seq_dec _ _) (by conv => lhs; cbv) (by conv => lhs; cbv) ?_ ?_
              · refine Le.guardP 0 (by subst hO; rfl) (by conv => lhs; cbv) ?_
                refine Le.guardP 0 (by subst hO; rfl) (by conv => lhs; cbv) ?_
                refine Le.guardP 0 (by subst hO; rfl) (by conv => lhs; cbv) ?_
                refine Le.guardP 0 (by subst hO; rfl) (by conv => lhs; cbv) ?_
                refine Le.guardP 0 (by subst hO; rfl) (by conv => lhs; cbv) ?_
                refine Le.guardP 0 (by subst hO; rfl) (by conv => lhs; cbv) ?_
                refine Le.callC 0 (fi := fi61) rfl (spec_l20Unhex.le O hO n0 (O.get (⟨#[]⟩ : ByteArray) r0 3)) (by subst hO; rfl) (by intro r11; conv => lhs; cbv) ?_
                intro r11
                refine Le.condP 5 1 (by subst hO; exact seq_dec _ _) (by conv => lhs; cbv) (by conv => lhs; cbv) ?_ ?_
                · exact Le.ret2 (by subst hO; rfl)
                · refine Le.callC 3 (fi := fi9) rfl (spec_ShowNode.le O hO n0 (⟨(O.get (⟨#[]⟩ : ByteArray) r0 1), 2, 0, (O.get 0 x_5 2), (⟨#[]⟩ : ByteArray), r11, 0⟩ : GNode)) (by subst hO; rfl) (by intro r12; conv => lhs; cbv) ?_
                  intro r12
                  refine Le.condN 0 0 (by subst hO; exact (seq_dec _ _).trans (Bool.not_not _).symm) (by conv => lhs; cbv) (by conv => lhs; cbv) ?_ ?_
                  · exact Le.ret2 (by subst hO; rfl)
                  · exact Le.ret2 (by subst hO; rfl)
              · refine Le.condP 5 1 (by subst hO; exact seq_dec _ _) (by conv => lhs; cbv) (by conv => lhs; cbv) ?_ ?_
                · exact Le.ret2 (by subst hO; rfl)
                · refine Le.callC 3 (fi := fi9) rfl (spec_ShowNode.le O hO n0 (⟨(⟨#[]⟩ : ByteArray), 0, 0, 0, (⟨#[]⟩ : ByteArray), (⟨#[]⟩ : ByteArray), 0⟩ : GNode)) (by subst hO; rfl) (by intro r13; conv => lhs; cbv) ?_
                  intro r13
                  refine Le.condN 0 0 (by subst hO; exact (seq_dec _ _).trans (Bool.not_not _).symm) (by conv => lhs; cbv) (by conv => lhs; cbv) ?_ ?_
                  · exact Le.ret2 (by subst hO; rfl)
                  · exact Le.ret2 (by subst hO; rfl)
            · refine Le.condP 5 1 (by subst hO; exact seq_dec _ _) (by conv => lhs; cbv) (by conv => lhs; cbv) ?_ ?_
              · exact Le.ret2 (by subst hO; rfl)
              · refine Le.callC 3 (fi := fi9) rfl (spec_ShowNode.le O hO n0 (⟨(⟨#[]⟩ : ByteArray), 0, 0, 0, (⟨#[]⟩ : ByteArray), (⟨#[]⟩ : ByteArray), 0⟩ : GNode)) (by subst hO; rfl) (by intro r14; conv => lhs; cbv) ?_
                intro r14
                refine Le.condN 0 0 (by subst hO; exact (seq_dec _ _).trans (Bool.not_not _).symm) (by conv => lhs; cbv) (by conv => lhs; cbv) ?_ ?_
                · exact Le.ret2 (by subst hO; rfl)
                · exact Le.ret2 (by subst hO; rfl)
        · refine Le.condP 1 5 (by subst hO; rfl) (by conv => lhs; cbv) (by conv => lhs; cbv) ?_ ?_
          · refine Le.guardP 0 (by subst hO; rfl) (by conv => lhs; cbv) ?_
            refine Le.guardP 3 (by subst hO; rfl) (by conv => lhs; cbv) ?_
            refine Le.condP 0 0 (by subst hO; exact seq_dec _ _) (by conv => lhs; cbv) (by conv => lhs; cbv) ?_ ?_
            · refine Le.guardP 0 (by subst hO; rfl) (by conv => lhs; cbv) ?_
              refine Le.guardP 0 (by subst hO; rfl) (by conv => lhs; cbv) ?_
              refine Le.guardP 0 (by subst hO; rfl) (by conv => lhs; cbv) ?_
              refine Le.guardP 0 (by subst hO; rfl) (by conv => lhs; cbv) ?_
              refine Le.guardP 0 (by subst hO; rfl) (by conv => lhs; cbv) ?_
              refine Le.guardP 0 (by subst hO; rfl) (by conv => lhs; cbv) ?_
              refine Le.callC 0 (fi := fi61) rfl (spec_l20Unhex.le O hO n0 (O.get (⟨#[]⟩ : ByteArray) r0 3)) (by subst hO; rfl) (by intro r15; conv => lhs; cbv) ?_
              intro r15
              refine Le.condP 5 1 (by subst hO; exact seq_dec _ _) (by conv => lhs; cbv) (by conv => lhs; cbv) ?_ ?_
              · exact Le.ret2 (by subst hO; rfl)
              · refine Le.callC 3 (fi := fi9) rfl (spec_ShowNode.le O hO n0 (⟨(O.get (⟨#[]⟩ : ByteArray) r0 1), 2, 0, (O.get 0 x_5 2), (⟨#[]⟩ : ByteArray), r15, 0⟩ : GNode)) (by subst hO; rfl) (by intro r16; conv => lhs; cbv) ?_
                intro r16
                refine Le.condN 0 0 (by subst hO; exact (seq_dec _ _).trans (Bool.not_not _).symm) (by conv => lhs; cbv) (by conv => lhs; cbv) ?_ ?_
                · exact Le.ret2 (by subst hO; rfl)
                · exact Le.ret2 (by subst hO; rfl)
            · refine Le.condP 5 1 (by subst hO; exact seq_dec _ _) (by conv => lhs; cbv) (by conv => lhs; cbv) ?_ ?_
              · exact Le.ret2 (by subst hO; rfl)
              · refine Le.callC 3 (fi := fi9) rfl (spec_ShowNode.le O hO n0 (⟨(⟨#[]⟩ : ByteArray), 0, 0, 0, (⟨#[]⟩ : ByteArray), (⟨#[]⟩ : ByteArray), 0⟩ : GNode)) (by subst hO; rfl) (by intro r17; conv => lhs; cbv) ?_
                intro r17
                refine Le.condN 0 0 (by subst hO; exact (seq_dec _ _).trans (Bool.not_not _).symm) (by conv => lhs; cbv) (by conv => lhs; cbv) ?_ ?_
                · exact Le.ret2 (by subst hO; rfl)
                · exact Le.ret2 (by subst hO; rfl)
          · refine Le.condP 5 1 (by subst hO; exact seq_dec _ _) (by conv => lhs; cbv) (by conv => lhs; cbv) ?_ ?_
            · exact Le.ret2 (by subst hO; rfl)
            · refine Le.callC 3 (fi := fi9) rfl (spec_ShowNode.le O hO n0 (⟨(⟨#[]⟩ : ByteArray), 0, 0, 0, (⟨#[]⟩ : ByteArray), (⟨#[]⟩ : ByteArray), 0⟩ : GNode)) (by subst hO; rfl) (by intro r18; conv => lhs; cbv) ?_
              intro r18
              refine Le.condN 0 0 (by subst hO; exact (seq_dec _ _).trans (Bool.not_not _).symm) (by conv => lhs; cbv) (by conv => lhs; cbv) ?_ ?_
              · exact Le.ret2 (by subst hO; rfl)
              · exact Le.ret2 (by subst hO; rfl)
    · refine Le.condP 1 5 (by subst hO; rfl) (by conv => lhs; cbv) (by conv => lhs; cbv) ?_ ?_
      · refine Le.guardP 0 (by subst hO; rfl) (by conv => lhs; cbv) ?_
        refine Le.guardP 3 (by subst hO; rfl) (by conv => lhs; cbv) ?_
        refine Le.condP 0 0 (by subst hO; exact seq_dec _ _) (by conv => lhs; cbv) (by conv => lhs; cbv) ?_ ?_
        · refine Le.guardP 0 (by subst hO; rfl) (by conv => lhs; cbv) ?_
          refine Le.guardP 0 (by subst hO; rfl) (by conv => lhs; cbv) ?_
          refine Le.guardP 0 (by subst hO; rfl) (by conv => lhs; cbv) ?_
          refine Le.guardP 0 (by subst hO; rfl) (by conv => lhs; cbv) ?_
          refine Le.guardP 0 (by subst hO; rfl) (by conv => lhs; cbv) ?_
          refine Le.guardP 0 (by subst hO; rfl) (by conv => lhs; cbv) ?_
          refine Le.guardP 0 (by subst hO; rfl) (by conv => lhs; cbv) ?_
          refine Le.guardP 0 (by subst hO; rfl) (by conv => lhs; cbv) ?_
          refine Le.guardP 0 (by subst hO; rfl) (by conv => lhs; cbv) ?_
          refine Le.guardP 0 (by subst hO; rfl) (by conv => lhs; cbv) ?_
          refine Le.callC 0 (fi := fi61) rfl (spec_l20Unhex.le O hO n0 (O.get (⟨#[]⟩ : ByteArray) r0 5)) (by subst hO; rfl) (by intro r19; conv => lhs; cbv) ?_
          intro r19
          refine Le.condP 5 1 (by subst hO; exact seq_dec _ _) (by conv => lhs; cbv) (by conv => lhs; cbv) ?_ ?_
          · exact Le.ret2 (by subst hO; rfl)
          · refine Le.callC 3 (fi := fi9) rfl (spec_ShowNode.le O hO n0 (⟨(O.get (⟨#[]⟩ : ByteArray) r0 1), 1, (O.get 0 x_5 2), (O.get 0 x_5 3), r19, (⟨#[]⟩ : ByteArray), (O.get 0 x_5 4)⟩ : GNode)) (by subst hO; rfl) (by intro r20; conv => lhs; cbv) ?_
            intro r20
            refine Le.condN 0 0 (by subst hO; exact (seq_dec _ _).trans (Bool.not_not _).symm) (by conv => lhs; cbv) (by conv => lhs; cbv) ?_ ?_
            · exact Le.ret2 (by subst hO; rfl)
            · exact Le.ret2 (by subst hO; rfl)
        · refine Le.condP 1 5 (by subst hO; rfl) (by conv => lhs; cbv) (by conv => lhs; cbv) ?_ ?_
          · refine Le.guardP 0 (by subst hO; rfl) (by conv => lhs; cbv) ?_
            refine Le.guardP 3 (by subst hO; rfl) (by conv => lhs; cbv) ?_
            refine Le.condP 0 0 (by subst hO; exact seq_dec _ _) (by conv => lhs; cbv) (by conv => lhs; cbv) ?_ ?_
            · refine Le.guardP 0 (by subst hO; rfl) (by conv => lhs; cbv) ?_
              refine Le.guardP 0 (by subst hO; rfl) (by conv => lhs; cbv) ?_
              refine Le.guardP 0 (by subst hO; rfl) (by conv => lhs; cbv) ?_
              refine Le.guardP 0 (by subst hO; rfl) (by conv => lhs; cbv) ?_
              refine Le.guardP 0 (by subst hO; rfl) (by conv => lhs; cbv) ?_
              refine Le.guardP 0 (by subst hO; rfl) (by conv => lhs; cbv) ?_
              refine Le.callC 0 (fi := fi61) rfl (spec_l20Unhex.le O hO n0 (O.get (⟨#[]⟩ : ByteArray) r0 3)) (by subst hO; rfl) (by intro r21; conv => lhs; cbv) ?_
              intro r21
              refine Le.condP 5 1 (by subst hO; exact seq_dec _ _) (by conv => lhs; cbv) (by conv => lhs; cbv) ?_ ?_
              · exact Le.ret2 (by subst hO; rfl)
              · refine Le.callC 3 (fi := fi9) rfl (spec_ShowNode.le O hO n0 (⟨(O.get (⟨#[]⟩ : ByteArray) r0 1), 2, 0, (O.get 0 x_5 2), (⟨#[]⟩ : ByteArray), r21, 0⟩ : GNode)) (by subst hO; rfl) (by intro r22; conv => lhs; cbv) ?_
                intro r22
                refine Le.condN 0 0 (by subst hO; exact (seq_dec _ _).trans (Bool.not_not _).symm) (by conv => lhs; cbv) (by conv => lhs; cbv) ?_ ?_
                · exact Le.ret2 (by subst hO; rfl)
                · exact Le.ret2 (by subst hO; rfl)
            · refine Le.condP 5 1 (by subst hO; exact seq_dec _ _) (by conv => lhs; cbv) (by conv => lhs; cbv) ?_ ?_
              · exact Le.ret2 (by subst hO; rfl)
              · refine Le.callC 3 (fi := fi9) rfl (spec_ShowNode.le O hO n0 (⟨(⟨#[]⟩ : ByteArray), 0, 0, 0, (⟨#[]⟩ : ByteArray), (⟨#[]⟩ : ByteArray), 0⟩ : GNode)) (by subst hO; rfl) (by intro r23; conv => lhs; cbv) ?_
                intro r23
                refine Le.condN 0 0 (by subst hO; exact (seq_dec _ _).trans (Bool.not_not _).symm) (by conv => lhs; cbv) (by conv => lhs; cbv) ?_ ?_
                · exact Le.ret2 (by subst hO; rfl)
                · exact Le.ret2 (by subst hO; rfl)
          · refine Le.condP 5 1 (by subst hO; exact seq_dec _ _) (by conv => lhs; cbv) (by conv => lhs; cbv) ?_ ?_
            · exact Le.ret2 (by subst hO; rfl)
            · refine Le.callC 3 (fi := fi9) rfl (spec_ShowNode.le O hO n0 (⟨(⟨#[]⟩ : ByteArray), 0, 0, 0, (⟨#[]⟩ : ByteArray), (⟨#[]⟩ : ByteArray), 0⟩ : GNode)) (by subst hO; rfl) (by intro r24; conv => lhs; cbv) ?_
              intro r24
              refine Le.condN 0 0 (by subst hO; exact (seq_dec _ _).trans (Bool.not_not _).symm) (by conv => lhs; cbv) (by conv => lhs; cbv) ?_ ?_
              · exact Le.ret2 (by subst hO; rfl)
              · exact Le.ret2 (by subst hO; rfl)
      · refine Le.condP 1 5 (by subst hO; rfl) (by conv => lhs; cbv) (by conv => lhs; cbv) ?_ ?_
        · refine Le.guardP 0 (by subst hO; rfl) (by conv => lhs; cbv) ?_
          refine Le.guardP 3 (by subst hO; rfl) (by conv => lhs; cbv) ?_
          refine Le.condP 0 0 (by subst hO; exact seq_dec _ _) (by conv => lhs; cbv) (by conv => lhs; cbv) ?_ ?_
          · refine Le.guardP 0 (by subst hO; rfl) (by conv => lhs; cbv) ?_
            refine Le.guardP 0 (by subst hO; rfl) (by conv => lhs; cbv) ?_
            refine Le.guardP 0 (by subst hO; rfl) (by conv => lhs; cbv) ?_
            refine Le.guardP 0 (by subst hO; rfl) (by conv => lhs; cbv) ?_
            refine Le.guardP 0 (by subst hO; rfl) (by conv => lhs; cbv) ?_
            refine Le.guardP 0 (by subst hO; rfl) (by conv => lhs; cbv) ?_
            refine Le.callC 0 (fi := fi61) rfl (spec_l20Unhex.le O hO n0 (O.get (⟨#[]⟩ : ByteArray) r0 3)) (by subst hO; rfl) (by intro r25; conv => lhs; cbv) ?_
            intro r25
            refine Le.condP 5 1 (by subst hO; exact seq_dec _ _) (by conv => lhs; cbv) (by conv => lhs; cbv) ?_ ?_
            · exact Le.ret2 (by subst hO; rfl)
            · refine Le.callC 3 (fi := fi9) rfl (spec_ShowNode.le O hO n0 (⟨(O.get (⟨#[]⟩ : ByteArray) r0 1), 2, 0, (O.get 0 x_5 2), (⟨#[]⟩ : ByteArray), r25, 0⟩ : GNode)) (by subst hO; rfl) (by intro r26; conv => lhs; cbv) ?_
              intro r26
              refine Le.condN 0 0 (by subst hO; exact (seq_dec _ _).trans (Bool.not_not _).symm) (by conv => lhs; cbv) (by conv => lhs; cbv) ?_ ?_
              · exact Le.ret2 (by subst hO; rfl)
              · exact Le.ret2 (by subst hO; rfl)
          · refine Le.condP 5 1 (by subst hO; exact seq_dec _ _) (by conv => lhs; cbv) (by conv => lhs; cbv) ?_ ?_
            · exact Le.ret2 (by subst hO; rfl)
            · refine Le.callC 3 (fi := fi9) rfl (spec_ShowNode.le O hO n0 (⟨(⟨#[]⟩ : ByteArray), 0, 0, 0, (⟨#[]⟩ : ByteArray), (⟨#[]⟩ : ByteArray), 0⟩ : GNode)) (by subst hO; rfl) (by intro r27; conv => lhs; cbv) ?_
              intro r27
              refine Le.condN 0 0 (by subst hO; exact (seq_dec _ _).trans (Bool.not_not _).symm) (by conv => lhs; cbv) (by conv => lhs; cbv) ?_ ?_
              · exact Le.ret2 (by subst hO; rfl)
              · exact Le.ret2 (by subst hO; rfl)
        · refine Le.condP 5 1 (by subst hO; exact seq_dec _ _) (by conv => lhs; cbv) (by conv => lhs; cbv) ?_ ?_
          · exact Le.ret2 (by subst hO; rfl)
          · refine Le.callC 3 (fi := fi9) rfl (spec_ShowNode.le O hO n0 (⟨(⟨#[]⟩ : ByteArray), 0, 0, 0, (⟨#[]⟩ : ByteArray), (⟨#[]⟩ : ByteArray), 0⟩ : GNode)) (by subst hO; rfl) (by intro r28; conv => lhs; cbv) ?_
            intro r28
            refine Le.condN 0 0 (by subst hO; exact (seq_dec _ _).trans (Bool.not_not _).symm) (by conv => lhs; cbv) (by conv => lhs; cbv) ?_ ?_
            · exact Le.ret2 (by subst hO; rfl)
            · exact Le.ret2 (by subst hO; rfl)
/-! ### (*loop.example/g00100/impl.words).next -/
def impl_words_next_i.e (r : ByteArray × GWords) : Res tab := (([], [[.imm 9 r.2.List, .lit (.bool r.2.Bad)]]), .one (.lit (.string r.1)))
def impl_words_next_i.f (a0 : GWords) : Option (ByteArray × GWords) := (if (a0.List.length : Int) = 0 then (some ((⟨#[]⟩ : ByteArray), (⟨a0.List, true⟩ : GWords))) else (if 0 ≤ 0 then (if 0 < (a0.List.length : Int) then (if 0 ≤ 1 then (if 1 ≤ (a0.List.length : Int) then (if (a0.List.length : Int) ≤ (a0.List.length : Int) then (some ((a0.List.getD (Int.toNat 0) (⟨#[]⟩ : ByteArray)), (⟨(std.ext a0.List 1 (a0.List.length : Int)), a0.Bad⟩ : GWords))) else none) else none) else none) else none) else none))
theorem impl_words_next_i.le (O : Prim) (hO : O = std) (a0 : GWords) : Le F O M fi63.kills impl_words_next_i.e (impl_words_next_i.f a0) (den O M fi63.kills fi63.fn fi63.body (tab.gives 63) (M 63) [.agg [.imm 9 a0.List, .lit (.bool a0.Bad)]] : Tr tab) := by
  refine Le.eqS 0 (by conv => lhs; cbv) ?_
  unfold impl_words_next_i.f
  refine Le.condP 0 0 (by subst hO; rfl) (by conv => lhs; cbv) (by conv => lhs; cbv) ?_ ?_
  · exact Le.ret2 (by subst hO; rfl)
  · refine Le.guardP 0 (by subst hO; rfl) (by conv => lhs; cbv) ?_
    refine Le.guardP 0 (by subst hO; rfl) (by conv => lhs; cbv) ?_
    refine Le.guardP 0 (by subst hO; rfl) (by conv => lhs; cbv) ?_
    refine Le.guardP 0 (by subst hO; rfl) (by conv => lhs; cbv) ?_
    refine Le.guardP 0 (by subst hO; rfl) (by conv => lhs; cbv) ?_
    exact Le.ret2 (by subst hO; rfl)
/-! ### (*loop.example/g00100/impl.words).number -/
def impl_words_number_i.e (r : Int × GWords) : Res tab := (([], [[.imm 9 r.2.List, .lit (.bool r.2.Bad)]]), .one (.lit (.int .i64 r.1)))
def impl_words_number_i.f (a0 : GWords) : Option (Int × GWords) := ((impl_words_next_i.f a0).bind fun r0 => ((impl_decimal.f r0.1).bind fun r1 => (if r0.2.Bad = true then (some (r1.1, (⟨r0.2.List, true⟩ : GWords))) else (some (r1.1, (⟨r0.2.List, (!r1.2)⟩ : GWords))))))
theorem impl_words_number_i.le (O : Prim) (hO : O = std) (a0 : GWords) : Le F O M fi64.kills impl_words_number_i.e (impl_words_number_i.f a0) (den O M fi64.kills fi64.fn fi64.body (tab.gives 64) (M 64) [.agg [.imm 9 a0.List, .lit (.bool a0.Bad)]] : Tr tab) := by
  refine Le.eqS 0 (by conv => lhs; cbv) ?_
  unfold impl_words_number_i.f
  refine Le.callC 0 (fi := fi63) rfl (impl_words_next_i.le O hO a0) (by subst hO; rfl) (by intro r0; conv => lhs; cbv) ?_
  intro r0
  refine Le.extC 0 (fi := fi99) rfl (fun b hb => ⟨r0.1, b, rfl, hb, rfl⟩) (by subst hO; rfl) (by intro r1; conv => lhs; cbv) ?_
  intro r1
  refine Le.condP 2 2 (by subst hO; exact Bool.decide_eq_true) (by conv => lhs; cbv) (by conv => lhs; cbv) ?_ ?_
  · exact Le.ret2 (by subst hO; rfl)
  · exact Le.ret2 (by subst hO; rfl)
/-! ### loop.example/g00100/impl.within -/
def impl_within.e (r : Bool) : Res tab := (([], []), .one (.lit (.bool r)))
def impl_within.f (a0 : Int) (a1 : Int) (a2 : Int) : Option Bool := (if a1 ≤ a0 then (some (decide (a0 ≤ a2))) else (some false))
theorem impl_within.le (O : Prim) (hO : O = std) (a0 : Int) (a1 : Int) (a2 : Int) : Le F O M fi70.kills impl_within.e (impl_within.f a0 a1 a2) (den O M fi70.kills fi70.fn fi70.body (tab.gives 70) (M 70) [.one (.lit (.int .i64 a0)), .one (.lit (.int .i64 a1)), .one (.lit (.int .i64 a2))] : Tr tab) := by
  refine Le.eqS 0 (by conv => lhs; cbv) ?_
  unfold impl_within.f
  refine Le.condP 3 3 (by subst hO; rfl) (by conv => lhs; cbv) (by conv => lhs; cbv) ?_ ?_
  · exact Le.ret2 (by subst hO; rfl)
  · exact Le.ret2 (by subst hO; rfl)
/-! ### loop.example/g00100/impl.NameOk -/
def impl_NameOk.e (r : Bool) : Res tab := (([], []), .one (.lit (.bool r)))
def impl_NameOk.l0 : Nat → ByteArray → Int → Option Bool
  | 0, _, _ => none
  | k + 1, a0, x_1 => (if x_1 < (a0.size : Int) then (if 0 ≤ x_1 then (if x_1 < (a0.size : Int) then (if 97 ≤ (std.sget a0 x_1) then (if (std.sget a0 x_1) ≤ 122 then (if true = true then (impl_NameOk.l0 k a0 (IntKind.wrap .i64 (x_1 + 1))) else (some false)) else (if 65 ≤ (std.sget a0 x_1) then (if (std.sget a0 x_1) ≤ 90 then (if true = true then (impl_NameOk.l0 k a0 (IntKind.wrap .i64 (x_1 + 1))) else (some false)) else (if 48 ≤ (std.sget a0 x_1) then (if (std.sget a0 x_1) ≤ 57 then (if true = true then (impl_NameOk.l0 k a0 (IntKind.wrap .i64 (x_1 + 1))) else (some false)) else (if (std.sget a0 x_1) = 46 then (if true = true then (impl_NameOk.l0 k a0 (IntKind.wrap .i64 (x_1 + 1))) else (some false)) else (if (std.sget a0 x_1) = 95 then (if true = true then (impl_NameOk.l0 k a0 (IntKind.wrap .i64 (x_1 + 1))) else (some false)) else (if (std.sget a0 x_1) = 45 then (impl_NameOk.l0 k a0 (IntKind.wrap .i64 (x_1 + 1))) else (some false))))) else (if (std.sget a0 x_1) = 46 then (if true = true then (impl_NameOk.l0 k a0 (IntKind.wrap .i64 (x_1 + 1))) else (some false)) else (if (std.sget a0 x_1) = 95 then (if true = true then (impl_NameOk.l0 k a0 (IntKind.wrap .i64 (x_1 + 1))) else (some false)) else (if (std.sget a0 x_1) = 45 then (impl_NameOk.l0 k a0 (IntKind.wrap .i64 (x_1 + 1))) else (some false)))))) else (if 48 ≤ (std.sget a0 x_1) then (if (std.sget a0 x_1) ≤ 57 then (if true = true then (impl_NameOk.l0 k a0 (IntKind.wrap .i64 (x_1 + 1))) else (some false)) else (if (std.sget a0 x_1) = 46 then (if true = true then (impl_NameOk.l0 k a0 (IntKind.wrap .i64 (x_1 + 1))) else (some false)) else (if (std.sget a0 x_1) = 95 then (if true = true then (impl_NameOk.l0 k a0 (IntKind.wrap .i64 (x_1 + 1))) else (some false)) else (if (std.sget a0 x_1) = 45 then (impl_NameOk.l0 k a0 (IntKind.wrap .i64 (x_1 + 1))) else (some false))))) else (if (std.sget a0 x_1) = 46 then (if true = true then (impl_NameOk.l0 k a0 (IntKind.wrap .i64 (x_1 + 1))) else (some false)) else (if (std.sget a0 x_1) = 95 then (if true = true then (impl_NameOk.l0 k a0 (IntKind.wrap .i64 (x_1 + 1))) else (some false)) else (if (std.sget a0 x_1) = 45 then (impl_NameOk.l0 k a0 (IntKind.wrap .i64 (x_1 + 1))) else (some false))))))) else (if 65 ≤ (std.sget a0 x_1) then (if (std.sget a0 x_1) ≤ 90 then (if true = true then (impl_NameOk.l0 k a0 (IntKind.wrap .i64 (x_1 + 1))) else (some false)) else (if 48 ≤ (std.sget a0 x_1) then (if (std.sget a0 x_1) ≤ 57 then (if true = true then (impl_NameOk.l0 k a0 (IntKind.wrap .i64 (x_1 + 1))) else (some false)) else (if (std.sget a0 x_1) = 46 then (if true = true then (impl_NameOk.l0 k a0 (IntKind.wrap .i64 (x_1 + 1))) else (some false)) else (if (std.sget a0 x_1) = 95 then (if true = true then (impl_NameOk.l0 k a0 (IntKind.wrap .i64 (x_1 + 1))) else (some false)) else (if (std.sget a0 x_1) = 45 then (impl_NameOk.l0 k a0 (IntKind.wrap .i64 (x_1 + 1))) else (some false))))) else (if (std.sget a0 x_1) = 46 then (if true = true then (impl_NameOk.l0 k a0 (IntKind.wrap .i64 (x_1 + 1))) else (some false)) else (if (std.sget a0 x_1) = 95 then (if true = true then (impl_NameOk.l0 k a0 (IntKind.wrap .i64 (x_1 + 1))) else (some false)) else (if (std.sget a0 x_1) = 45 then (impl_NameOk.l0 k a0 (IntKind.wrap .i64 (x_1 + 1))) else (some false)))))) else (if 48 ≤ (std.sget a0 x_1) then (if (std.sget a0 x_1) ≤ 57 then (if true = true then (impl_NameOk.l0 k a0 (IntKind.wrap .i64 (x_1 + 1))) else (some false)) else (if (std.sget a0 x_1) = 46 then (if true = true then (impl_NameOk.l0 k a0 (IntKind.wrap .i64 (x_1 + 1))) else (some false)) else (if (std.sget a0 x_1) = 95 then (if true = true then (impl_NameOk.l0 k a0 (IntKind.wrap .i64 (x_1 + 1))) else (some false)) else (if (std.sget a0 x_1) = 45 then (impl_NameOk.l0 k a0 (IntKind.wrap .i64 (x_1 + 1))) else (some false))))) else (if (std.sget a0 x_1) = 46 then (if true = true then (impl_NameOk.l0 k a0 (IntKind.wrap .i64 (x_1 + 1))) else (some false)) else (if (std.sget a0 x_1) = 95 then (if true = true then (impl_NameOk.l0 k a0 (IntKind.wrap .i64 (x_1 + 1))) else (some false)) else (if (std.sget a0 x_1) = 45 then (impl_NameOk.l0 k a0 (IntKind.wrap .i64 (x_1 + 1))) else (some false))))))) else none) else none) else ((impl_within.f (a0.size : Int) 1 20).bind fun r2 => (if r2 = true then (if a0 = (⟨#[46]⟩ : ByteArray) then (some false) else (some (!(std.seq a0 (⟨#[46, 46]⟩ : ByteArray))))) else (some false))))
def impl_NameOk.f (k : Nat) (a0 : ByteArray) : Option Bool := (impl_NameOk.l0 k a0 0)
theorem impl_NameOk.le (O : Prim) (hO : O = std) (k : Nat) (a0 : ByteArray) : Le F O M fi122.kills impl_NameOk.e (impl_NameOk.f k a0) (den O M fi122.kills fi122.fn fi122.body (tab.gives 122) (M 122) [.one (.lit (.string a0))] : Tr tab) := by
  refine Le.eqS 0 (by conv => lhs; cbv) ?_
  unfold impl_NameOk.f
  refine Le.loopS (fun (n : Nat) (v : Int) => impl_NameOk.l0 n a0 v) (fun (x_1 : Int) => (⟨[], [.one (.lit (.string a0)), D_, D_, D_, D_, D_, .one (.lit (.int .i64 (O.ssize a0))), .one (.lit (.int .i64 x_1)), D_, D_, D_, D_, D_, D_, D_, D_, D_, D_, D_, D_, D_, D_, D_, D_, D_, D_, D_, D_, D_, D_, D_, D_, D_, D_, D_, D_, D_, D_, D_, D_, D_, D_, D_, D_, D_, D_, D_, D_, D_, D_, D_, D_, D_, D_, D_, D_, D_, D_, D_, D_], [[], [], [], [], [], [], [], [], [], [], [], [], [], [], [], [], [], [], [], [], [], [], [], [], [], [], [], [], [], [], [], [], [], [], [], [], [], [], [], [], [], [], [], [], [], [], [], [], [], [], [], [], [], [], [], [], [], [], [], [], []], []⟩ : S tab)) k 0 (by subst hO; rfl) rfl (fun _ => rfl) ?_
  intro n0 hn0 ih0 x_1
  refine Le.eqS 0 (by conv => lhs; cbv) ?_
  show Le F O M _ _ (impl_NameOk.l0 (n0 + 1) a0 x_1) _
  rw [impl_NameOk.l0]
  refine Le.condP 0 0 (by subst hO; rfl) (by conv => lhs; cbv) (by conv => lhs; cbv) ?_ ?_
  · refine Le.guardP 0 (by subst hO; rfl) (by conv => lhs; cbv) ?_
    refine Le.guardP 0 (by subst hO; rfl) (by conv => lhs; cbv) ?_
    refine Le.condP 2 5 (by subst hO; rfl) (by conv => lhs; cbv) (by conv => lhs; cbv) ?_ ?_
    · refine Le.condP 18 2 (by subst hO; rfl) (by conv => lhs; cbv) (by conv => lhs; cbv) ?_ ?_
      · refine Le.condN 0 0 (by subst hO; exact Bool.decide_eq_true.trans (Bool.not_not _).symm) (by conv => lhs; cbv) (by conv => lhs; cbv) ?_ ?_
        · exact Le.ret2 (by subst hO; rfl)
        · exact Le.again (ih0 n0 (by omega) (O.wrap .i64 (O.add x_1 1))) (by subst hO; rfl) rfl
      · refine Le.condP 4 7 (by subst hO; rfl) (by conv => lhs; cbv) (by conv => lhs; cbv) ?_ ?_
        · refine Le.condP 13 2 (by subst hO; rfl) (by conv => lhs; cbv) (by conv => lhs; cbv) ?_ ?_
          · refine Le.condN 0 0 (by subst hO; exact Bool.decide_eq_true.trans (Bool.not_not _).symm) (by conv => lhs; cbv) (by conv => lhs; cbv) ?_ ?_
            · exact Le.ret2 (by subst hO; rfl)
            · exact Le.again (ih0 n0 (by omega) (O.wrap .i64 (O.add x_1 1))) (by subst hO; rfl) rfl
          · refine Le.condP 4 7 (by subst hO; rfl) (by conv => lhs; cbv) (by conv => lhs; cbv) ?_ ?_
            · refine Le.condP 8 2 (by subst hO; rfl) (by conv => lhs; cbv) (by conv => lhs; cbv) ?_ ?_
              · refine Le.condN 0 0 (by subst hO; exact Bool.decide_eq_true.trans (Bool.not_not _).symm) (by conv => lhs; cbv) (by conv => lhs; cbv) ?_ ?_
                · exact Le.ret2 (by subst hO; rfl)
                · exact Le.again (ih0 n0 (by omega) (O.wrap .i64 (O.add x_1 1))) (by subst hO; rfl) rfl
              · refine Le.condP 5 2 (by subst hO; rfl) (by conv => lhs; cbv) (by conv => lhs; cbv) ?_ ?_
                · refine Le.condN 0 0 (by subst hO; exact Bool.decide_eq_true.trans (Bool.not_not _).symm) (by conv => lhs; cbv) (by conv => lhs; cbv) ?_ ?_
                  · exact Le.ret2 (by subst hO; rfl)
                  · exact Le.again (ih0 n0 (by omega) (O.wrap .i64 (O.add x_1 1))) (by subst hO; rfl) rfl
                · refine Le.condP 2 2 (by subst hO; rfl) (by conv => lhs; cbv) (by conv => lhs; cbv) ?_ ?_
                  · refine Le.condN 0 0 (by subst hO; exact Bool.decide_eq_true.trans (Bool.not_not _).symm) (by conv => lhs; cbv) (by conv => lhs; cbv) ?_ ?_
                    · exact Le.ret2 (by subst hO; rfl)
                    · exact Le.again (ih0 n0 (by omega) (O.wrap .i64 (O.add x_1 1))) (by subst hO; rfl) rfl
                  · refine Le.condN 0 0 (by subst hO; exact (Bool.not_not _).symm) (by conv => lhs; cbv) (by conv => lhs; cbv) ?_ ?_
                    · exact Le.ret2 (by subst hO; rfl)
                    · exact Le.again (ih0 n0 (by omega) (O.wrap .i64 (O.add x_1 1))) (by subst hO; rfl) rfl
            · refine Le.condP 5 2 (by subst hO; rfl) (by conv => lhs; cbv) (by conv => lhs; cbv) ?_ ?_
              · refine Le.condN 0 0 (by subst hO; exact Bool.decide_eq_true.trans (Bool.not_not _).symm) (by conv => lhs; cbv) (by conv => lhs; cbv) ?_ ?_
                · exact Le.ret2 (by subst hO; rfl)
                · exact Le.again (ih0 n0 (by omega) (O.wrap .i64 (O.add x_1 1))) (by subst hO; rfl) rfl
              · refine Le.condP 2 2 (by subst hO; rfl) (by conv => lhs; cbv) (by conv => lhs; cbv) ?_ ?_
                · refine Le.condN 0 0 (by subst hO; exact Bool.decide_eq_true.trans (Bool.not_not _).symm) (by conv => lhs; cbv) (by conv => lhs; cbv) ?_ ?_
                  · exact Le.ret2 (by subst hO; rfl)
                  · exact Le.again (ih0 n0 (by omega) (O.wrap .i64 (O.add x_1 1))) (by subst hO; rfl) rfl
                · refine Le.condN 0 0 (by subst hO; exact (Bool.not_not _).symm) (by conv => lhs; cbv) (by conv => lhs; cbv) ?_ ?_
                  · exact Le.ret2 (by subst hO; rfl)
                  · exact Le.again (ih0 n0 (by omega) (O.wrap .i64 (O.add x_1 1))) (by subst hO; rfl) rfl
        · refine Le.condP 4 7 (by subst hO; rfl) (by conv => lhs; cbv) (by conv => lhs; cbv) ?_ ?_
          · refine Le.condP 8 2 (by subst hO; rfl) (by conv => lhs; cbv) (by conv => lhs; cbv) ?_ ?_
            · refine Le.condN 0 0 (by subst hO; exact Bool.decide_eq_true.trans (Bool.not_not _).symm) (by conv => lhs; cbv) (by conv => lhs; cbv) ?_ ?_
              · exact Le.ret2 (by subst hO; rfl)
              · exact Le.again (ih0 n0 (by omega) (O.wrap .i64 (O.add x_1 1))) (by subst hO; rfl) rfl
            · refine Le.condP 5 2 (by subst hO; rfl) (by conv => lhs; cbv) (by conv => lhs; cbv) ?_ ?_
              · refine Le.condN 0 0 (by subst hO; exact Bool.decide_eq_true.trans (Bool.not_not _).symm) (by conv => lhs; cbv) (by conv => lhs; cbv) ?_ ?_
                · exact Le.ret2 (by subst hO; rfl)
                · exact Le.again (ih0 n0 (by omega) (O.wrap .i64 (O.add x_1 1))) (by subst hO; rfl) rfl
              · refine Le.condP 2 2 (by subst hO; rfl) (by conv => lhs; cbv) (by conv => lhs; cbv) ?_ ?_
                · refine Le.condN 0 0 (by subst hO; exact Bool.decide_eq_true.trans (Bool.not_not _).symm) (by conv => lhs; cbv) (by conv => lhs; cbv) ?_ ?_
                  · exact Le.ret2 (by subst hO; rfl)
                  · exact Le.again (ih0 n0 (by omega) (O.wrap .i64 (O.add x_1 1))) (by subst hO; rfl) rfl
                · refine Le.condN 0 0 (by subst hO; exact (Bool.not_not _).symm) (by conv => lhs; cbv) (by conv => lhs; cbv) ?_ ?_
                  · exact Le.ret2 (by subst hO; rfl)
                  · exact Le.again (ih0 n0 (by omega) (O.wrap .i64 (O.add x_1 1))) (by subst hO; rfl) rfl
          · refine Le.condP 5 2 (by subst hO; rfl) (by conv => lhs; cbv) (by conv => lhs; cbv) ?_ ?_
            · refine Le.condN 0 0 (by subst hO; exact Bool.decide_eq_true.trans (Bool.not_not _).symm) (by conv => lhs; cbv) (by conv => lhs; cbv) ?_ ?_
              · exact Le.ret2 (by subst hO; rfl)
              · exact Le.again (ih0 n0 (by omega) (O.wrap .i64 (O.add x_1 1))) (by subst hO; rfl) rfl
            · refine Le.condP 2 2 (by subst hO; rfl) (by conv => lhs; cbv) (by conv => lhs; cbv) ?_ ?_
              · refine Le.condN 0 0 (by subst hO; exact Bool.decide_eq_true.trans (Bool.not_not _).symm) (by conv => lhs; cbv) (by conv => lhs; cbv) ?_ ?_
                · exact Le.ret2 (by subst hO; rfl)
                · exact Le.again (ih0 n0 (by omega) (O.wrap .i64 (O.add x_1 1))) (by subst hO; rfl) rfl
              · refine Le.condN 0 0 (by subst hO; exact (Bool.not_not _).symm) (by conv => lhs; cbv) (by conv => lhs; cbv) ?_ ?_
                · exact Le.ret2 (by subst hO; rfl)
                · exact Le.again (ih0 n0 (by omega) (O.wrap .i64 (O.add x_1 1))) (by subst hO; rfl) rfl
    · refine Le.condP 4 7 (by subst hO; rfl) (by conv => lhs; cbv) (by conv => lhs; cbv) ?_ ?_
      · refine Le.condP 13 2 (by subst hO; rfl) (by conv => lhs; cbv) (by conv => lhs; cbv) ?_ ?_
        · refine Le.condN 0 0 (by subst hO; exact Bool.decide_eq_true.trans (Bool.not_not _).symm) (by conv => lhs; cbv) (by conv => lhs; cbv) ?_ ?_
          · exact Le.ret2 (by subst hO; rfl)
          · exact Le.again (ih0 n0 (by omega) (O.wrap .i64 (O.add x_1 1))) (by subst hO; rfl) rfl
        · refine Le.condP 4 7 (by subst hO; rfl) (by conv => lhs; cbv) (by conv => lhs; cbv) ?_ ?_
          · refine Le.condP 8 2 (by subst hO; rfl) (by conv => lhs; cbv) (by conv => lhs; cbv) ?_ ?_
            · refine Le.condN 0 0 (by subst hO; exact Bool.decide_eq_true.trans (Bool.not_not _).symm) (by conv => lhs; cbv) (by conv => lhs; cbv) ?_ ?_
              · exact Le.ret2 (by subst hO; rfl)
              · exact Le.again (ih0 n0 (by omega) (O.wrap .i64 (O.add x_1 1))) (by subst hO; rfl) rfl
            · refine Le.condP 5 2 (by subst hO; rfl) (by conv => lhs; cbv) (by conv => lhs; cbv) ?_ ?_
              · refine Le.condN 0 0 (by subst hO; exact Bool.decide_eq_true.trans (Bool.not_not _).symm) (by conv => lhs; cbv) (by conv => lhs; cbv) ?_ ?_
                · exact Le.ret2 (by subst hO; rfl)
                · exact Le.again (ih0 n0 (by omega) (O.wrap .i64 (O.add x_1 1))) (by subst hO; rfl) rfl
              · refine Le.condP 2 2 (by subst hO; rfl) (by conv => lhs; cbv) (by conv => lhs; cbv) ?_ ?_
                · refine Le.condN 0 0 (by subst hO; exact Bool.decide_eq_true.trans (Bool.not_not _).symm) (by conv => lhs; cbv) (by conv => lhs; cbv) ?_ ?_
                  · exact Le.ret2 (by subst hO; rfl)
                  · exact Le.again (ih0 n0 (by omega) (O.wrap .i64 (O.add x_1 1))) (by subst hO; rfl) rfl
                · refine Le.condN 0 0 (by subst hO; exact (Bool.not_not _).symm) (by conv => lhs; cbv) (by conv => lhs; cbv) ?_ ?_
                  · exact Le.ret2 (by subst hO; rfl)
                  · exact Le.again (ih0 n0 (by omega) (O.wrap .i64 (O.add x_1 1))) (by subst hO; rfl) rfl
          · refine Le.condP 5 2 (by subst hO; rfl) (by conv => lhs; cbv) (by conv => lhs; cbv) ?_ ?_
            · refine Le.condN 0 0 (by subst hO; exact Bool.decide_eq_true.trans (Bool.not_not _).symm) (by conv => lhs; cbv) (by conv => lhs; cbv) ?_ ?_
              · exact Le.ret2 (by subst hO; rfl)
              · exact Le.again (ih0 n0 (by omega) (O.wrap .i64 (O.add x_1 1))) (by subst hO; rfl) rfl
            · refine Le.condP 2 2 (by subst hO; rfl) (by conv => lhs; cbv) (by conv => lhs; cbv) ?_ ?_
              · refine Le.condN 0 0 (by subst hO; exact Bool.decide_eq_true.trans (Bool.not_not _).symm) (by conv => lhs; cbv) (by conv => lhs; cbv) ?_ ?_
                · exact Le.ret2 (by subst hO; rfl)
                · exact Le.again (ih0 n0 (by omega) (O.wrap .i64 (O.add x_1 1))) (by subst hO; rfl) rfl
              · refine Le.condN 0 0 (by subst hO; exact (Bool.not_not _).symm) (by conv => lhs; cbv) (by conv => lhs; cbv) ?_ ?_
                · exact Le.ret2 (by subst hO; rfl)
                · exact Le.again (ih0 n0 (by omega) (O.wrap .i64 (O.add x_1 1))) (by subst hO; rfl) rfl
      · refine Le.condP 4 7 (by subst hO; rfl) (by conv => lhs; cbv) (by conv => lhs; cbv) ?_ ?_
        · refine Le.condP 8 2 (by subst hO; rfl) (by conv => lhs; cbv) (by conv => lhs; cbv) ?_ ?_
          · refine Le.condN 0 0 (by subst hO; exact Bool.decide_eq_true.trans (Bool.not_not _).symm) (by conv => lhs; cbv) (by conv => lhs; cbv) ?_ ?_
            · exact Le.ret2 (by subst hO; rfl)
            · exact Le.again (ih0 n0 (by omega) (O.wrap .i64 (O.add x_1 1))) (by subst hO; rfl) rfl
          · refine Le.condP 5 2 (by subst hO; rfl) (by conv => lhs; cbv) (by conv => lhs; cbv) ?_ ?_
            · refine Le.condN 0 0 (by subst hO; exact Bool.decide_eq_true.trans (Bool.not_not _).symm) (by conv => lhs; cbv) (by conv => lhs; cbv) ?_ ?_
              · exact Le.ret2 (by subst hO; rfl)
              · exact Le.again (ih0 n0 (by omega) (O.wrap .i64 (O.add x_1 1))) (by subst hO; rfl) rfl
            · refine Le.condP 2 2 (by subst hO; rfl) (by conv => lhs; cbv) (by conv => lhs; cbv) ?_ ?_
              · refine Le.condN 0 0 (by subst hO; exact Bool.decide_eq_true.trans (Bool.not_not _).symm) (by conv => lhs; cbv) (by conv => lhs; cbv) ?_ ?_
                · exact Le.ret2 (by subst hO; rfl)
                · exact Le.again (ih0 n0 (by omega) (O.wrap .i64 (O.add x_1 1))) (by subst hO; rfl) rfl
              · refine Le.condN 0 0 (by subst hO; exact (Bool.not_not _).symm) (by conv => lhs; cbv) (by conv => lhs; cbv) ?_ ?_
                · exact Le.ret2 (by subst hO; rfl)
                · exact Le.again (ih0 n0 (by omega) (O.wrap .i64 (O.add x_1 1))) (by subst hO; rfl) rfl
        · refine Le.condP 5 2 (by subst hO; rfl) (by conv => lhs; cbv) (by conv => lhs; cbv) ?_ ?_
          · refine Le.condN 0 0 (by subst hO; exact Bool.decide_eq_true.trans (Bool.not_not _).symm) (by conv => lhs; cbv) (by conv => lhs; cbv) ?_ ?_
            · exact Le.ret2 (by subst hO; rfl)
            · exact Le.again (ih0 n0 (by omega) (O.wrap .i64 (O.add x_1 1))) (by subst hO; rfl) rfl
          · refine Le.condP 2 2 (by subst hO; rfl) (by conv => lhs; cbv) (by conv => lhs; cbv) ?_ ?_
            · refine Le.condN 0 0 (by subst hO; exact Bool.decide_eq_true.trans (Bool.not_not _).symm) (by conv => lhs; cbv) (by conv => lhs; cbv) ?_ ?_
              · exact Le.ret2 (by subst hO; rfl)
              · exact Le.again (ih0 n0 (by omega) (O.wrap .i64 (O.add x_1 1))) (by subst hO; rfl) rfl
            · refine Le.condN 0 0 (by subst hO; exact (Bool.not_not _).symm) (by conv => lhs; cbv) (by conv => lhs; cbv) ?_ ?_
              · exact Le.ret2 (by subst hO; rfl)
              · exact Le.again (ih0 n0 (by omega) (O.wrap .i64 (O.add x_1 1))) (by subst hO; rfl) rfl
  · refine Le.callC 0 (fi := fi70) rfl (impl_within.le O hO (O.ssize a0) 1 20) (by subst hO; rfl) (by intro r2; conv => lhs; cbv) ?_
    intro r2
    refine Le.condP 2 5 (by subst hO; exact Bool.decide_eq_true) (by conv => lhs; cbv) (by conv => lhs; cbv) ?_ ?_
    · refine Le.condN 2 2 (by subst hO; exact (seq_dec _ _).trans (Bool.not_not _).symm) (by conv => lhs; cbv) (by conv => lhs; cbv) ?_ ?_
      · exact Le.ret2 (by subst hO; rfl)
      · exact Le.ret2 (by subst hO; rfl)
    · exact Le.ret2 (by subst hO; rfl)
/-! ### loop.example/g00100/impl.Names -/
def impl_Names.e (r : List ByteArray) : Res tab := (([], []), .one (.imm 9 r))
def impl_Names.l0 : Nat → (List ByteArray) → Int → Option (List ByteArray)
  | 0, _, _ => none
  | k + 1, r0, x_4 => (if x_4 < (r0.length : Int) then (if 0 ≤ x_4 then (if x_4 < (r0.length : Int) then ((impl_NameOk.f k (r0.getD (Int.toNat x_4) (⟨#[]⟩ : ByteArray))).bind fun r5 => (if r5 = true then (impl_Names.l0 k r0 (IntKind.wrap .i64 (x_4 + 1))) else (some ([] : List ByteArray)))) else none) else none) else (some r0))
def impl_Names.f (k : Nat) (a0 : ByteArray) : Option (List ByteArray) := (if 168 < (a0.size : Int) then (some ([] : List ByteArray)) else ((strings_Split.f a0 (⟨#[47]⟩ : ByteArray)).bind fun r0 => (if 8 < (r0.length : Int) then (some ([] : List ByteArray)) else (impl_Names.l0 k r0 0))))
theorem impl_Names.le (O : Prim) (hO : O = std) (k : Nat) (a0 : ByteArray) : Le F O M fi103.kills impl_Names.e (impl_Names.f k a0) (den O M fi103.kills fi103.fn fi103.body (tab.gives 103) (M 103) [.one (.lit (.string a0))] : Tr tab) := by
  refine Le.eqS 0 (by conv => lhs; cbv) ?_
  unfold impl_Names.f
  refine Le.condP 0 0 (by subst hO; rfl) (by conv => lhs; cbv) (by conv => lhs; cbv) ?_ ?_
  · exact Le.ret2 (by subst hO; rfl)
  · refine Le.extC 0 (fi := fi62) rfl (fun b hb => ⟨a0, (⟨#[47]⟩ : ByteArray), b, rfl, hb, rfl⟩) (by subst hO; rfl) (by intro r0; conv => lhs; cbv) ?_
    intro r0
    refine Le.condP 0 0 (by subst hO; rfl) (by conv => lhs; cbv) (by conv => lhs; cbv) ?_ ?_
    · exact Le.ret2 (by subst hO; rfl)
    · refine Le.loopS (fun (n : Nat) (v : Int) => impl_Names.l0 n r0 v) (fun (x_4 : Int) => (⟨[], [D_, D_, D_, .one (.imm 9 r0), D_, D_, D_, D_, D_, D_, D_, D_, D_, D_, .one (.imm 9 r0), .one (.lit (.int .i64 (O.len r0))), .one (.lit (.int .i64 x_4)), D_, D_, D_, D_, D_, D_, D_, D_], [[], [], [], [], [], [], [], [], [], [], [], [], [], [], [], [], [], [], [], [], [], [], [], [], [], []], []⟩ : S tab)) k 0 (by subst hO; rfl) rfl (fun _ => rfl) ?_
      intro n0 hn0 ih0 x_4
      refine Le.eqS 0 (by conv => lhs; cbv) ?_
      show Le F O M _ _ (impl_Names.l0 (n0 + 1) r0 x_4) _
      rw [impl_Names.l0]
      refine Le.condP 0 0 (by subst hO; rfl) (by conv => lhs; cbv) (by conv => lhs; cbv) ?_ ?_
      · refine Le.guardP 0 (by subst hO; rfl) (by conv => lhs; cbv) ?_
        refine Le.guardP 0 (by subst hO; rfl) (by conv => lhs; cbv) ?_
        refine Le.callC 0 (fi := fi122) rfl (impl_NameOk.le O hO n0 (O.get (⟨#[]⟩ : ByteArray) r0 x_4)) (by subst hO; rfl) (by intro r5; conv => lhs; cbv) ?_
        intro r5
        refine Le.condN 0 0 (by subst hO; exact Bool.decide_eq_true.trans (Bool.not_not _).symm) (by conv => lhs; cbv) (by conv => lhs; cbv) ?_ ?_
        · exact Le.ret2 (by subst hO; rfl)
        · exact Le.again (ih0 n0 (by omega) (O.wrap .i64 (O.add x_4 1))) (by subst hO; rfl) rfl
      · exact Le.ret2 (by subst hO; rfl)
/-! ### loop.example/g00100/impl.PathOk -/
def impl_PathOk.e (r : Bool) : Res tab := (([], []), .one (.lit (.bool r)))
def impl_PathOk.f (k : Nat) (a0 : ByteArray) : Option Bool := ((impl_Names.f k a0).bind fun r0 => (some (decide (0 < (r0.length : Int)))))
theorem impl_PathOk.le (O : Prim) (hO : O = std) (k : Nat) (a0 : ByteArray) : Le F O M fi69.kills impl_PathOk.e (impl_PathOk.f k a0) (den O M fi69.kills fi69.fn fi69.body (tab.gives 69) (M 69) [.one (.lit (.string a0))] : Tr tab) := by
  refine Le.eqS 0 (by conv => lhs; cbv) ?_
  unfold impl_PathOk.f
  refine Le.callC 0 (fi := fi103) rfl (impl_Names.le O hO k a0) (by subst hO; rfl) (by intro r0; conv => lhs; cbv) ?_
  intro r0
  exact Le.ret2 (by subst hO; rfl)
/-! ### loop.example/g00100/impl.NodeOk -/
def impl_NodeOk.e (r : Bool) : Res tab := (([], []), .one (.lit (.bool r)))
def impl_NodeOk.f (k : Nat) (a0 : GNode) : Option Bool := ((impl_PathOk.f k a0.Path).bind fun r0 => (if r0 = true then ((impl_within.f a0.Mode 0 511).bind fun r1 => (if r1 = true then ((impl_within.f a0.Time 0 1000000000).bind fun r2 => (if r2 = true then (if a0.Kind = 0 then (if a0.Data = (⟨#[]⟩ : ByteArray) then (if a0.Target = (⟨#[]⟩ : ByteArray) then (some (decide (a0.Group = 0))) else (some false)) else (some false)) else (if a0.Kind = 1 then (if (a0.Data.size : Int) ≤ 20000 then (if a0.Target = (⟨#[]⟩ : ByteArray) then ((impl_within.f a0.Group 0 200).bind fun r3 => (some r3)) else (some false)) else (some false)) else (if a0.Kind = 2 then (if a0.Data = (⟨#[]⟩ : ByteArray) then (if a0.Mode = 0 then (if a0.Group = 0 then ((impl_within.f (a0.Target.size : Int) 1 60).bind fun r4 => (if r4 = true then ((strings_Contains.f a0.Target (⟨#[10]⟩ : ByteArray)).bind fun r5 => (some (!r5))) else (some false))) else (some false)) else (some false)) else (some false)) else (some false)))) else (some false))) else (some false))) else (some false)))
theorem impl_NodeOk.le (O : Prim) (hO : O = std) (k : Nat) (a0 : GNode) : Le F O M fi37.kills impl_NodeOk.e (impl_NodeOk.f k a0) (den O M fi37.kills fi37.fn fi37.body (tab.gives 37) (M 37) [.agg [.lit (.string a0.Path), .lit (.int .i64 a0.Kind), .lit (.int .i64 a0.Mode), .lit (.int .i64 a0.Time), .lit (.string a0.Data), .lit (.string a0.Target), .lit (.int .i64 a0.Group)]] : Tr tab) := by
  refine Le.eqS 0 (by conv => lhs; cbv) ?_
  unfold impl_NodeOk.f
  refine Le.callC 0 (fi := fi69) rfl (impl_PathOk.le O hO k a0.Path) (by subst hO; rfl) (by intro r0; conv => lhs; cbv) ?_
  intro r0
  refine Le.condN 10 2 (by subst hO; exact Bool.decide_eq_true.trans (Bool.not_not _).symm) (by conv => lhs; cbv) (by conv => lhs; cbv) ?_ ?_
  · exact Le.ret2 (by subst hO; rfl)
  · refine Le.callC 2 (fi := fi70) rfl (impl_within.le O hO a0.Mode 0 511) (by subst hO; rfl) (by intro r1; conv => lhs; cbv) ?_
    intro r1
    refine Le.condN 5 2 (by subst hO; exact Bool.decide_eq_true.trans (Bool.not_not _).symm) (by conv => lhs; cbv) (by conv => lhs; cbv) ?_ ?_
    · exact Le.ret2 (by subst hO; rfl)
    · refine Le.callC 2 (fi := fi70) rfl (impl_within.le O hO a0.Time 0 1000000000) (by subst hO; rfl) (by intro r2; conv => lhs; cbv) ?_
      intro r2
      refine Le.condN 0 0 (by subst hO; exact Bool.decide_eq_true.trans (Bool.not_not _).symm) (by conv => lhs; cbv) (by conv => lhs; cbv) ?_ ?_
      · exact Le.ret2 (by subst hO; rfl)
      · refine Le.condP 0 0 (by subst hO; rfl) (by conv => lhs; cbv) (by conv => lhs; cbv) ?_ ?_
        · refine Le.condP 3 7 (by subst hO; exact seq_dec _ _) (by conv => lhs; cbv) (by conv => lhs; cbv) ?_ ?_
          · refine Le.condP 3 3 (by subst hO; exact seq_dec _ _) (by conv => lhs; cbv) (by conv => lhs; cbv) ?_ ?_
            · exact Le.ret2 (by subst hO; rfl)
            · exact Le.ret2 (by subst hO; rfl)
          · exact Le.ret2 (by subst hO; rfl)
        · refine Le.condP 0 0 (by subst hO; rfl) (by conv => lhs; cbv) (by conv => lhs; cbv) ?_ ?_
          · refine Le.condP 3 7 (by subst hO; rfl) (by conv => lhs; cbv) (by conv => lhs; cbv) ?_ ?_
            · refine Le.condP 2 3 (by subst hO; exact seq_dec _ _) (by conv => lhs; cbv) (by conv => lhs; cbv) ?_ ?_
              · refine Le.callC 1 (fi := fi70) rfl (impl_within.le O hO a0.Group 0 200) (by subst hO; rfl) (by intro r3; conv => lhs; cbv) ?_
                intro r3
                exact Le.ret2 (by subst hO; rfl)
              · exact Le.ret2 (by subst hO; rfl)
            · exact Le.ret2 (by subst hO; rfl)
          · refine Le.condP 0 0 (by subst hO; rfl) (by conv => lhs; cbv) (by conv => lhs; cbv) ?_ ?_
            · refine Le.condP 3 17 (by subst hO; exact seq_dec _ _) (by conv => lhs; cbv) (by conv => lhs; cbv) ?_ ?_
              · refine Le.condP 3 13 (by subst hO; rfl) (by conv => lhs; cbv) (by conv => lhs; cbv) ?_ ?_
                · refine Le.condP 3 9 (by subst hO; rfl) (by conv => lhs; cbv) (by conv => lhs; cbv) ?_ ?_
                  · refine Le.callC 1 (fi := fi70) rfl (impl_within.le O hO (O.ssize a0.Target) 1 60) (by subst hO; rfl) (by intro r4; conv => lhs; cbv) ?_
                    intro r4
                    refine Le.condP 2 4 (by subst hO; exact Bool.decide_eq_true) (by conv => lhs; cbv) (by conv => lhs; cbv) ?_ ?_
                    · refine Le.extC 2 (fi := fi71) rfl (fun b hb => ⟨a0.Target, (⟨#[10]⟩ : ByteArray), b, rfl, hb, rfl⟩) (by subst hO; rfl) (by intro r5; conv => lhs; cbv) ?_
                      intro r5
                      exact Le.ret2 (by subst hO; rfl)
                    · exact Le.ret2 (by subst hO; rfl)
                  · exact Le.ret2 (by subst hO; rfl)
                · exact Le.ret2 (by subst hO; rfl)
              · exact Le.ret2 (by subst hO; rfl)
            · exact Le.ret2 (by subst hO; rfl)
/-! ### loop.example/g00100/impl.DecText -/
def impl_DecText.e (r : ByteArray) : Res tab := (([], []), .one (.lit (.string r)))
def impl_DecText.f (a0 : Int) : Option ByteArray := ((strconv_Itoa.f a0).bind fun r0 => (some r0))
theorem impl_DecText.le (O : Prim) (hO : O = std) (a0 : Int) : Le F O M fi73.kills impl_DecText.e (impl_DecText.f a0) (den O M fi73.kills fi73.fn fi73.body (tab.gives 73) (M 73) [.one (.lit (.int .i64 a0))] : Tr tab) := by
  refine Le.eqS 0 (by conv => lhs; cbv) ?_
  unfold impl_DecText.f
  refine Le.extC 0 (fi := fi106) rfl (fun b hb => ⟨a0, b, rfl, hb, rfl⟩) (by subst hO; rfl) (by intro r0; conv => lhs; cbv) ?_
  intro r0
  exact Le.ret2 (by subst hO; rfl)
/-! ### loop.example/g00100/impl.hexText -/
def impl_hexText.e (r : ByteArray) : Res tab := (([], []), .one (.lit (.string r)))
def impl_hexText.l0 : Nat → ByteArray → (List Int) → Int → Option ByteArray
  | 0, _, _, _ => none
  | k + 1, a0, x_2, x_3 => (if x_3 < (a0.size : Int) then (if 0 ≤ x_3 then (if x_3 < (a0.size : Int) then (if 16 = 0 then none else (if 0 ≤ (IntKind.wrap .u8 (Int.tdiv (std.sget a0 x_3) 16)) then (if (IntKind.wrap .u8 (Int.tdiv (std.sget a0 x_3) 16)) < ((⟨#[48, 49, 50, 51, 52, 53, 54, 55, 56, 57, 97, 98, 99, 100, 101, 102]⟩ : ByteArray).size : Int) then (if 0 ≤ x_3 then (if x_3 < (a0.size : Int) then (if 16 = 0 then none else (if 0 ≤ (Int.tmod (std.sget a0 x_3) 16) then (if (Int.tmod (std.sget a0 x_3) 16) < ((⟨#[48, 49, 50, 51, 52, 53, 54, 55, 56, 57, 97, 98, 99, 100, 101, 102]⟩ : ByteArray).size : Int) then (if (((x_2.length : Int) + ([(std.sget (⟨#[48, 49, 50, 51, 52, 53, 54, 55, 56, 57, 97, 98, 99, 100, 101, 102]⟩ : ByteArray) (IntKind.wrap .u8 (Int.tdiv (std.sget a0 x_3) 16))), (std.sget (⟨#[48, 49, 50, 51, 52, 53, 54, 55, 56, 57, 97, 98, 99, 100, 101, 102]⟩ : ByteArray) (Int.tmod (std.sget a0 x_3) 16))].length : Int)) * 1) ≤ 140737488351232 then (impl_hexText.l0 k a0 (x_2 ++ [(std.sget (⟨#[48, 49, 50, 51, 52, 53, 54, 55, 56, 57, 97, 98, 99, 100, 101, 102]⟩ : ByteArray) (IntKind.wrap .u8 (Int.tdiv (std.sget a0 x_3) 16))), (std.sget (⟨#[48, 49, 50, 51, 52, 53, 54, 55, 56, 57, 97, 98, 99, 100, 101, 102]⟩ : ByteArray) (Int.tmod (std.sget a0 x_3) 16))]) (IntKind.wrap .i64 (x_3 + 1))) else none) else none) else none)) else none) else none) else none) else none)) else none) else none) else (some (std.strOf x_2)))
def impl_hexText.f (k : Nat) (a0 : ByteArray) : Option ByteArray := (if 0 ≤ 0 then (if 0 ≤ (IntKind.wrap .i64 (2 * (a0.size : Int))) then (if ((IntKind.wrap .i64 (2 * (a0.size : Int))) * 1) ≤ 281474976710656 then (impl_hexText.l0 k a0 (List.replicate (Int.toNat 0) 0) 0) else none) else none) else none)
theorem impl_hexText.le (O : Prim) (hO : O = std) (k : Nat) (a0 : ByteArray) : Le F O M fi107.kills impl_hexText.e (impl_hexText.f k a0) (den O M fi107.kills fi107.fn fi107.body (tab.gives 107) (M 107) [.one (.lit (.string a0))] : Tr tab) := by
  refine Le.eqS 0 (by conv => lhs; cbv) ?_
  unfold impl_hexText.f
  refine Le.guardP 0 (by subst hO; rfl) (by conv => lhs; cbv) ?_
  refine Le.guardP 0 (by subst hO; rfl) (by conv => lhs; cbv) ?_
  refine Le.guardP 0 (by subst hO; rfl) (by conv => lhs; cbv) ?_
  refine Le.loopS (fun (n : Nat) (v : List Int × Int) => impl_hexText.l0 n a0 v.1 v.2) (fun (v : List Int × Int) => match v with | (x_2, x_3) => (⟨[], [.one (.lit (.string a0)), D_, D_, .one (.own 5 x_2), D_, D_, D_, D_, D_, D_, .one (.lit (.int .i64 (O.ssize a0))), .one (.lit (.int .i64 x_3)), D_, D_, D_, D_, D_, D_, D_, D_, D_, D_, D_, D_, D_, D_, D_, D_, D_, D_], [[], [], [], [], [], [], [], [], [], [], [], [], [], [], [], [], [], [], [], [], [], [], [], [], [], [], [], [], [], [], []], []⟩ : S tab)) k ((O.rep 0 0), 0) (by subst hO; rfl) rfl (fun _ => rfl) ?_
  intro n0 hn0 ih0 v0
  obtain ⟨x_2, x_3⟩ := v0
  refine Le.eqS 0 (by conv => lhs; cbv) ?_
  show Le F O M _ _ (impl_hexText.l0 (n0 + 1) a0 x_2 x_3) _
  rw [impl_hexText.l0]
  refine Le.condP 0 0 (by subst hO; rfl) (by conv => lhs; cbv) (by conv => lhs; cbv) ?_ ?_
  · refine Le.guardP 0 (by subst hO; rfl) (by conv => lhs; cbv) ?_
    refine Le.guardP 0 (by subst hO; rfl) (by conv => lhs; cbv) ?_
    refine Le.guardN 0 (by subst hO; rfl) (by conv => lhs; cbv) ?_
    refine Le.guardP 0 (by subst hO; rfl) (by conv => lhs; cbv) ?_
    refine Le.guardP 0 (by subst hO; rfl) (by conv => lhs; cbv) ?_
    refine Le.guardP 0 (by subst hO; rfl) (by conv => lhs; cbv) ?_
    refine Le.guardP 0 (by subst hO; rfl) (by conv => lhs; cbv) ?_
    refine Le.guardN 0 (by subst hO; rfl) (by conv => lhs; cbv) ?_
    refine Le.guardP 0 (by subst hO; rfl) (by conv => lhs; cbv) ?_
    refine Le.guardP 0 (by subst hO; rfl) (by conv => lhs; cbv) ?_
    refine Le.guardP 0 (by subst hO; rfl) (by conv => lhs; cbv) ?_
    exact Le.again (ih0 n0 (by omega) ((O.app x_2 [(O.sget (⟨#[48, 49, 50, 51, 52, 53, 54, 55, 56, 57, 97, 98, 99, 100, 101, 102]⟩ : ByteArray) (O.wrap .u8 (O.quo (O.sget a0 x_3) 16))), (O.sget (⟨#[48, 49, 50, 51, 52, 53, 54, 55, 56, 57, 97, 98, 99, 100, 101, 102]⟩ : ByteArray) (O.rem (O.sget a0 x_3) 16))]), (O.wrap .i64 (O.add x_3 1)))) (by subst hO; rfl) rfl
  · exact Le.ret2 (by subst hO; rfl)
/-! ### loop.example/g00100/impl.hexOf -/
def impl_hexOf.e (r : ByteArray) : Res tab := (([], []), .one (.lit (.string r)))
def impl_hexOf.f (k : Nat) (a0 : ByteArray) : Option ByteArray := (if a0 = (⟨#[]⟩ : ByteArray) then (some (⟨#[45]⟩ : ByteArray)) else ((impl_hexText.f k a0).bind fun r0 => (some r0)))
theorem impl_hexOf.le (O : Prim) (hO : O = std) (k : Nat) (a0 : ByteArray) : Le F O M fi74.kills impl_hexOf.e (impl_hexOf.f k a0) (den O M fi74.kills fi74.fn fi74.body (tab.gives 74) (M 74) [.one (.lit (.string a0))] : Tr tab) := by
  refine Le.eqS 0 (by conv => lhs; cbv) ?_
  unfold impl_hexOf.f
  refine Le.condP 0 0 (by subst hO; exact seq_dec _ _) (by conv => lhs; cbv) (by conv => lhs; cbv) ?_ ?_
  · exact Le.ret2 (by subst hO; rfl)
  · refine Le.callC 0 (fi := fi107) rfl (impl_hexText.le O hO k a0) (by subst hO; rfl) (by intro r0; conv => lhs; cbv) ?_
    intro r0
    exact Le.ret2 (by subst hO; rfl)
/-! ### loop.example/g00100/impl.showNode -/
def impl_showNode.e (r : ByteArray) : Res tab := (([], []), .one (.lit (.string r)))
def impl_showNode.f (k : Nat) (a0 : GNode) : Option ByteArray := (if a0.Kind = 0 then ((impl_DecText.f a0.Mode).bind fun r0 => ((impl_DecText.f a0.Time).bind fun r1 => ((strings_Join.f [(⟨#[100]⟩ : ByteArray), a0.Path, r0, r1] (⟨#[32]⟩ : ByteArray)).bind fun r2 => (some r2)))) else (if a0.Kind = 1 then ((impl_DecText.f a0.Mode).bind fun r3 => ((impl_DecText.f a0.Time).bind fun r4 => ((impl_DecText.f a0.Group).bind fun r5 => ((impl_hexOf.f k a0.Data).bind fun r6 => ((strings_Join.f [(⟨#[102]⟩ : ByteArray), a0.Path, r3, r4, r5, r6] (⟨#[32]⟩ : ByteArray)).bind fun r7 => (some r7)))))) else ((impl_DecText.f a0.Time).bind fun r8 => ((impl_hexOf.f k a0.Target).bind fun r9 => ((strings_Join.f [(⟨#[108]⟩ : ByteArray), a0.Path, r8, r9] (⟨#[32]⟩ : ByteArray)).bind fun r10 => (some r10))))))
theorem impl_showNode.le (O : Prim) (hO : O = std) (k : Nat) (a0 : GNode) : Le F O M fi38.kills impl_showNode.e (impl_showNode.f k a0) (den O M fi38.kills fi38.fn fi38.body (tab.gives 38) (M 38) [.agg [.lit (.string a0.Path), .lit (.int .i64 a0.Kind), .lit (.int .i64 a0.Mode), .lit (.int .i64 a0.Time), .lit (.string a0.Data), .lit (.string a0.Target), .lit (.int .i64 a0.Group)]] : Tr tab) := by
  refine Le.eqS 0 (by conv => lhs; cbv) ?_
  unfold impl_showNode.f
  refine Le.condP 0 0 (by subst hO; rfl) (by conv => lhs; cbv) (by conv => lhs; cbv) ?_ ?_
  · refine Le.callC 0 (fi := fi73) rfl (impl_DecText.le O hO a0.Mode) (by subst hO; rfl) (by intro r0; conv => lhs; cbv) ?_
    intro r0
    refine Le.callC 0 (fi := fi73) rfl (impl_DecText.le O hO a0.Time) (by subst hO; rfl) (by intro r1; conv => lhs; cbv) ?_
    intro r1
    refine Le.extC 0 (fi := fi72) rfl (fun b hb => ⟨[(⟨#[100]⟩ : ByteArray), a0.Path, r0, r1], (⟨#[32]⟩ : ByteArray), b, rfl, hb, rfl⟩) (by subst hO; rfl) (by intro r2; conv => lhs; cbv) ?_
    intro r2
    exact Le.ret2 (by subst hO; rfl)
  · refine Le.condP 0 0 (by subst hO; rfl) (by conv => lhs; cbv) (by conv => lhs; cbv) ?_ ?_
    · refine Le.callC 0 (fi := fi73) rfl (impl_DecText.le O hO a0.Mode) (by subst hO; rfl) (by intro r3; conv => lhs; cbv) ?_
      intro r3
      refine Le.callC 0 (fi := fi73) rfl (impl_DecText.le O hO a0.Time) (by subst hO; rfl) (by intro r4; conv => lhs; cbv) ?_
      intro r4
      refine Le.callC 0 (fi := fi73) rfl (impl_DecText.le O hO a0.Group) (by subst hO; rfl) (by intro r5; conv => lhs; cbv) ?_
      intro r5
      refine Le.callC 0 (fi := fi74) rfl (impl_hexOf.le O hO k a0.Data) (by subst hO; rfl) (by intro r6; conv => lhs; cbv) ?_
      intro r6
      refine Le.extC 0 (fi := fi72) rfl (fun b hb => ⟨[(⟨#[102]⟩ : ByteArray), a0.Path, r3, r4, r5, r6], (⟨#[32]⟩ : ByteArray), b, rfl, hb, rfl⟩) (by subst hO; rfl) (by intro r7; conv => lhs; cbv) ?_
      intro r7
      exact Le.ret2 (by subst hO; rfl)
    · refine Le.callC 0 (fi := fi73) rfl (impl_DecText.le O hO a0.Time) (by subst hO; rfl) (by intro r8; conv => lhs; cbv) ?_
      intro r8
      refine Le.callC 0 (fi := fi74) rfl (impl_hexOf.le O hO k a0.Target) (by subst hO; rfl) (by intro r9; conv => lhs; cbv) ?_
      intro r9
      refine Le.extC 0 (fi := fi72) rfl (fun b hb => ⟨[(⟨#[108]⟩ : ByteArray), a0.Path, r8, r9], (⟨#[32]⟩ : ByteArray), b, rfl, hb, rfl⟩) (by subst hO; rfl) (by intro r10; conv => lhs; cbv) ?_
      intro r10
      exact Le.ret2 (by subst hO; rfl)
/-! ### strings.IndexByte -/
def strings_IndexByte.e (r : Int) : Res tab := (([], []), .one (.lit (.int .i64 r)))
def strings_IndexByte.f (a0 : ByteArray) (a1 : Int) : Option Int := ((stringslite_IndexByte.f a0 a1).bind fun r0 => (some r0))
theorem strings_IndexByte.le (O : Prim) (hO : O = std) (a0 : ByteArray) (a1 : Int) : Le F O M fi121.kills strings_IndexByte.e (strings_IndexByte.f a0 a1) (den O M fi121.kills fi121.fn fi121.body (tab.gives 121) (M 121) [.one (.lit (.string a0)), .one (.lit (.int .u8 a1))] : Tr tab) := by
  refine Le.eqS 0 (by conv => lhs; cbv) ?_
  unfold strings_IndexByte.f
  refine Le.extC 0 (fi := fi134) rfl (fun b hb => ⟨a0, a1, b, rfl, hb, rfl⟩) (by subst hO; rfl) (by intro r0; conv => lhs; cbv) ?_
  intro r0
  exact Le.ret2 (by subst hO; rfl)
/-! ### loop.example/g00100/impl.readHex -/
def impl_readHex.e (r : ByteArray × Bool) : Res tab := (([], []), .tup [(false, [.lit (.string r.1)]), (false, [.lit (.bool r.2)])])
def impl_readHex.l0 : Nat → ByteArray → (List Int) → Int → Option (ByteArray × Bool)
  | 0, _, _, _ => none
  | k + 1, a0, x_6, x_7 => (if x_7 < (a0.size : Int) then (if 0 ≤ x_7 then (if x_7 < (a0.size : Int) then (if 0 ≤ (IntKind.wrap .i64 (x_7 + 1)) then (if (IntKind.wrap .i64 (x_7 + 1)) < (a0.size : Int) then ((strings_IndexByte.f (⟨#[48, 49, 50, 51, 52, 53, 54, 55, 56, 57, 97, 98, 99, 100, 101, 102]⟩ : ByteArray) (std.sget a0 x_7)).bind fun r8 => ((strings_IndexByte.f (⟨#[48, 49, 50, 51, 52, 53, 54, 55, 56, 57, 97, 98, 99, 100, 101, 102]⟩ : ByteArray) (std.sget a0 (IntKind.wrap .i64 (x_7 + 1)))).bind fun r9 => (if r8 < 0 then (some ((⟨#[]⟩ : ByteArray), false)) else (if r9 < 0 then (some ((⟨#[]⟩ : ByteArray), false)) else (if (((x_6.length : Int) + ([(IntKind.wrap .u8 (IntKind.wrap .i64 ((IntKind.wrap .i64 (16 * r8)) + r9)))].length : Int)) * 1) ≤ 140737488351232 then (impl_readHex.l0 k a0 (x_6 ++ [(IntKind.wrap .u8 (IntKind.wrap .i64 ((IntKind.wrap .i64 (16 * r8)) + r9)))]) (IntKind.wrap .i64 (x_7 + 2))) else none))))) else none) else none) else none) else none) else (some ((std.strOf x_6), true)))
def impl_readHex.f (k : Nat) (a0 : ByteArray) : Option (ByteArray × Bool) := (if 2 = 0 then none else (if (Int.tmod (a0.size : Int) 2) = 0 then (if 40000 < (a0.size : Int) then (some ((⟨#[]⟩ : ByteArray), false)) else (if 2 = 0 then none else (if 0 ≤ 0 then (if 0 ≤ (IntKind.wrap .i64 (Int.tdiv (a0.size : Int) 2)) then (if ((IntKind.wrap .i64 (Int.tdiv (a0.size : Int) 2)) * 1) ≤ 281474976710656 then (impl_readHex.l0 k a0 (List.replicate (Int.toNat 0) 0) 0) else none) else none) else none))) else (some ((⟨#[]⟩ : ByteArray), false))))
theorem impl_readHex.le (O : Prim) (hO : O = std) (k : Nat) (a0 : ByteArray) : Le F O M fi100.kills impl_readHex.e (impl_readHex.f k a0) (den O M fi100.kills fi100.fn fi100.body (tab.gives 100) (M 100) [.one (.lit (.string a0))] : Tr tab) := by
  refine Le.eqS 0 (by conv => lhs; cbv) ?_
  unfold impl_readHex.f
  refine Le.guardN 0 (by subst hO; rfl) (by conv => lhs; cbv) ?_
  refine Le.condN 4 3 (by subst hO; exact (Bool.not_not _).symm) (by conv => lhs; cbv) (by conv => lhs; cbv) ?_ ?_
  · exact Le.ret2 (by subst hO; rfl)
  · refine Le.condP 0 0 (by subst hO; rfl) (by conv => lhs; cbv) (by conv => lhs; cbv) ?_ ?_
    · exact Le.ret2 (by subst hO; rfl)
    · refine Le.guardN 0 (by subst hO; rfl) (by conv => lhs; cbv) ?_
      refine Le.guardP 0 (by subst hO; rfl) (by conv => lhs; cbv) ?_
      refine Le.guardP 0 (by subst hO; rfl) (by conv => lhs; cbv) ?_
      refine Le.guardP 0 (by subst hO; rfl) (by conv => lhs; cbv) ?_
      refine Le.loopS (fun (n : Nat) (v : List Int × Int) => impl_readHex.l0 n a0 v.1 v.2) (fun (v : List Int × Int) => match v with | (x_6, x_7) => (⟨[], [.one (.lit (.string a0)), D_, D_, D_, .one (.own 5 x_6), .one (.lit (.int .i64 x_7)), D_, D_, D_, D_, D_, D_, D_, D_, D_, D_, D_, D_, D_, D_, D_, D_, D_, D_, D_, D_, D_, D_, D_, D_, D_, D_, D_, D_, D_, D_, D_, D_, D_, D_, D_, D_, D_, D_, D_, D_, D_, D_, D_, D_, D_, D_], [[], [], [], [], [], [], [], [], [], [], [], [], [], [], [], [], [], [], [], [], [], [], [], [], [], [], [], [], [], [], [], [], [], [], [], [], [], [], [], [], [], [], [], [], [], [], [], [], [], [], [], [], []], []⟩ : S tab)) k ((O.rep 0 0), 0) (by subst hO; rfl) rfl (fun _ => rfl) ?_
      intro n0 hn0 ih0 v0
      obtain ⟨x_6, x_7⟩ := v0
      refine Le.eqS 0 (by conv => lhs; cbv) ?_
      show Le F O M _ _ (impl_readHex.l0 (n0 + 1) a0 x_6 x_7) _
      rw [impl_readHex.l0]
      refine Le.condP 0 0 (by subst hO; rfl) (by conv => lhs; cbv) (by conv => lhs; cbv) ?_ ?_
      · refine Le.guardP 0 (by subst hO; rfl) (by conv => lhs; cbv) ?_
        refine Le.guardP 0 (by subst hO; rfl) (by conv => lhs; cbv) ?_
        refine Le.guardP 0 (by subst hO; rfl) (by conv => lhs; cbv) ?_
        refine Le.guardP 0 (by subst hO; rfl) (by conv => lhs; cbv) ?_
        refine Le.callC 0 (fi := fi121) rfl (strings_IndexByte.le O hO (⟨#[48, 49, 50, 51, 52, 53, 54, 55, 56, 57, 97, 98, 99, 100, 101, 102]⟩ : ByteArray) (O.sget a0 x_7)) (by subst hO; rfl) (by intro r8; conv => lhs; cbv) ?_
        intro r8
        refine Le.callC 0 (fi := fi121) rfl (strings_IndexByte.le O hO (⟨#[48, 49, 50, 51, 52, 53, 54, 55, 56, 57, 97, 98, 99, 100, 101, 102]⟩ : ByteArray) (O.sget a0 (O.wrap .i64 (O.add x_7 1)))) (by subst hO; rfl) (by intro r9; conv => lhs; cbv) ?_
        intro r9
        refine Le.condP 3 2 (by subst hO; rfl) (by conv => lhs; cbv) (by conv => lhs; cbv) ?_ ?_
        · exact Le.ret2 (by subst hO; rfl)
        · refine Le.condP 0 0 (by subst hO; rfl) (by conv => lhs; cbv) (by conv => lhs; cbv) ?_ ?_
          · exact Le.ret2 (by subst hO; rfl)
          · refine Le.guardP 0 (by subst hO; rfl) (by conv => lhs; cbv) ?_
            exact Le.again (ih0 n0 (by omega) ((O.app x_6 [(O.wrap .u8 (O.wrap .i64 (O.add (O.wrap .i64 (O.mul 16 r8)) r9)))]), (O.wrap .i64 (O.add x_7 2)))) (by subst hO; rfl) rfl
      · exact Le.ret2 (by subst hO; rfl)
/-! ### (*loop.example/g00100/impl.words).bytes -/
def impl_words_bytes_i.e (r : ByteArray × GWords) : Res tab := (([], [[.imm 9 r.2.List, .lit (.bool r.2.Bad)]]), .one (.lit (.string r.1)))
def impl_words_bytes_i.f (k : Nat) (a0 : GWords) : Option (ByteArray × GWords) := ((impl_words_next_i.f a0).bind fun r0 => (if r0.1 = (⟨#[45]⟩ : ByteArray) then (some ((⟨#[]⟩ : ByteArray), r0.2)) else ((impl_readHex.f k r0.1).bind fun r1 => (if r0.2.Bad = true then (some (r1.1, (⟨r0.2.List, true⟩ : GWords))) else (some (r1.1, (⟨r0.2.List, (!r1.2)⟩ : GWords)))))))
theorem impl_words_bytes_i.le (O : Prim) (hO : O = std) (k : Nat) (a0 : GWords) : Le F O M fi65.kills impl_words_bytes_i.e (impl_words_bytes_i.f k a0) (den O M fi65.kills fi65.fn fi65.body (tab.gives 65) (M 65) [.agg [.imm 9 a0.List, .lit (.bool a0.Bad)]] : Tr tab) := by
  refine Le.eqS 0 (by conv => lhs; cbv) ?_
  unfold impl_words_bytes_i.f
  refine Le.callC 0 (fi := fi63) rfl (impl_words_next_i.le O hO a0) (by subst hO; rfl) (by intro r0; conv => lhs; cbv) ?_
  intro r0
  refine Le.condP 0 0 (by subst hO; exact seq_dec _ _) (by conv => lhs; cbv) (by conv => lhs; cbv) ?_ ?_
  · exact Le.ret2 (by subst hO; rfl)
  · refine Le.callC 0 (fi := fi100) rfl (impl_readHex.le O hO k r0.1) (by subst hO; rfl) (by intro r1; conv => lhs; cbv) ?_
    intro r1
    refine Le.condP 2 2 (by subst hO; exact Bool.decide_eq_true) (by conv => lhs; cbv) (by conv => lhs; cbv) ?_ ?_
    · exact Le.ret2 (by subst hO; rfl)
    · exact Le.ret2 (by subst hO; rfl)
/-! ### loop.example/g00100/impl.ReadNode -/
def impl_ReadNode.e (r : GNode × Bool) : Res tab := (([], []), .tup [(true, [.lit (.string r.1.Path), .lit (.int .i64 r.1.Kind), .lit (.int .i64 r.1.Mode), .lit (.int .i64 r.1.Time), .lit (.string r.1.Data), .lit (.string r.1.Target), .lit (.int .i64 r.1.Group)]), (false, [.lit (.bool r.2)])])
def impl_ReadNode.f (k : Nat) (a0 : ByteArray) : Option (GNode × Bool) := ((strings_Split.f a0 (⟨#[32]⟩ : ByteArray)).bind fun r0 => ((impl_words_next_i.f (⟨r0, false⟩ : GWords)).bind fun r1 => ((impl_words_next_i.f r1.2).bind fun r2 => (if r1.1 = (⟨#[100]⟩ : ByteArray) then ((impl_words_number_i.f r2.2).bind fun r3 => ((impl_words_number_i.f r3.2).bind fun r4 => (if r4.2.Bad = true then (some ((⟨(⟨#[]⟩ : ByteArray), 0, 0, 0, (⟨#[]⟩ : ByteArray), (⟨#[]⟩ : ByteArray), 0⟩ : GNode), false)) else ((impl_NodeOk.f k (⟨r2.1, 0, r3.1, r4.1, (⟨#[]⟩ : ByteArray), (⟨#[]⟩ : ByteArray), 0⟩ : GNode)).bind fun r5 => (if r5 = true then ((impl_showNode.f k (⟨r2.1, 0, r3.1, r4.1, (⟨#[]⟩ : ByteArray), (⟨#[]⟩ : ByteArray), 0⟩ : GNode)).bind fun r6 => (if r6 = a0 then (some ((⟨r2.1, 0, r3.1, r4.1, (⟨#[]⟩ : ByteArray), (⟨#[]⟩ : ByteArray), 0⟩ : GNode), true)) else (some ((⟨(⟨#[]⟩ : ByteArray), 0, 0, 0, (⟨#[]⟩ : ByteArray), (⟨#[]⟩ : ByteArray), 0⟩ : GNode), false)))) else (some ((⟨(⟨#[]⟩ : ByteArray), 0, 0, 0, (⟨#[]⟩ : ByteArray), (⟨#[]⟩ : ByteArray), 0⟩ : GNode), false))))))) else (if r1.1 = (⟨#[102]⟩ : ByteArray) then ((impl_words_number_i.f r2.2).bind fun r7 => ((impl_words_number_i.f r7.2).bind fun r8 => ((impl_words_number_i.f r8.2).bind fun r9 => ((impl_words_bytes_i.f k r9.2).bind fun r10 => (if r10.2.Bad = true then (some ((⟨(⟨#[]⟩ : ByteArray), 0, 0, 0, (⟨#[]⟩ : ByteArray), (⟨#[]⟩ : ByteArray), 0⟩ : GNode), false)) else ((impl_NodeOk.f k (⟨r2.1, 1, r7.1, r8.1, r10.1, (⟨#[]⟩ : ByteArray), r9.1⟩ : GNode)).bind fun r11 => (if r11 = true then ((impl_showNode.f k (⟨r2.1, 1, r7.1, r8.1, r10.1, (⟨#[]⟩ : ByteArray), r9.1⟩ : GNode)).bind fun r12 => (if r12 = a0 then (some ((⟨r2.1, 1, r7.1, r8.1, r10.1, (⟨#[]⟩ : ByteArray), r9.1⟩ : GNode), true)) else (some ((⟨(⟨#[]⟩ : ByteArray), 0, 0, 0, (⟨#[]⟩ : ByteArray), (⟨#[]⟩ : ByteArray), 0⟩ : GNode), false)))) else (some ((⟨(⟨#[]⟩ : ByteArray), 0, 0, 0, (⟨#[]⟩ : ByteArray), (⟨#[]⟩ : ByteArray), 0⟩ : GNode), false))))))))) else (if r1.1 = (⟨#[108]⟩ : ByteArray) then ((impl_words_number_i.f r2.2).bind fun r13 => ((impl_words_bytes_i.f k r13.2).bind fun r14 => (if r14.2.Bad = true then (some ((⟨(⟨#[]⟩ : ByteArray), 0, 0, 0, (⟨#[]⟩ : ByteArray), (⟨#[]⟩ : ByteArray), 0⟩ : GNode), false)) else ((impl_NodeOk.f k (⟨r2.1, 2, 0, r13.1, (⟨#[]⟩ : ByteArray), r14.1, 0⟩ : GNode)).bind fun r15 => (if r15 = true then ((impl_showNode.f k (⟨r2.1, 2, 0, r13.1, (⟨#[]⟩ : ByteArray), r14.1, 0⟩ : GNode)).bind fun r16 => (if r16 = a0 then (some ((⟨r2.1, 2, 0, r13.1, (⟨#[]⟩ : ByteArray), r14.1, 0⟩ : GNode), true)) else (some ((⟨(⟨#[]⟩ : ByteArray), 0, 0, 0, (⟨#[]⟩ : ByteArray), (⟨#[]⟩ : ByteArray), 0⟩ : GNode), false)))) else (some ((⟨(⟨#[]⟩ : ByteArray), 0, 0, 0, (⟨#[]⟩ : ByteArray), (⟨#[]⟩ : ByteArray), 0⟩ : GNode), false))))))) else (some ((⟨(⟨#[]⟩ : ByteArray), 0, 0, 0, (⟨#[]⟩ : ByteArray), (⟨#[]⟩ : ByteArray), 0⟩ : GNode), false))))))))
theorem impl_ReadNode.le (O : Prim) (hO : O = std) (k : Nat) (a0 : ByteArray) : Le F O M fi32.kills impl_ReadNode.e (impl_ReadNode.f k a0) (den O M fi32.kills fi32.fn fi32.body (tab.gives 32) (M 32) [.one (.lit (.string a0))] : Tr tab) := by
  refine Le.eqS 0 (by conv => lhs; cbv) ?_
  unfold impl_ReadNode.f
  refine Le.extC 0 (fi := fi62) rfl (fun b hb => ⟨a0, (⟨#[32]⟩ : ByteArray), b, rfl, hb, rfl⟩) (by subst hO; rfl) (by intro r0; conv => lhs; cbv) ?_
  intro r0
  refine Le.callC 0 (fi := fi63) rfl (impl_words_next_i.le O hO (⟨r0, false⟩ : GWords)) (by subst hO; rfl) (by intro r1; conv => lhs; cbv) ?_
  intro r1
  refine Le.callC 0 (fi := fi63) rfl (impl_words_next_i.le O hO r1.2) (by subst hO; rfl) (by intro r2; conv => lhs; cbv) ?_
  intro r2
  refine Le.condP 0 0 (by subst hO; exact seq_dec _ _) (by conv => lhs; cbv) (by conv => lhs; cbv) ?_ ?_
  · refine Le.callC 0 (fi := fi64) rfl (impl_words_number_i.le O hO r2.2) (by subst hO; rfl) (by intro r3; conv => lhs; cbv) ?_
    intro r3
    refine Le.callC 0 (fi := fi64) rfl (impl_words_number_i.le O hO r3.2) (by subst hO; rfl) (by intro r4; conv => lhs; cbv) ?_
    intro r4
    refine Le.condP 9 1 (by subst hO; exact Bool.decide_eq_true) (by conv => lhs; cbv) (by conv => lhs; cbv) ?_ ?_
    · exact Le.ret2 (by subst hO; rfl)
    · refine Le.callC 2 (fi := fi37) rfl (impl_NodeOk.le O hO k (⟨r2.1, 0, r3.1, r4.1, (⟨#[]⟩ : ByteArray), (⟨#[]⟩ : ByteArray), 0⟩ : GNode)) (by subst hO; rfl) (by intro r5; conv => lhs; cbv) ?_
      intro r5
      refine Le.condN 5 1 (by subst hO; exact Bool.decide_eq_true.trans (Bool.not_not _).symm) (by conv => lhs; cbv) (by conv => lhs; cbv) ?_ ?_
      · exact Le.ret2 (by subst hO; rfl)
      · refine Le.callC 3 (fi := fi38) rfl (impl_showNode.le O hO k (⟨r2.1, 0, r3.1, r4.1, (⟨#[]⟩ : ByteArray), (⟨#[]⟩ : ByteArray), 0⟩ : GNode)) (by subst hO; rfl) (by intro r6; conv => lhs; cbv) ?_
        intro r6
        refine Le.condN 0 0 (by subst hO; exact (seq_dec _ _).trans (Bool.not_not _).symm) (by conv => lhs; cbv) (by conv => lhs; cbv) ?_ ?_
        · exact Le.ret2 (by subst hO; rfl)
        · exact Le.ret2 (by subst hO; rfl)
  · refine Le.condP 0 0 (by subst hO; exact seq_dec _ _) (by conv => lhs; cbv) (by conv => lhs; cbv) ?_ ?_
    · refine Le.callC 0 (fi := fi64) rfl (impl_words_number_i.le O hO r2.2) (by subst hO; rfl) (by intro r7; conv => lhs; cbv) ?_
      intro r7
      refine Le.callC 0 (fi := fi64) rfl (impl_words_number_i.le O hO r7.2) (by subst hO; rfl) (by intro r8; conv => lhs; cbv) ?_
      intro r8
      refine Le.callC 0 (fi := fi64) rfl (impl_words_number_i.le O hO r8.2) (by subst hO; rfl) (by intro r9; conv => lhs; cbv) ?_
      intro r9
      refine Le.callC 0 (fi := fi65) rfl (impl_words_bytes_i.le O hO k r9.2) (by subst hO; rfl) (by intro r10; conv => lhs; cbv) ?_
      intro r10
      refine Le.condP 9 1 (by subst hO; exact Bool.decide_eq_true) (by conv => lhs; cbv) (by conv => lhs; cbv) ?_ ?_
      · exact Le.ret2 (by subst hO; rfl)
      · refine Le.callC 2 (fi := fi37) rfl (impl_NodeOk.le O hO k (⟨r2.1, 1, r7.1, r8.1, r10.1, (⟨#[]⟩ : ByteArray), r9.1⟩ : GNode)) (by subst hO; rfl) (by intro r11; conv => lhs; cbv) ?_
        intro r11
        refine Le.condN 5 1 (by subst hO; exact Bool.decide_eq_true.trans (Bool.not_not _).symm) (by conv => lhs; cbv) (by conv => lhs; cbv) ?_ ?_
        · exact Le.ret2 (by subst hO; rfl)
        · refine Le.callC 3 (fi := fi38) rfl (impl_showNode.le O hO k (⟨r2.1, 1, r7.1, r8.1, r10.1, (⟨#[]⟩ : ByteArray), r9.1⟩ : GNode)) (by subst hO; rfl) (by intro r12; conv => lhs; cbv) ?_
          intro r12
          refine Le.condN 0 0 (by subst hO; exact (seq_dec _ _).trans (Bool.not_not _).symm) (by conv => lhs; cbv) (by conv => lhs; cbv) ?_ ?_
          · exact Le.ret2 (by subst hO; rfl)
          · exact Le.ret2 (by subst hO; rfl)
    · refine Le.condP 0 0 (by subst hO; exact seq_dec _ _) (by conv => lhs; cbv) (by conv => lhs; cbv) ?_ ?_
      · refine Le.callC 0 (fi := fi64) rfl (impl_words_number_i.le O hO r2.2) (by subst hO; rfl) (by intro r13; conv => lhs; cbv) ?_
        intro r13
        refine Le.callC 0 (fi := fi65) rfl (impl_words_bytes_i.le O hO k r13.2) (by subst hO; rfl) (by intro r14; conv => lhs; cbv) ?_
        intro r14
        refine Le.condP 9 1 (by subst hO; exact Bool.decide_eq_true) (by conv => lhs; cbv) (by conv => lhs; cbv) ?_ ?_
        · exact Le.ret2 (by subst hO; rfl)
        · refine Le.callC 2 (fi := fi37) rfl (impl_NodeOk.le O hO k (⟨r2.1, 2, 0, r13.1, (⟨#[]⟩ : ByteArray), r14.1, 0⟩ : GNode)) (by subst hO; rfl) (by intro r15; conv => lhs; cbv) ?_
          intro r15
          refine Le.condN 5 1 (by subst hO; exact Bool.decide_eq_true.trans (Bool.not_not _).symm) (by conv => lhs; cbv) (by conv => lhs; cbv) ?_ ?_
          · exact Le.ret2 (by subst hO; rfl)
          · refine Le.callC 3 (fi := fi38) rfl (impl_showNode.le O hO k (⟨r2.1, 2, 0, r13.1, (⟨#[]⟩ : ByteArray), r14.1, 0⟩ : GNode)) (by subst hO; rfl) (by intro r16; conv => lhs; cbv) ?_
            intro r16
            refine Le.condN 0 0 (by subst hO; exact (seq_dec _ _).trans (Bool.not_not _).symm) (by conv => lhs; cbv) (by conv => lhs; cbv) ?_ ?_
            · exact Le.ret2 (by subst hO; rfl)
            · exact Le.ret2 (by subst hO; rfl)
      · exact Le.ret2 (by subst hO; rfl)
/-! ### loop.example/g00100/laws.eqNode -/
def laws_eqNode.e (r : Bool) : Res tab := (([], []), .one (.lit (.bool r)))
def laws_eqNode.f (a0 : GNode) (a1 : GNode) : Option Bool := (if a0.Path = a1.Path then (if a0.Kind = a1.Kind then (if a0.Mode = a1.Mode then (if a0.Time = a1.Time then (if a0.Data = a1.Data then (if a0.Target = a1.Target then (if a0.Group = a1.Group then (some true) else (some false)) else (some false)) else (some false)) else (some false)) else (some false)) else (some false)) else (some false))
theorem laws_eqNode.le (O : Prim) (hO : O = std) (a0 : GNode) (a1 : GNode) : Le F O M fi33.kills laws_eqNode.e (laws_eqNode.f a0 a1) (den O M fi33.kills fi33.fn fi33.body (tab.gives 33) (M 33) [.agg [.lit (.string a0.Path), .lit (.int .i64 a0.Kind), .lit (.int .i64 a0.Mode), .lit (.int .i64 a0.Time), .lit (.string a0.Data), .lit (.string a0.Target), .lit (.int .i64 a0.Group)], .agg [.lit (.string a1.Path), .lit (.int .i64 a1.Kind), .lit (.int .i64 a1.Mode), .lit (.int .i64 a1.Time), .lit (.string a1.Data), .lit (.string a1.Target), .lit (.int .i64 a1.Group)]] : Tr tab) := by
  refine Le.eqS 0 (by conv => lhs; cbv) ?_
  unfold laws_eqNode.f
  refine Le.condN 0 0 (by subst hO; exact (seq_dec _ _).trans (Bool.not_not _).symm) (by conv => lhs; cbv) (by conv => lhs; cbv) ?_ ?_
  · exact Le.ret2 (by subst hO; rfl)
  · refine Le.condN 0 0 (by subst hO; exact (Bool.not_not _).symm) (by conv => lhs; cbv) (by conv => lhs; cbv) ?_ ?_
    · exact Le.ret2 (by subst hO; rfl)
    · refine Le.condN 0 0 (by subst hO; exact (Bool.not_not _).symm) (by conv => lhs; cbv) (by conv => lhs; cbv) ?_ ?_
      · exact Le.ret2 (by subst hO; rfl)
      · refine Le.condN 0 0 (by subst hO; exact (Bool.not_not _).symm) (by conv => lhs; cbv) (by conv => lhs; cbv) ?_ ?_
        · exact Le.ret2 (by subst hO; rfl)
        · refine Le.condN 0 0 (by subst hO; exact (seq_dec _ _).trans (Bool.not_not _).symm) (by conv => lhs; cbv) (by conv => lhs; cbv) ?_ ?_
          · exact Le.ret2 (by subst hO; rfl)
          · refine Le.condN 0 0 (by subst hO; exact (seq_dec _ _).trans (Bool.not_not _).symm) (by conv => lhs; cbv) (by conv => lhs; cbv) ?_ ?_
            · exact Le.ret2 (by subst hO; rfl)
            · refine Le.condN 0 0 (by subst hO; exact (Bool.not_not _).symm) (by conv => lhs; cbv) (by conv => lhs; cbv) ?_ ?_
              · exact Le.ret2 (by subst hO; rfl)
              · exact Le.ret2 (by subst hO; rfl)
/-! ### loop.example/g00100/laws.FnExactReadNode -/
def laws_FnExactReadNode.e (r : Bool) : Res tab := (([], []), .one (.lit (.bool r)))
def laws_FnExactReadNode.f (k : Nat) (a0 : ByteArray) : Option Bool := (if 1048576 < (a0.size : Int) then (some true) else ((spec_ReadNode.f k a0).bind fun r0 => ((impl_ReadNode.f k a0).bind fun r1 => ((laws_eqNode.f r1.1 r0.1).bind fun r2 => (if r2 = true then (if (r1.2 == r0.2) = true then (some true) else (some false)) else (some false))))))
theorem laws_FnExactReadNode.le (O : Prim) (hO : O = std) (k : Nat) (a0 : ByteArray) : Le F O M fi7.kills laws_FnExactReadNode.e (laws_FnExactReadNode.f k a0) (den O M fi7.kills fi7.fn fi7.body (tab.gives 7) (M 7) [.one (.lit (.string a0))] : Tr tab) := by
  refine Le.eqS 0 (by conv => lhs; cbv) ?_
  unfold laws_FnExactReadNode.f
  refine Le.condP 0 0 (by subst hO; rfl) (by conv => lhs; cbv) (by conv => lhs; cbv) ?_ ?_
  · exact Le.ret2 (by subst hO; rfl)
  · refine Le.callC 0 (fi := fi31) rfl (spec_ReadNode.le O hO k a0) (by subst hO; rfl) (by intro r0; conv => lhs; cbv) ?_
    intro r0
    refine Le.callC 0 (fi := fi32) rfl (impl_ReadNode.le O hO k a0) (by subst hO; rfl) (by intro r1; conv => lhs; cbv) ?_
    intro r1
    refine Le.callC 0 (fi := fi33) rfl (laws_eqNode.le O hO r1.1 r0.1) (by subst hO; rfl) (by intro r2; conv => lhs; cbv) ?_
    intro r2
    refine Le.condN 4 3 (by subst hO; exact Bool.decide_eq_true.trans (Bool.not_not _).symm) (by conv => lhs; cbv) (by conv => lhs; cbv) ?_ ?_
    · exact Le.ret2 (by subst hO; rfl)
    · refine Le.condN 0 0 (by subst hO; exact Bool.decide_eq_true.trans (Bool.not_not _).symm) (by conv => lhs; cbv) (by conv => lhs; cbv) ?_ ?_
      · exact Le.ret2 (by subst hO; rfl)
      · exact Le.ret2 (by subst hO; rfl)
end Go.I
