/- What each function that the law reaches answers, by the interpreter. No condition. -/
import Derived.Test.YtogfddilolannaaDoorGKD
set_option linter.unusedVariables false
set_option linter.unusedSimpArgs false
set_option maxRecDepth 100000
set_option maxHeartbeats 4000000
namespace Go.I
open Go
/-! ### loop.example/g00100/laws.toByteS -/
def laws_toByteS.e (r : List Int) : Res tab := (([], []), .one (.own 5 r))
def laws_toByteS.l0 : Nat → (List Int) → (List Int) → Int → Option (List Int)
  | 0, _, _, _ => none
  | k + 1, a0, x_2, x_3 => (if x_3 < (a0.length : Int) then (if 0 ≤ x_3 then (if x_3 < (a0.length : Int) then (if 0 ≤ x_3 then (if x_3 < (x_2.length : Int) then (laws_toByteS.l0 k a0 (x_2.set (Int.toNat x_3) (a0.getD (Int.toNat x_3) 0)) (IntKind.wrap .i64 (x_3 + 1))) else none) else none) else none) else none) else (some x_2))
def laws_toByteS.f (k : Nat) (a0 : List Int) : Option (List Int) := (if 0 ≤ (a0.length : Int) then (if (a0.length : Int) ≤ (a0.length : Int) then (if ((a0.length : Int) * 1) ≤ 281474976710656 then (laws_toByteS.l0 k a0 (List.replicate (Int.toNat (a0.length : Int)) 0) 0) else none) else none) else none)
theorem laws_toByteS.le (O : Prim) (hO : O = std) (k : Nat) (a0 : List Int) : Le F O M fi13.kills laws_toByteS.e (laws_toByteS.f k a0) (den O M fi13.kills fi13.fn fi13.body (tab.gives 13) (M 13) [.one (.imm 5 a0)] : Tr tab) := by
  refine Le.eqS 0 (by conv => lhs; cbv) ?_
  unfold laws_toByteS.f
  refine Le.guardP 0 (by subst hO; rfl) (by conv => lhs; cbv) ?_
  refine Le.guardP 0 (by subst hO; rfl) (by conv => lhs; cbv) ?_
  refine Le.guardP 0 (by subst hO; rfl) (by conv => lhs; cbv) ?_
  refine Le.loopS (fun (n : Nat) (v : List Int × Int) => laws_toByteS.l0 n a0 v.1 v.2) (fun (v : List Int × Int) => match v with | (x_2, x_3) => (⟨[], [.one (.imm 5 a0), D_, D_, .one (.own 5 x_2), .one (.lit (.int .i64 x_3)), D_, D_, D_, D_, D_, D_, D_, D_, D_, D_, D_, D_, D_, D_, D_, D_, D_], [[], [], [], [], [], [], [], [], [], [], [], [], [], [], [], [], [], [], [], [], [], [], []], []⟩ : S tab)) k ((O.rep 0 (O.len a0)), 0) (by subst hO; rfl) rfl (fun _ => rfl) ?_
  intro n0 hn0 ih0 v0
  obtain ⟨x_2, x_3⟩ := v0
  refine Le.eqS 0 (by conv => lhs; cbv) ?_
  show Le F O M _ _ (laws_toByteS.l0 (n0 + 1) a0 x_2 x_3) _
  rw [laws_toByteS.l0]
  refine Le.condP 0 0 (by subst hO; rfl) (by conv => lhs; cbv) (by conv => lhs; cbv) ?_ ?_
  · refine Le.guardP 0 (by subst hO; rfl) (by conv => lhs; cbv) ?_
    refine Le.guardP 0 (by subst hO; rfl) (by conv => lhs; cbv) ?_
    refine Le.guardP 0 (by subst hO; rfl) (by conv => lhs; cbv) ?_
    refine Le.guardP 0 (by subst hO; rfl) (by conv => lhs; cbv) ?_
    exact Le.again (ih0 n0 (by omega) ((O.set x_2 x_3 (O.get 0 a0 x_3)), (O.wrap .i64 (O.add x_3 1)))) (by subst hO; rfl) rfl
  · exact Le.ret2 (by subst hO; rfl)
/-! ### loop.example/g00100/spec.PutVar -/
def spec_PutVar.e (r : List Int) : Res tab := (([], []), .one (.own 5 r))
def spec_PutVar.l0 : Nat → Int → (List Int) → Option (List Int)
  | 0, _, _ => none
  | k + 1, x_2, x_3 => (if 128 ≤ x_2 then (if 128 = 0 then none else (if (((x_3.length : Int) + ([(IntKind.wrap .u8 (IntKind.wrap .i64 (128 + (Int.tmod x_2 128))))].length : Int)) * 1) ≤ 140737488351232 then (if 128 = 0 then none else (spec_PutVar.l0 k (IntKind.wrap .i64 (Int.tdiv x_2 128)) (x_3 ++ [(IntKind.wrap .u8 (IntKind.wrap .i64 (128 + (Int.tmod x_2 128))))]))) else none)) else (if (((x_3.length : Int) + ([(IntKind.wrap .u8 x_2)].length : Int)) * 1) ≤ 140737488351232 then (some (x_3 ++ [(IntKind.wrap .u8 x_2)])) else none))
def spec_PutVar.f (k : Nat) (a0 : Int) : Option (List Int) := (if a0 < 0 then (some ([] : List Int)) else (spec_PutVar.l0 k a0 ([] : List Int)))
theorem spec_PutVar.le (O : Prim) (hO : O = std) (k : Nat) (a0 : Int) : Le F O M fi51.kills spec_PutVar.e (spec_PutVar.f k a0) (den O M fi51.kills fi51.fn fi51.body (tab.gives 51) (M 51) [.one (.lit (.int .i64 a0))] : Tr tab) := by
  refine Le.eqS 0 (by conv => lhs; cbv) ?_
  unfold spec_PutVar.f
  refine Le.condP 0 0 (by subst hO; rfl) (by conv => lhs; cbv) (by conv => lhs; cbv) ?_ ?_
  · exact Le.ret2 (by subst hO; rfl)
  · refine Le.loopS (fun (n : Nat) (v : Int × List Int) => spec_PutVar.l0 n v.1 v.2) (fun (v : Int × List Int) => match v with | (x_2, x_3) => (⟨[], [.one (.lit (.int .i64 x_2)), D_, D_, .one (.own 5 x_3), D_, D_, D_, D_, D_, D_, D_, D_, D_, D_, D_, D_, D_, D_, D_, D_, D_, D_, D_, D_], [[], [], [], [], [], [], [], [], [], [], [], [], [], [], [], [], [], [], [], [], [], [], [], [], []], []⟩ : S tab)) k (a0, ([] : List Int)) (by subst hO; rfl) rfl (fun _ => rfl) ?_
    intro n0 hn0 ih0 v0
    obtain ⟨x_2, x_3⟩ := v0
    refine Le.eqS 0 (by conv => lhs; cbv) ?_
    show Le F O M _ _ (spec_PutVar.l0 (n0 + 1) x_2 x_3) _
    rw [spec_PutVar.l0]
    refine Le.condP 0 0 (by subst hO; rfl) (by conv => lhs; cbv) (by conv => lhs; cbv) ?_ ?_
    · refine Le.guardN 0 (by subst hO; rfl) (by conv => lhs; cbv) ?_
      refine Le.guardP 0 (by subst hO; rfl) (by conv => lhs; cbv) ?_
      refine Le.guardN 0 (by subst hO; rfl) (by conv => lhs; cbv) ?_
      exact Le.again (ih0 n0 (by omega) ((O.wrap .i64 (O.quo x_2 128)), (O.app x_3 [(O.wrap .u8 (O.wrap .i64 (O.add 128 (O.rem x_2 128))))]))) (by subst hO; rfl) rfl
    · refine Le.guardP 0 (by subst hO; rfl) (by conv => lhs; cbv) ?_
      exact Le.ret2 (by subst hO; rfl)
/-! ### loop.example/g00100/spec.GetVar -/
def spec_GetVar.e (r : Int × Int) : Res tab := (([], []), .tup [(false, [.lit (.int .i64 r.1)]), (false, [.lit (.int .i64 r.2)])])
def spec_GetVar.l2 : Nat → (List Int) → Int → Int → Int → Option (Int × Int)
  | 0, _, _, _, _ => none
  | k + 1, a0, x_1, x_4, x_5 => (if 0 ≤ x_5 then (if 0 ≤ x_5 then (if x_5 < (a0.length : Int) then (if 128 = 0 then none else (spec_GetVar.l2 k a0 x_1 (IntKind.wrap .i64 ((IntKind.wrap .i64 (x_4 * 128)) + (Int.tmod (IntKind.wrap .i64 (a0.getD (Int.toNat x_5) 0)) 128))) (IntKind.wrap .i64 (x_5 - 1)))) else none) else none) else ((spec_PutVar.f k x_4).bind fun r6 => (if (r6.length : Int) = (IntKind.wrap .i64 (x_1 + 1)) then (some (x_4, (IntKind.wrap .i64 (x_1 + 1)))) else (some (0, 0)))))
def spec_GetVar.l2v1 : Nat → (List Int) → Int → Int → Int → Option (Int × Int)
  | 0, _, _, _, _ => none
  | k + 1, a0, x_1, x_9, x_10 => (if 0 ≤ x_10 then (if 0 ≤ x_10 then (if x_10 < (a0.length : Int) then (if 128 = 0 then none else (spec_GetVar.l2v1 k a0 x_1 (IntKind.wrap .i64 ((IntKind.wrap .i64 (x_9 * 128)) + (Int.tmod (IntKind.wrap .i64 (a0.getD (Int.toNat x_10) 0)) 128))) (IntKind.wrap .i64 (x_10 - 1)))) else none) else none) else ((spec_PutVar.f k x_9).bind fun r11 => (if (r11.length : Int) = (IntKind.wrap .i64 (x_1 + 1)) then (some (x_9, (IntKind.wrap .i64 (x_1 + 1)))) else (some (0, 0)))))
def spec_GetVar.l2v2 : Nat → (List Int) → Int → Int → Int → Option (Int × Int)
  | 0, _, _, _, _ => none
  | k + 1, a0, x_1, x_14, x_15 => (if 0 ≤ x_15 then (if 0 ≤ x_15 then (if x_15 < (a0.length : Int) then (if 128 = 0 then none else (spec_GetVar.l2v2 k a0 x_1 (IntKind.wrap .i64 ((IntKind.wrap .i64 (x_14 * 128)) + (Int.tmod (IntKind.wrap .i64 (a0.getD (Int.toNat x_15) 0)) 128))) (IntKind.wrap .i64 (x_15 - 1)))) else none) else none) else ((spec_PutVar.f k x_14).bind fun r16 => (if (r16.length : Int) = (IntKind.wrap .i64 (x_1 + 1)) then (some (x_14, (IntKind.wrap .i64 (x_1 + 1)))) else (some (0, 0)))))
def spec_GetVar.l0 : Nat → (List Int) → Int → Option (Int × Int)
  | 0, _, _ => none
  | k + 1, a0, x_1 => (if x_1 < (a0.length : Int) then (if x_1 < 9 then (if 0 ≤ x_1 then (if x_1 < (a0.length : Int) then (if 128 ≤ (a0.getD (Int.toNat x_1) 0) then (spec_GetVar.l0 k a0 (IntKind.wrap .i64 (x_1 + 1))) else (if (a0.length : Int) ≤ x_1 then (some (0, 0)) else (if 9 ≤ x_1 then (some (0, 0)) else (spec_GetVar.l2 k a0 x_1 0 x_1)))) else none) else none) else (if (a0.length : Int) ≤ x_1 then (some (0, 0)) else (if 9 ≤ x_1 then (some (0, 0)) else (spec_GetVar.l2v1 k a0 x_1 0 x_1)))) else (if (a0.length : Int) ≤ x_1 then (some (0, 0)) else (if 9 ≤ x_1 then (some (0, 0)) else (spec_GetVar.l2v2 k a0 x_1 0 x_1))))
def spec_GetVar.f (k : Nat) (a0 : List Int) : Option (Int × Int) := (spec_GetVar.l0 k a0 0)
theorem spec_GetVar.le (O : Prim) (hO : O = std) (k : Nat) (a0 : List Int) : Le F O M fi75.kills spec_GetVar.e (spec_GetVar.f k a0) (den O M fi75.kills fi75.fn fi75.body (tab.gives 75) (M 75) [.one (.imm 5 a0)] : Tr tab) := by
  refine Le.eqS 0 (by conv => lhs; cbv) ?_
  unfold spec_GetVar.f
  refine Le.loopS (fun (n : Nat) (v : Int) => spec_GetVar.l0 n a0 v) (fun (x_1 : Int) => (⟨[], [.one (.imm 5 a0), D_, D_, D_, .one (.lit (.int .i64 x_1)), D_, D_, D_, D_, D_, D_, D_, D_, D_, D_, D_, D_, D_, D_, D_, D_, D_, D_, D_, D_, D_, D_, D_, D_, D_, D_, D_, D_, D_, D_, D_, D_, D_, D_, D_, D_, D_, D_, D_, D_, D_, D_, D_, D_, D_, D_, D_, D_, D_, D_], [[], [], [], [], [], [], [], [], [], [], [], [], [], [], [], [], [], [], [], [], [], [], [], [], [], [], [], [], [], [], [], [], [], [], [], [], [], [], [], [], [], [], [], [], [], [], [], [], [], [], [], [], [], [], [], []], []⟩ : S tab)) k 0 (by subst hO; rfl) rfl (fun _ => rfl) ?_
  intro n0 hn0 ih0 x_1
  refine Le.eqS 0 (by conv => lhs; cbv) ?_
  show Le F O M _ _ (spec_GetVar.l0 (n0 + 1) a0 x_1) _
  rw [spec_GetVar.l0]
  refine Le.condP 2 9 (by subst hO; rfl) (by conv => lhs; cbv) (by conv => lhs; cbv) ?_ ?_
  · refine Le.condP 2 6 (by subst hO; rfl) (by conv => lhs; cbv) (by conv => lhs; cbv) ?_ ?_
    · refine Le.guardP 0 (by subst hO; rfl) (by conv => lhs; cbv) ?_
      refine Le.guardP 3 (by subst hO; rfl) (by conv => lhs; cbv) ?_
      refine Le.condP 0 0 (by subst hO; rfl) (by conv => lhs; cbv) (by conv => lhs; cbv) ?_ ?_
      · exact Le.again (ih0 n0 (by omega) (O.wrap .i64 (O.add x_1 1))) (by subst hO; rfl) rfl
      · refine Le.condP 3 2 (by subst hO; rfl) (by conv => lhs; cbv) (by conv => lhs; cbv) ?_ ?_
        · exact Le.ret2 (by subst hO; rfl)
        · refine Le.condP 0 0 (by subst hO; rfl) (by conv => lhs; cbv) (by conv => lhs; cbv) ?_ ?_
          · exact Le.ret2 (by subst hO; rfl)
          · refine Le.loopS (fun (n : Nat) (v : Int × Int) => spec_GetVar.l2 n a0 x_1 v.1 v.2) (fun (v : Int × Int) => match v with | (x_4, x_5) => (⟨[], [.one (.imm 5 a0), D_, D_, D_, .one (.lit (.int .i64 x_1)), .one (.lit (.int .i64 x_4)), .one (.lit (.int .i64 x_5)), D_, D_, D_, D_, D_, D_, D_, D_, D_, D_, D_, D_, D_, D_, D_, D_, D_, D_, D_, D_, D_, D_, D_, D_, D_, D_, D_, D_, D_, D_, D_, D_, D_, D_, D_, D_, D_, D_, D_, D_, D_, D_, D_, D_, D_, D_, D_, D_], [[], [], [], [], [], [], [], [], [], [], [], [], [], [], [], [], [], [], [], [], [], [], [], [], [], [], [], [], [], [], [], [], [], [], [], [], [], [], [], [], [], [], [], [], [], [], [], [], [], [], [], [], [], [], [], []], []⟩ : S tab)) n0 (0, x_1) (by subst hO; rfl) rfl (fun _ => rfl) ?_
            intro n2 hn2 ih2 v2
            obtain ⟨x_4, x_5⟩ := v2
            refine Le.eqS 0 (by conv => lhs; cbv) ?_
            show Le F O M _ _ (spec_GetVar.l2 (n2 + 1) a0 x_1 x_4 x_5) _
            rw [spec_GetVar.l2]
            refine Le.condP 0 0 (by subst hO; rfl) (by conv => lhs; cbv) (by conv => lhs; cbv) ?_ ?_
            · refine Le.guardP 0 (by subst hO; rfl) (by conv => lhs; cbv) ?_
              refine Le.guardP 0 (by subst hO; rfl) (by conv => lhs; cbv) ?_
              refine Le.guardN 0 (by subst hO; rfl) (by conv => lhs; cbv) ?_
              exact Le.again (ih2 n2 (by omega) ((O.wrap .i64 (O.add (O.wrap .i64 (O.mul x_4 128)) (O.rem (O.wrap .i64 (O.get 0 a0 x_5)) 128))), (O.wrap .i64 (O.sub x_5 1)))) (by subst hO; rfl) rfl
            · refine Le.callC 0 (fi := fi51) rfl (spec_PutVar.le O hO n2 x_4) (by subst hO; rfl) (by intro r6; conv => lhs; cbv) ?_
              intro r6
              refine Le.condN 0 0 (by subst hO; exact (Bool.not_not _).symm) (by conv => lhs; cbv) (by conv => lhs; cbv) ?_ ?_
              · exact Le.ret2 (by subst hO; rfl)
              · exact Le.ret2 (by subst hO; rfl)
    · refine Le.condP 3 2 (by subst hO; rfl) (by conv => lhs; cbv) (by conv => lhs; cbv) ?_ ?_
      · exact Le.ret2 (by subst hO; rfl)
      · refine Le.condP 0 0 (by subst hO; rfl) (by conv => lhs; cbv) (by conv => lhs; cbv) ?_ ?_
        · exact Le.ret2 (by subst hO; rfl)
        · refine Le.loopS (fun (n : Nat) (v : Int × Int) => spec_GetVar.l2v1 n a0 x_1 v.1 v.2) (fun (v : Int × Int) => match v with | (x_9, x_10) => (⟨[], [.one (.imm 5 a0), D_, D_, D_, .one (.lit (.int .i64 x_1)), .one (.lit (.int .i64 x_9)), .one (.lit (.int .i64 x_10)), D_, D_, D_, D_, D_, D_, D_, D_, D_, D_, D_, D_, D_, D_, D_, D_, D_, D_, D_, D_, D_, D_, D_, D_, D_, D_, D_, D_, D_, D_, D_, D_, D_, D_, D_, D_, D_, D_, D_, D_, D_, D_, D_, D_, D_, D_, D_, D_], [[], [], [], [], [], [], [], [], [], [], [], [], [], [], [], [], [], [], [], [], [], [], [], [], [], [], [], [], [], [], [], [], [], [], [], [], [], [], [], [], [], [], [], [], [], [], [], [], [], [], [], [], [], [], [], []], []⟩ : S tab)) n0 (0, x_1) (by subst hO; rfl) rfl (fun _ => rfl) ?_
          intro n2 hn2 ih2 v2
          obtain ⟨x_9, x_10⟩ := v2
          refine Le.eqS 0 (by conv => lhs; cbv) ?_
          show Le F O M _ _ (spec_GetVar.l2v1 (n2 + 1) a0 x_1 x_9 x_10) _
          rw [spec_GetVar.l2v1]
          refine Le.condP 0 0 (by subst hO; rfl) (by conv => lhs; cbv) (by conv => lhs; cbv) ?_ ?_
          · refine Le.guardP 0 (by subst hO; rfl) (by conv => lhs; cbv) ?_
            refine Le.guardP 0 (by subst hO; rfl) (by conv => lhs; cbv) ?_
            refine Le.guardN 0 (by subst hO; rfl) (by conv => lhs; cbv) ?_
            exact Le.again (ih2 n2 (by omega) ((O.wrap .i64 (O.add (O.wrap .i64 (O.mul x_9 128)) (O.rem (O.wrap .i64 (O.get 0 a0 x_10)) 128))), (O.wrap .i64 (O.sub x_10 1)))) (by subst hO; rfl) rfl
          · refine Le.callC 0 (fi := fi51) rfl (spec_PutVar.le O hO n2 x_9) (by subst hO; rfl) (by intro r11; conv => lhs; cbv) ?_
            intro r11
            refine Le.condN 0 0 (by subst hO; exact (Bool.not_not _).symm) (by conv => lhs; cbv) (by conv => lhs; cbv) ?_ ?_
            · exact Le.ret2 (by subst hO; rfl)
            · exact Le.ret2 (by subst hO; rfl)
  · refine Le.condP 3 2 (by subst hO; rfl) (by conv => lhs; cbv) (by conv => lhs; cbv) ?_ ?_
    · exact Le.ret2 (by subst hO; rfl)
    · refine Le.condP 0 0 (by subst hO; rfl) (by conv => lhs; cbv) (by conv => lhs; cbv) ?_ ?_
      · exact Le.ret2 (by subst hO; rfl)
      · refine Le.loopS (fun (n : Nat) (v : Int × Int) => spec_GetVar.l2v2 n a0 x_1 v.1 v.2) (fun (v : Int × Int) => match v with | (x_14, x_15) => (⟨[], [.one (.imm 5 a0), D_, D_, D_, .one (.lit (.int .i64 x_1)), .one (.lit (.int .i64 x_14)), .one (.lit (.int .i64 x_15)), D_, D_, D_, D_, D_, D_, D_, D_, D_, D_, D_, D_, D_, D_, D_, D_, D_, D_, D_, D_, D_, D_, D_, D_, D_, D_, D_, D_, D_, D_, D_, D_, D_, D_, D_, D_, D_, D_, D_, D_, D_, D_, D_, D_, D_, D_, D_, D_], [[], [], [], [], [], [], [], [], [], [], [], [], [], [], [], [], [], [], [], [], [], [], [], [], [], [], [], [], [], [], [], [], [], [], [], [], [], [], [], [], [], [], [], [], [], [], [], [], [], [], [], [], [], [], [], []], []⟩ : S tab)) n0 (0, x_1) (by subst hO; rfl) rfl (fun _ => rfl) ?_
        intro n2 hn2 ih2 v2
        obtain ⟨x_14, x_15⟩ := v2
        refine Le.eqS 0 (by conv => lhs; cbv) ?_
        show Le F O M _ _ (spec_GetVar.l2v2 (n2 + 1) a0 x_1 x_14 x_15) _
        rw [spec_GetVar.l2v2]
        refine Le.condP 0 0 (by subst hO; rfl) (by conv => lhs; cbv) (by conv => lhs; cbv) ?_ ?_
        · refine Le.guardP 0 (by subst hO; rfl) (by conv => lhs; cbv) ?_
          refine Le.guardP 0 (by subst hO; rfl) (by conv => lhs; cbv) ?_
          refine Le.guardN 0 (by subst hO; rfl) (by conv => lhs; cbv) ?_
          exact Le.again (ih2 n2 (by omega) ((O.wrap .i64 (O.add (O.wrap .i64 (O.mul x_14 128)) (O.rem (O.wrap .i64 (O.get 0 a0 x_15)) 128))), (O.wrap .i64 (O.sub x_15 1)))) (by subst hO; rfl) rfl
        · refine Le.callC 0 (fi := fi51) rfl (spec_PutVar.le O hO n2 x_14) (by subst hO; rfl) (by intro r16; conv => lhs; cbv) ?_
          intro r16
          refine Le.condN 0 0 (by subst hO; exact (Bool.not_not _).symm) (by conv => lhs; cbv) (by conv => lhs; cbv) ?_ ?_
          · exact Le.ret2 (by subst hO; rfl)
          · exact Le.ret2 (by subst hO; rfl)
/-! ### loop.example/g00100/spec.l12Var -/
def spec_l12Var_i.e (r : Int × GL12Cur) : Res tab := (([], [[.imm 5 r.2.B, .lit (.bool r.2.Bad)]]), .one (.lit (.int .i64 r.1)))
def spec_l12Var_i.f (k : Nat) (a0 : GL12Cur) : Option (Int × GL12Cur) := ((spec_GetVar.f k a0.B).bind fun r0 => (if r0.2 = 0 then (some (0, (⟨a0.B, true⟩ : GL12Cur))) else (if 0 ≤ r0.2 then (if r0.2 ≤ (a0.B.length : Int) then (if (a0.B.length : Int) ≤ (a0.B.length : Int) then (some (r0.1, (⟨(std.ext a0.B r0.2 (a0.B.length : Int)), a0.Bad⟩ : GL12Cur))) else none) else none) else none)))
theorem spec_l12Var_i.le (O : Prim) (hO : O = std) (k : Nat) (a0 : GL12Cur) : Le F O M fi39.kills spec_l12Var_i.e (spec_l12Var_i.f k a0) (den O M fi39.kills fi39.fn fi39.body (tab.gives 39) (M 39) [.agg [.imm 5 a0.B, .lit (.bool a0.Bad)]] : Tr tab) := by
  refine Le.eqS 0 (by conv => lhs; cbv) ?_
  unfold spec_l12Var_i.f
  refine Le.callC 0 (fi := fi75) rfl (spec_GetVar.le O hO k a0.B) (by subst hO; rfl) (by intro r0; conv => lhs; cbv) ?_
  intro r0
  refine Le.condP 0 0 (by subst hO; rfl) (by conv => lhs; cbv) (by conv => lhs; cbv) ?_ ?_
  · exact Le.ret2 (by subst hO; rfl)
  · refine Le.guardP 0 (by subst hO; rfl) (by conv => lhs; cbv) ?_
    refine Le.guardP 0 (by subst hO; rfl) (by conv => lhs; cbv) ?_
    refine Le.guardP 0 (by subst hO; rfl) (by conv => lhs; cbv) ?_
    exact Le.ret2 (by subst hO; rfl)
/-! ### loop.example/g00100/spec.GetText -/
def spec_GetText.e (r : ByteArray × Int) : Res tab := (([], []), .tup [(false, [.lit (.string r.1)]), (false, [.lit (.int .i64 r.2)])])
def spec_GetText.f (k : Nat) (a0 : List Int) : Option (ByteArray × Int) := ((spec_GetVar.f k a0).bind fun r0 => (if r0.2 = 0 then (some ((⟨#[]⟩ : ByteArray), 0)) else (if 20000 < r0.1 then (some ((⟨#[]⟩ : ByteArray), 0)) else (if (IntKind.wrap .i64 ((a0.length : Int) - r0.2)) < r0.1 then (some ((⟨#[]⟩ : ByteArray), 0)) else (if 0 ≤ r0.2 then (if r0.2 ≤ (IntKind.wrap .i64 (r0.2 + r0.1)) then (if (IntKind.wrap .i64 (r0.2 + r0.1)) ≤ (a0.length : Int) then (some ((std.strOf (std.ext a0 r0.2 (IntKind.wrap .i64 (r0.2 + r0.1)))), (IntKind.wrap .i64 (r0.2 + r0.1)))) else none) else none) else none)))))
theorem spec_GetText.le (O : Prim) (hO : O = std) (k : Nat) (a0 : List Int) : Le F O M fi76.kills spec_GetText.e (spec_GetText.f k a0) (den O M fi76.kills fi76.fn fi76.body (tab.gives 76) (M 76) [.one (.imm 5 a0)] : Tr tab) := by
  refine Le.eqS 0 (by conv => lhs; cbv) ?_
  unfold spec_GetText.f
  refine Le.callC 0 (fi := fi75) rfl (spec_GetVar.le O hO k a0) (by subst hO; rfl) (by intro r0; conv => lhs; cbv) ?_
  intro r0
  refine Le.condP 10 2 (by subst hO; rfl) (by conv => lhs; cbv) (by conv => lhs; cbv) ?_ ?_
  · exact Le.ret2 (by subst hO; rfl)
  · refine Le.condP 7 6 (by subst hO; rfl) (by conv => lhs; cbv) (by conv => lhs; cbv) ?_ ?_
    · exact Le.ret2 (by subst hO; rfl)
    · refine Le.condP 0 0 (by subst hO; rfl) (by conv => lhs; cbv) (by conv => lhs; cbv) ?_ ?_
      · exact Le.ret2 (by subst hO; rfl)
      · refine Le.guardP 0 (by subst hO; rfl) (by conv => lhs; cbv) ?_
        refine Le.guardP 0 (by subst hO; rfl) (by conv => lhs; cbv) ?_
        refine Le.guardP 0 (by subst hO; rfl) (by conv => lhs; cbv) ?_
        exact Le.ret2 (by subst hO; rfl)
/-! ### loop.example/g00100/spec.l12Text -/
def spec_l12Text_i.e (r : ByteArray × GL12Cur) : Res tab := (([], [[.imm 5 r.2.B, .lit (.bool r.2.Bad)]]), .one (.lit (.string r.1)))
def spec_l12Text_i.f (k : Nat) (a0 : GL12Cur) : Option (ByteArray × GL12Cur) := ((spec_GetText.f k a0.B).bind fun r0 => (if r0.2 = 0 then (some ((⟨#[]⟩ : ByteArray), (⟨a0.B, true⟩ : GL12Cur))) else (if 0 ≤ r0.2 then (if r0.2 ≤ (a0.B.length : Int) then (if (a0.B.length : Int) ≤ (a0.B.length : Int) then (some (r0.1, (⟨(std.ext a0.B r0.2 (a0.B.length : Int)), a0.Bad⟩ : GL12Cur))) else none) else none) else none)))
theorem spec_l12Text_i.le (O : Prim) (hO : O = std) (k : Nat) (a0 : GL12Cur) : Le F O M fi40.kills spec_l12Text_i.e (spec_l12Text_i.f k a0) (den O M fi40.kills fi40.fn fi40.body (tab.gives 40) (M 40) [.agg [.imm 5 a0.B, .lit (.bool a0.Bad)]] : Tr tab) := by
  refine Le.eqS 0 (by conv => lhs; cbv) ?_
  unfold spec_l12Text_i.f
  refine Le.callC 0 (fi := fi76) rfl (spec_GetText.le O hO k a0.B) (by subst hO; rfl) (by intro r0; conv => lhs; cbv) ?_
  intro r0
  refine Le.condP 0 0 (by subst hO; rfl) (by conv => lhs; cbv) (by conv => lhs; cbv) ?_ ?_
  · exact Le.ret2 (by subst hO; rfl)
  · refine Le.guardP 0 (by subst hO; rfl) (by conv => lhs; cbv) ?_
    refine Le.guardP 0 (by subst hO; rfl) (by conv => lhs; cbv) ?_
    refine Le.guardP 0 (by subst hO; rfl) (by conv => lhs; cbv) ?_
    exact Le.ret2 (by subst hO; rfl)
/-! ### loop.example/g00100/spec.l02Names -/
def spec_l02Names.e (r : List ByteArray) : Res tab := (([], []), .one (.own 9 r))
def spec_l02Names.l0 : Nat → ByteArray → (List ByteArray) → Int → Int → Option (List ByteArray)
  | 0, _, _, _, _ => none
  | k + 1, a0, x_3, x_4, x_5 => (if x_5 < (a0.size : Int) then (if 0 ≤ x_5 then (if x_5 < (a0.size : Int) then (if (std.sget a0 x_5) = 47 then (if 0 ≤ x_4 then (if x_4 ≤ x_5 then (if x_5 ≤ (a0.size : Int) then (if (((x_3.length : Int) + ([(a0.extract (Int.toNat x_4) (Int.toNat x_5))].length : Int)) * 16) ≤ 140737488351232 then (spec_l02Names.l0 k a0 (x_3 ++ [(a0.extract (Int.toNat x_4) (Int.toNat x_5))]) (IntKind.wrap .i64 (x_5 + 1)) (IntKind.wrap .i64 (x_5 + 1))) else none) else none) else none) else none) else (spec_l02Names.l0 k a0 x_3 x_4 (IntKind.wrap .i64 (x_5 + 1)))) else none) else none) else (if 0 ≤ x_4 then (if x_4 ≤ (a0.size : Int) then (if (a0.size : Int) ≤ (a0.size : Int) then (if (((x_3.length : Int) + ([(a0.extract (Int.toNat x_4) (Int.toNat (a0.size : Int)))].length : Int)) * 16) ≤ 140737488351232 then (some (x_3 ++ [(a0.extract (Int.toNat x_4) (Int.toNat (a0.size : Int)))])) else none) else none) else none) else none))
def spec_l02Names.f (k : Nat) (a0 : ByteArray) : Option (List ByteArray) := (spec_l02Names.l0 k a0 ([] : List ByteArray) 0 0)
theorem spec_l02Names.le (O : Prim) (hO : O = std) (k : Nat) (a0 : ByteArray) : Le F O M fi101.kills spec_l02Names.e (spec_l02Names.f k a0) (den O M fi101.kills fi101.fn fi101.body (tab.gives 101) (M 101) [.one (.lit (.string a0))] : Tr tab) := by
  refine Le.eqS 0 (by conv => lhs; cbv) ?_
  unfold spec_l02Names.f
  refine Le.loopS (fun (n : Nat) (v : List ByteArray × Int × Int) => spec_l02Names.l0 n a0 v.1 v.2.1 v.2.2) (fun (v : List ByteArray × Int × Int) => match v with | (x_3, x_4, x_5) => (⟨[], [.one (.lit (.string a0)), D_, D_, .one (.own 9 x_3), .one (.lit (.int .i64 x_4)), .one (.lit (.int .i64 x_5)), D_, D_, D_, D_, D_, D_, D_, D_, D_, D_, D_, D_, D_, D_, D_, D_, D_, D_, D_, D_, D_, D_, D_, D_, D_, D_], [[], [], [], [], [], [], [], [], [], [], [], [], [], [], [], [], [], [], [], [], [], [], [], [], [], [], [], [], [], [], [], [], []], []⟩ : S tab)) k (([] : List ByteArray), 0, 0) (by subst hO; rfl) rfl (fun _ => rfl) ?_
  intro n0 hn0 ih0 v0
  obtain ⟨x_3, x_4, x_5⟩ := v0
  refine Le.eqS 0 (by conv => lhs; cbv) ?_
  show Le F O M _ _ (spec_l02Names.l0 (n0 + 1) a0 x_3 x_4 x_5) _
  rw [spec_l02Names.l0]
  refine Le.condP 0 0 (by subst hO; rfl) (by conv => lhs; cbv) (by conv => lhs; cbv) ?_ ?_
  · refine Le.guardP 0 (by subst hO; rfl) (by conv => lhs; cbv) ?_
    refine Le.guardP 0 (by subst hO; rfl) (by conv => lhs; cbv) ?_
    refine Le.condP 0 0 (by subst hO; rfl) (by conv => lhs; cbv) (by conv => lhs; cbv) ?_ ?_
    · refine Le.guardP 0 (by subst hO; rfl) (by conv => lhs; cbv) ?_
      refine Le.guardP 0 (by subst hO; rfl) (by conv => lhs; cbv) ?_
      refine Le.guardP 0 (by subst hO; rfl) (by conv => lhs; cbv) ?_
      refine Le.guardP 0 (by subst hO; rfl) (by conv => lhs; cbv) ?_
      exact Le.again (ih0 n0 (by omega) ((O.app x_3 [(O.sext a0 x_4 x_5)]), (O.wrap .i64 (O.add x_5 1)), (O.wrap .i64 (O.add x_5 1)))) (by subst hO; rfl) rfl
    · exact Le.again (ih0 n0 (by omega) (x_3, x_4, (O.wrap .i64 (O.add x_5 1)))) (by subst hO; rfl) rfl
  · refine Le.guardP 0 (by subst hO; rfl) (by conv => lhs; cbv) ?_
    refine Le.guardP 0 (by subst hO; rfl) (by conv => lhs; cbv) ?_
    refine Le.guardP 0 (by subst hO; rfl) (by conv => lhs; cbv) ?_
    refine Le.guardP 0 (by subst hO; rfl) (by conv => lhs; cbv) ?_
    exact Le.ret2 (by subst hO; rfl)
/-! ### loop.example/g00100/spec.l01In -/
def spec_l01In.e (r : Bool) : Res tab := (([], []), .one (.lit (.bool r)))
def spec_l01In.f (a0 : Int) (a1 : Int) (a2 : Int) : Option Bool := (if a1 ≤ a0 then (some (decide (a0 ≤ a2))) else (some false))
theorem spec_l01In.le (O : Prim) (hO : O = std) (a0 : Int) (a1 : Int) (a2 : Int) : Le F O M fi67.kills spec_l01In.e (spec_l01In.f a0 a1 a2) (den O M fi67.kills fi67.fn fi67.body (tab.gives 67) (M 67) [.one (.lit (.int .i64 a0)), .one (.lit (.int .i64 a1)), .one (.lit (.int .i64 a2))] : Tr tab) := by
  refine Le.eqS 0 (by conv => lhs; cbv) ?_
  unfold spec_l01In.f
  refine Le.condP 3 3 (by subst hO; rfl) (by conv => lhs; cbv) (by conv => lhs; cbv) ?_ ?_
  · exact Le.ret2 (by subst hO; rfl)
  · exact Le.ret2 (by subst hO; rfl)
/-! ### loop.example/g00100/spec.NameOk -/
def spec_NameOk.e (r : Bool) : Res tab := (([], []), .one (.lit (.bool r)))
def spec_NameOk.l0 : Nat → ByteArray → Int → Option Bool
  | 0, _, _ => none
  | k + 1, a0, x_8 => (if x_8 < (a0.size : Int) then (if 0 ≤ x_8 then (if x_8 < (a0.size : Int) then ((spec_l01In.f (IntKind.wrap .i64 (std.sget a0 x_8)) 97 122).bind fun r9 => (if r9 = true then (spec_NameOk.l0 k a0 (IntKind.wrap .i64 (x_8 + 1))) else ((spec_l01In.f (IntKind.wrap .i64 (std.sget a0 x_8)) 65 90).bind fun r10 => (if r10 = true then (spec_NameOk.l0 k a0 (IntKind.wrap .i64 (x_8 + 1))) else ((spec_l01In.f (IntKind.wrap .i64 (std.sget a0 x_8)) 48 57).bind fun r11 => (if r11 = true then (spec_NameOk.l0 k a0 (IntKind.wrap .i64 (x_8 + 1))) else (if 0 ≤ x_8 then (if x_8 < (a0.size : Int) then (if (std.sget a0 x_8) = 46 then (spec_NameOk.l0 k a0 (IntKind.wrap .i64 (x_8 + 1))) else (if 0 ≤ x_8 then (if x_8 < (a0.size : Int) then (if (std.sget a0 x_8) = 95 then (spec_NameOk.l0 k a0 (IntKind.wrap .i64 (x_8 + 1))) else (if 0 ≤ x_8 then (if x_8 < (a0.size : Int) then (if (std.sget a0 x_8) = 45 then (spec_NameOk.l0 k a0 (IntKind.wrap .i64 (x_8 + 1))) else (some false)) else none) else none)) else none) else none)) else none) else none))))))) else none) else none) else (some true))
def spec_NameOk.f (k : Nat) (a0 : ByteArray) : Option Bool := ((spec_l01In.f (a0.size : Int) 1 20).bind fun r0 => (if r0 = true then (if a0 = (⟨#[46]⟩ : ByteArray) then (some false) else (if a0 = (⟨#[46, 46]⟩ : ByteArray) then (some false) else (spec_NameOk.l0 k a0 0))) else (some false)))
theorem spec_NameOk.le (O : Prim) (hO : O = std) (k : Nat) (a0 : ByteArray) : Le F O M fi102.kills spec_NameOk.e (spec_NameOk.f k a0) (den O M fi102.kills fi102.fn fi102.body (tab.gives 102) (M 102) [.one (.lit (.string a0))] : Tr tab) := by
  refine Le.eqS 0 (by conv => lhs; cbv) ?_
  unfold spec_NameOk.f
  refine Le.callC 0 (fi := fi67) rfl (spec_l01In.le O hO (O.ssize a0) 1 20) (by subst hO; rfl) (by intro r0; conv => lhs; cbv) ?_
  intro r0
  refine Le.condN 6 2 (by subst hO; exact Bool.decide_eq_true.trans (Bool.not_not _).symm) (by conv => lhs; cbv) (by conv => lhs; cbv) ?_ ?_
  · exact Le.ret2 (by subst hO; rfl)
  · refine Le.condP 3 2 (by subst hO; exact seq_dec _ _) (by conv => lhs; cbv) (by conv => lhs; cbv) ?_ ?_
    · exact Le.ret2 (by subst hO; rfl)
    · refine Le.condP 0 0 (by subst hO; exact seq_dec _ _) (by conv => lhs; cbv) (by conv => lhs; cbv) ?_ ?_
      · exact Le.ret2 (by subst hO; rfl)
      · refine Le.loopS (fun (n : Nat) (v : Int) => spec_NameOk.l0 n a0 v) (fun (x_8 : Int) => (⟨[], [.one (.lit (.string a0)), D_, D_, .one (.lit (.int .i64 x_8)), D_, D_, D_, D_, D_, D_, D_, D_, D_, D_, D_, D_, D_, D_, D_, D_, D_, D_, D_, D_, D_, D_, D_, D_, D_, D_, D_, D_, D_, D_, D_, D_, D_, D_, D_, D_, D_, D_, D_, D_, D_, D_, D_, D_, D_, D_, D_, D_, D_, D_, D_, D_, D_, D_], [[], [], [], [], [], [], [], [], [], [], [], [], [], [], [], [], [], [], [], [], [], [], [], [], [], [], [], [], [], [], [], [], [], [], [], [], [], [], [], [], [], [], [], [], [], [], [], [], [], [], [], [], [], [], [], [], [], [], []], []⟩ : S tab)) k 0 (by subst hO; rfl) rfl (fun _ => rfl) ?_
        intro n0 hn0 ih0 x_8
        refine Le.eqS 0 (by conv => lhs; cbv) ?_
        show Le F O M _ _ (spec_NameOk.l0 (n0 + 1) a0 x_8) _
        rw [spec_NameOk.l0]
        refine Le.condP 0 0 (by subst hO; rfl) (by conv => lhs; cbv) (by conv => lhs; cbv) ?_ ?_
        · refine Le.guardP 0 (by subst hO; rfl) (by conv => lhs; cbv) ?_
          refine Le.guardP 0 (by subst hO; rfl) (by conv => lhs; cbv) ?_
          refine Le.callC 0 (fi := fi67) rfl (spec_l01In.le O hO (O.wrap .i64 (O.sget a0 x_8)) 97 122) (by subst hO; rfl) (by intro r9; conv => lhs; cbv) ?_
          intro r9
          refine Le.condN 1 23 (by subst hO; exact Bool.decide_eq_true.trans (Bool.not_not _).symm) (by conv => lhs; cbv) (by conv => lhs; cbv) ?_ ?_
          · refine Le.callC 2 (fi := fi67) rfl (spec_l01In.le O hO (O.wrap .i64 (O.sget a0 x_8)) 65 90) (by subst hO; rfl) (by intro r10; conv => lhs; cbv) ?_
            intro r10
            refine Le.condN 1 19 (by subst hO; exact Bool.decide_eq_true.trans (Bool.not_not _).symm) (by conv => lhs; cbv) (by conv => lhs; cbv) ?_ ?_
            · refine Le.callC 2 (fi := fi67) rfl (spec_l01In.le O hO (O.wrap .i64 (O.sget a0 x_8)) 48 57) (by subst hO; rfl) (by intro r11; conv => lhs; cbv) ?_
              intro r11
              refine Le.condN 2 15 (by subst hO; exact Bool.decide_eq_true.trans (Bool.not_not _).symm) (by conv => lhs; cbv) (by conv => lhs; cbv) ?_ ?_
              · refine Le.guardP 0 (by subst hO; rfl) (by conv => lhs; cbv) ?_
                refine Le.guardP 2 (by subst hO; rfl) (by conv => lhs; cbv) ?_
                refine Le.condN 2 10 (by subst hO; exact (Bool.not_not _).symm) (by conv => lhs; cbv) (by conv => lhs; cbv) ?_ ?_
                · refine Le.guardP 0 (by subst hO; rfl) (by conv => lhs; cbv) ?_
                  refine Le.guardP 2 (by subst hO; rfl) (by conv => lhs; cbv) ?_
                  refine Le.condN 2 5 (by subst hO; exact (Bool.not_not _).symm) (by conv => lhs; cbv) (by conv => lhs; cbv) ?_ ?_
                  · refine Le.guardP 0 (by subst hO; rfl) (by conv => lhs; cbv) ?_
                    refine Le.guardP 2 (by subst hO; rfl) (by conv => lhs; cbv) ?_
                    refine Le.condN 0 0 (by subst hO; exact (Bool.not_not _).symm) (by conv => lhs; cbv) (by conv => lhs; cbv) ?_ ?_
                    · exact Le.ret2 (by subst hO; rfl)
                    · exact Le.again (ih0 n0 (by omega) (O.wrap .i64 (O.add x_8 1))) (by subst hO; rfl) rfl
                  · exact Le.again (ih0 n0 (by omega) (O.wrap .i64 (O.add x_8 1))) (by subst hO; rfl) rfl
                · exact Le.again (ih0 n0 (by omega) (O.wrap .i64 (O.add x_8 1))) (by subst hO; rfl) rfl
              · exact Le.again (ih0 n0 (by omega) (O.wrap .i64 (O.add x_8 1))) (by subst hO; rfl) rfl
            · exact Le.again (ih0 n0 (by omega) (O.wrap .i64 (O.add x_8 1))) (by subst hO; rfl) rfl
          · exact Le.again (ih0 n0 (by omega) (O.wrap .i64 (O.add x_8 1))) (by subst hO; rfl) rfl
        · exact Le.ret2 (by subst hO; rfl)
/-! ### loop.example/g00100/spec.PathOk -/
def spec_PathOk.e (r : Bool) : Res tab := (([], []), .one (.lit (.bool r)))
def spec_PathOk.l0 : Nat → (List ByteArray) → Int → Option Bool
  | 0, _, _ => none
  | k + 1, r0, x_4 => (if x_4 < (r0.length : Int) then (if 0 ≤ x_4 then (if x_4 < (r0.length : Int) then ((spec_NameOk.f k (r0.getD (Int.toNat x_4) (⟨#[]⟩ : ByteArray))).bind fun r5 => (if r5 = true then (spec_PathOk.l0 k r0 (IntKind.wrap .i64 (x_4 + 1))) else (some false))) else none) else none) else (some (decide ((r0.length : Int) ≤ 8))))
def spec_PathOk.f (k : Nat) (a0 : ByteArray) : Option Bool := (if 200 < (a0.size : Int) then (some false) else ((spec_l02Names.f k a0).bind fun r0 => (spec_PathOk.l0 k r0 0)))
theorem spec_PathOk.le (O : Prim) (hO : O = std) (k : Nat) (a0 : ByteArray) : Le F O M fi66.kills spec_PathOk.e (spec_PathOk.f k a0) (den O M fi66.kills fi66.fn fi66.body (tab.gives 66) (M 66) [.one (.lit (.string a0))] : Tr tab) := by
  refine Le.eqS 0 (by conv => lhs; cbv) ?_
  unfold spec_PathOk.f
  refine Le.condP 0 0 (by subst hO; rfl) (by conv => lhs; cbv) (by conv => lhs; cbv) ?_ ?_
  · exact Le.ret2 (by subst hO; rfl)
  · refine Le.callC 0 (fi := fi101) rfl (spec_l02Names.le O hO k a0) (by subst hO; rfl) (by intro r0; conv => lhs; cbv) ?_
    intro r0
    refine Le.loopS (fun (n : Nat) (v : Int) => spec_PathOk.l0 n r0 v) (fun (x_4 : Int) => (⟨[], [D_, D_, D_, .one (.own 9 r0), .one (.lit (.int .i64 x_4)), D_, D_, D_, D_, D_, D_, D_, D_, D_, D_, D_, D_, D_, D_, D_, D_, D_, D_, D_, D_], [[], [], [], [], [], [], [], [], [], [], [], [], [], [], [], [], [], [], [], [], [], [], [], [], [], []], []⟩ : S tab)) k 0 (by subst hO; rfl) rfl (fun _ => rfl) ?_
    intro n0 hn0 ih0 x_4
    refine Le.eqS 0 (by conv => lhs; cbv) ?_
    show Le F O M _ _ (spec_PathOk.l0 (n0 + 1) r0 x_4) _
    rw [spec_PathOk.l0]
    refine Le.condP 0 0 (by subst hO; rfl) (by conv => lhs; cbv) (by conv => lhs; cbv) ?_ ?_
    · refine Le.guardP 0 (by subst hO; rfl) (by conv => lhs; cbv) ?_
      refine Le.guardP 0 (by subst hO; rfl) (by conv => lhs; cbv) ?_
      refine Le.callC 0 (fi := fi102) rfl (spec_NameOk.le O hO n0 (O.get (⟨#[]⟩ : ByteArray) r0 x_4)) (by subst hO; rfl) (by intro r5; conv => lhs; cbv) ?_
      intro r5
      refine Le.condN 0 0 (by subst hO; exact Bool.decide_eq_true.trans (Bool.not_not _).symm) (by conv => lhs; cbv) (by conv => lhs; cbv) ?_ ?_
      · exact Le.ret2 (by subst hO; rfl)
      · exact Le.again (ih0 n0 (by omega) (O.wrap .i64 (O.add x_4 1))) (by subst hO; rfl) rfl
    · exact Le.ret2 (by subst hO; rfl)
/-! ### loop.example/g00100/spec.NodeOk -/
def spec_NodeOk.e (r : Bool) : Res tab := (([], []), .one (.lit (.bool r)))
def spec_NodeOk.l1 : Nat → GNode → Int → Option Bool
  | 0, _, _ => none
  | k + 1, a0, x_6 => (if x_6 < (a0.Target.size : Int) then (if 0 ≤ x_6 then (if x_6 < (a0.Target.size : Int) then (if (std.sget a0.Target x_6) = 10 then (some false) else (spec_NodeOk.l1 k a0 (IntKind.wrap .i64 (x_6 + 1)))) else none) else none) else (some true))
def spec_NodeOk.f (k : Nat) (a0 : GNode) : Option Bool := ((spec_PathOk.f k a0.Path).bind fun r0 => (if r0 = true then ((spec_l01In.f a0.Mode 0 511).bind fun r1 => (if r1 = true then ((spec_l01In.f a0.Time 0 1000000000).bind fun r2 => (if r2 = true then (if a0.Kind = 0 then (if a0.Data = (⟨#[]⟩ : ByteArray) then (if a0.Target = (⟨#[]⟩ : ByteArray) then (some (decide (a0.Group = 0))) else (some false)) else (some false)) else (if a0.Kind = 1 then (if (a0.Data.size : Int) ≤ 20000 then (if a0.Target = (⟨#[]⟩ : ByteArray) then ((spec_l01In.f a0.Group 0 200).bind fun r3 => (some r3)) else (some false)) else (some false)) else (if a0.Kind = 2 then (if a0.Data = (⟨#[]⟩ : ByteArray) then (if a0.Mode = 0 then (if a0.Group = 0 then ((spec_l01In.f (a0.Target.size : Int) 1 60).bind fun r4 => (if r4 = true then (spec_NodeOk.l1 k a0 0) else (some false))) else (some false)) else (some false)) else (some false)) else (some false)))) else (some false))) else (some false))) else (some false)))
theorem spec_NodeOk.le (O : Prim) (hO : O = std) (k : Nat) (a0 : GNode) : Le F O M fi34.kills spec_NodeOk.e (spec_NodeOk.f k a0) (den O M fi34.kills fi34.fn fi34.body (tab.gives 34) (M 34) [.agg [.lit (.string a0.Path), .lit (.int .i64 a0.Kind), .lit (.int .i64 a0.Mode), .lit (.int .i64 a0.Time), .lit (.string a0.Data), .lit (.string a0.Target), .lit (.int .i64 a0.Group)]] : Tr tab) := by
  refine Le.eqS 0 (by conv => lhs; cbv) ?_
  unfold spec_NodeOk.f
  refine Le.callC 0 (fi := fi66) rfl (spec_PathOk.le O hO k a0.Path) (by subst hO; rfl) (by intro r0; conv => lhs; cbv) ?_
  intro r0
  refine Le.condN 10 2 (by subst hO; exact Bool.decide_eq_true.trans (Bool.not_not _).symm) (by conv => lhs; cbv) (by conv => lhs; cbv) ?_ ?_
  · exact Le.ret2 (by subst hO; rfl)
  · refine Le.callC 2 (fi := fi67) rfl (spec_l01In.le O hO a0.Mode 0 511) (by subst hO; rfl) (by intro r1; conv => lhs; cbv) ?_
    intro r1
    refine Le.condN 5 2 (by subst hO; exact Bool.decide_eq_true.trans (Bool.not_not _).symm) (by conv => lhs; cbv) (by conv => lhs; cbv) ?_ ?_
    · exact Le.ret2 (by subst hO; rfl)
    · refine Le.callC 2 (fi := fi67) rfl (spec_l01In.le O hO a0.Time 0 1000000000) (by subst hO; rfl) (by intro r2; conv => lhs; cbv) ?_
      intro r2
      refine Le.condN 0 0 (by subst hO; exact Bool.decide_eq_true.trans (Bool.not_not _).symm) (by conv => lhs; cbv) (by conv => lhs; cbv) ?_ ?_
      · exact Le.ret2 (by subst hO; rfl)
      · refine Le.condP 0 0 (by subst hO; rfl) (by conv => lhs; cbv) (by conv => lhs; cbv) ?_ ?_
        · refine Le.condP 3 7 (by subst hO; exact seq_dec _ _) (by conv => lhs; cbv) (by conv => lhs; cbv) ?_ ?_
          · refine Le.condP 3 3 (by subst hO; exact seq_dec _ _) (by conv => lhs; cbv) (by conv => lhs; cbv) ?_ ?_
            · exact Le.ret2 (by subst hO; rfl)
            · exact Le.ret2 (by subst hO; rfl)
          · exact Le.ret2 (by subst hO; rfl)
        · refine Le.condP 0 0 (by subst hO; rfl) (by conv => lhs; cbv) (by conv => lhs; cbv) ?_ ?_
          · refine Le.condP 3 7 (by subst hO; rfl) (by conv => lhs; cbv) (by conv => lhs; cbv) ?_ ?_
            · refine Le.condP 2 3 (by subst hO; exact seq_dec _ _) (by conv => lhs; cbv) (by conv => lhs; cbv) ?_ ?_
              · refine Le.callC 1 (fi := fi67) rfl (spec_l01In.le O hO a0.Group 0 200) (by subst hO; rfl) (by intro r3; conv => lhs; cbv) ?_
                intro r3
                exact Le.ret2 (by subst hO; rfl)
              · exact Le.ret2 (by subst hO; rfl)
            · exact Le.ret2 (by subst hO; rfl)
          · refine Le.condP 0 0 (by subst hO; rfl) (by conv => lhs; cbv) (by conv => lhs; cbv) ?_ ?_
            · refine Le.condN 14 3 (by subst hO; exact (seq_dec _ _).trans (Bool.not_not _).symm) (by conv => lhs; cbv) (by conv => lhs; cbv) ?_ ?_
              · exact Le.ret2 (by subst hO; rfl)
              · refine Le.condN 10 3 (by subst hO; exact (Bool.not_not _).symm) (by conv => lhs; cbv) (by conv => lhs; cbv) ?_ ?_
                · exact Le.ret2 (by subst hO; rfl)
                · refine Le.condN 6 3 (by subst hO; exact (Bool.not_not _).symm) (by conv => lhs; cbv) (by conv => lhs; cbv) ?_ ?_
                  · exact Le.ret2 (by subst hO; rfl)
                  · refine Le.callC 2 (fi := fi67) rfl (spec_l01In.le O hO (O.ssize a0.Target) 1 60) (by subst hO; rfl) (by intro r4; conv => lhs; cbv) ?_
                    intro r4
                    refine Le.condN 0 0 (by subst hO; exact Bool.decide_eq_true.trans (Bool.not_not _).symm) (by conv => lhs; cbv) (by conv => lhs; cbv) ?_ ?_
                    · exact Le.ret2 (by subst hO; rfl)
                    · refine Le.loopS (fun (n : Nat) (v : Int) => spec_NodeOk.l1 n a0 v) (fun (x_6 : Int) => (⟨[], [D_, .one (.ptr ⟨5, 0, []⟩), D_, .one (.lit (.int .i64 x_6)), D_, D_, D_, D_, D_, D_, D_, D_, D_, D_, D_, D_, D_, D_, D_, D_, D_, D_, D_, D_, D_, D_, D_, D_, D_, D_, D_, D_, D_, D_, D_, D_, D_, D_, D_, D_, D_, D_, D_, D_, D_, D_, D_, D_, D_, D_, D_, D_, D_, D_, D_, D_, D_, D_, D_, D_, D_, D_, D_, D_, D_, D_, D_, D_, D_, D_, D_, D_, D_, D_, D_, D_, D_, D_, D_, D_, D_, D_, D_, D_, D_, D_, D_], [[], [.lit (.string a0.Path), .lit (.int .i64 a0.Kind), .lit (.int .i64 a0.Mode), .lit (.int .i64 a0.Time), .lit (.string a0.Data), .lit (.string a0.Target), .lit (.int .i64 a0.Group)], [], [], [], [], [], [], [], [], [], [], [], [], [], [], [], [], [], [], [], [], [], [], [], [], [], [], [], [], [], [], [], [], [], [], [], [], [], [], [], [], [], [], [], [], [], [], [], [], [], [], [], [], [], [], [], [], [], [], [], [], [], [], [], [], [], [], [], [], [], [], [], [], [], [], [], [], [], [], [], [], [], [], [], [], [], []], []⟩ : S tab)) k 0 (by subst hO; rfl) rfl (fun _ => rfl) ?_
                      intro n1 hn1 ih1 x_6
                      refine Le.eqS 0 (by conv => lhs; cbv) ?_
                      show Le F O M _ _ (spec_NodeOk.l1 (n1 + 1) a0 x_6) _
                      rw [spec_NodeOk.l1]
                      refine Le.condP 0 0 (by subst hO; rfl) (by conv => lhs; cbv) (by conv => lhs; cbv) ?_ ?_
                      · refine Le.guardP 0 (by subst hO; rfl) (by conv => lhs; cbv) ?_
                        refine Le.guardP 0 (by subst hO; rfl) (by conv => lhs; cbv) ?_
                        refine Le.condP 0 0 (by subst hO; rfl) (by conv => lhs; cbv) (by conv => lhs; cbv) ?_ ?_
                        · exact Le.ret2 (by subst hO; rfl)
                        · exact Le.again (ih1 n1 (by omega) (O.wrap .i64 (O.add x_6 1))) (by subst hO; rfl) rfl
                      · exact Le.ret2 (by subst hO; rfl)
            · exact Le.ret2 (by subst hO; rfl)
/-! ### loop.example/g00100/spec.EntriesOk -/
def spec_EntriesOk.e (r : Bool) : Res tab := (([], []), .one (.lit (.bool r)))
def spec_EntriesOk.l0 : Nat → (List GEntry) → Int → Option Bool
  | 0, _, _ => none
  | k + 1, a0, x_5 => (if x_5 < (a0.length : Int) then (if 0 ≤ x_5 then (if x_5 < (a0.length : Int) then ((spec_NodeOk.f k (⟨(a0.getD (Int.toNat x_5) (⟨(⟨#[]⟩ : ByteArray), 0, 0, 0, 0, (⟨#[]⟩ : ByteArray), 0⟩ : GEntry)).Path, (a0.getD (Int.toNat x_5) (⟨(⟨#[]⟩ : ByteArray), 0, 0, 0, 0, (⟨#[]⟩ : ByteArray), 0⟩ : GEntry)).Kind, (a0.getD (Int.toNat x_5) (⟨(⟨#[]⟩ : ByteArray), 0, 0, 0, 0, (⟨#[]⟩ : ByteArray), 0⟩ : GEntry)).Mode, (a0.getD (Int.toNat x_5) (⟨(⟨#[]⟩ : ByteArray), 0, 0, 0, 0, (⟨#[]⟩ : ByteArray), 0⟩ : GEntry)).Time, (⟨#[]⟩ : ByteArray), (a0.getD (Int.toNat x_5) (⟨(⟨#[]⟩ : ByteArray), 0, 0, 0, 0, (⟨#[]⟩ : ByteArray), 0⟩ : GEntry)).Target, (a0.getD (Int.toNat x_5) (⟨(⟨#[]⟩ : ByteArray), 0, 0, 0, 0, (⟨#[]⟩ : ByteArray), 0⟩ : GEntry)).Group⟩ : GNode)).bind fun r6 => (if r6 = true then ((spec_l01In.f (a0.getD (Int.toNat x_5) (⟨(⟨#[]⟩ : ByteArray), 0, 0, 0, 0, (⟨#[]⟩ : ByteArray), 0⟩ : GEntry)).Size 0 20000).bind fun r7 => (if r7 = true then (if (a0.getD (Int.toNat x_5) (⟨(⟨#[]⟩ : ByteArray), 0, 0, 0, 0, (⟨#[]⟩ : ByteArray), 0⟩ : GEntry)).Kind = 1 then (if 0 < x_5 then (if 0 ≤ (IntKind.wrap .i64 (x_5 - 1)) then (if (IntKind.wrap .i64 (x_5 - 1)) < (a0.length : Int) then (if (std.slt (a0.getD (Int.toNat (IntKind.wrap .i64 (x_5 - 1))) (⟨(⟨#[]⟩ : ByteArray), 0, 0, 0, 0, (⟨#[]⟩ : ByteArray), 0⟩ : GEntry)).Path (a0.getD (Int.toNat x_5) (⟨(⟨#[]⟩ : ByteArray), 0, 0, 0, 0, (⟨#[]⟩ : ByteArray), 0⟩ : GEntry)).Path) = true then (spec_EntriesOk.l0 k a0 (IntKind.wrap .i64 (x_5 + 1))) else (some false)) else none) else none) else (spec_EntriesOk.l0 k a0 (IntKind.wrap .i64 (x_5 + 1)))) else (if (a0.getD (Int.toNat x_5) (⟨(⟨#[]⟩ : ByteArray), 0, 0, 0, 0, (⟨#[]⟩ : ByteArray), 0⟩ : GEntry)).Size = 0 then (if 0 < x_5 then (if 0 ≤ (IntKind.wrap .i64 (x_5 - 1)) then (if (IntKind.wrap .i64 (x_5 - 1)) < (a0.length : Int) then (if (std.slt (a0.getD (Int.toNat (IntKind.wrap .i64 (x_5 - 1))) (⟨(⟨#[]⟩ : ByteArray), 0, 0, 0, 0, (⟨#[]⟩ : ByteArray), 0⟩ : GEntry)).Path (a0.getD (Int.toNat x_5) (⟨(⟨#[]⟩ : ByteArray), 0, 0, 0, 0, (⟨#[]⟩ : ByteArray), 0⟩ : GEntry)).Path) = true then (spec_EntriesOk.l0 k a0 (IntKind.wrap .i64 (x_5 + 1))) else (some false)) else none) else none) else (spec_EntriesOk.l0 k a0 (IntKind.wrap .i64 (x_5 + 1)))) else (some false))) else (some false))) else (some false))) else none) else none) else (some true))
def spec_EntriesOk.f (k : Nat) (a0 : List GEntry) : Option Bool := (if 200 < (a0.length : Int) then (some false) else (spec_EntriesOk.l0 k a0 0))
theorem spec_EntriesOk.le (O : Prim) (hO : O = std) (k : Nat) (a0 : List GEntry) : Le F O M fi50.kills spec_EntriesOk.e (spec_EntriesOk.f k a0) (den O M fi50.kills fi50.fn fi50.body (tab.gives 50) (M 50) [.one (.imm 42 a0)] : Tr tab) := by
  refine Le.eqS 0 (by conv => lhs; cbv) ?_
  unfold spec_EntriesOk.f
  refine Le.condP 0 0 (by subst hO; rfl) (by conv => lhs; cbv) (by conv => lhs; cbv) ?_ ?_
  · exact Le.ret2 (by subst hO; rfl)
  · refine Le.loopS (fun (n : Nat) (v : Int) => spec_EntriesOk.l0 n a0 v) (fun (x_5 : Int) => (⟨[], [.one (.imm 42 a0), D_, D_, .one (.lit (.int .i64 x_5)), D_, D_, D_, D_, D_, D_, D_, D_, D_, D_, D_, D_, D_, D_, D_, D_, D_, D_, D_, D_, D_, D_, D_, D_, D_, D_, D_, D_, D_, D_, D_, D_, D_, D_, D_, D_, D_, D_, D_, D_, D_, D_, D_, D_, D_, D_, D_, D_, D_, D_, D_, D_, D_, D_, D_, D_, D_, D_, D_, D_, D_, D_], [[], [], [], [], [], [], [], [], [], [], [], [], [], [], [], [], [], [], [], [], [], [], [], [], [], [], [], [], [], [], [], [], [], [], [], [], [], [], [], [], [], [], [], [], [], [], [], [], [], [], [], [], [], [], [], [], [], [], [], [], [], [], [], [], [], [], []], []⟩ : S tab)) k 0 (by subst hO; rfl) rfl (fun _ => rfl) ?_
    intro n0 hn0 ih0 x_5
    refine Le.eqS 0 (by conv => lhs; cbv) ?_
    show Le F O M _ _ (spec_EntriesOk.l0 (n0 + 1) a0 x_5) _
    rw [spec_EntriesOk.l0]
    refine Le.condP 0 0 (by subst hO; rfl) (by conv => lhs; cbv) (by conv => lhs; cbv) ?_ ?_
    · refine Le.guardP 0 (by subst hO; rfl) (by conv => lhs; cbv) ?_
      refine Le.guardP 0 (by subst hO; rfl) (by conv => lhs; cbv) ?_
      refine Le.callC 0 (fi := fi34) rfl (spec_NodeOk.le O hO n0 (⟨(O.get (⟨(⟨#[]⟩ : ByteArray), 0, 0, 0, 0, (⟨#[]⟩ : ByteArray), 0⟩ : GEntry) a0 x_5).Path, (O.get (⟨(⟨#[]⟩ : ByteArray), 0, 0, 0, 0, (⟨#[]⟩ : ByteArray), 0⟩ : GEntry) a0 x_5).Kind, (O.get (⟨(⟨#[]⟩ : ByteArray), 0, 0, 0, 0, (⟨#[]⟩ : ByteArray), 0⟩ : GEntry) a0 x_5).Mode, (O.get (⟨(⟨#[]⟩ : ByteArray), 0, 0, 0, 0, (⟨#[]⟩ : ByteArray), 0⟩ : GEntry) a0 x_5).Time, (⟨#[]⟩ : ByteArray), (O.get (⟨(⟨#[]⟩ : ByteArray), 0, 0, 0, 0, (⟨#[]⟩ : ByteArray), 0⟩ : GEntry) a0 x_5).Target, (O.get (⟨(⟨#[]⟩ : ByteArray), 0, 0, 0, 0, (⟨#[]⟩ : ByteArray), 0⟩ : GEntry) a0 x_5).Group⟩ : GNode)) (by subst hO; rfl) (by intro r6; conv => lhs; cbv) ?_
      intro r6
      refine Le.condN 16 2 (by subst hO; exact Bool.decide_eq_true.trans (Bool.not_not _).symm) (by conv => lhs; cbv) (by conv => lhs; cbv) ?_ ?_
      · exact Le.ret2 (by subst hO; rfl)
      · refine Le.callC 2 (fi := fi67) rfl (spec_l01In.le O hO (O.get (⟨(⟨#[]⟩ : ByteArray), 0, 0, 0, 0, (⟨#[]⟩ : ByteArray), 0⟩ : GEntry) a0 x_5).Size 0 20000) (by subst hO; rfl) (by intro r7; conv => lhs; cbv) ?_
        intro r7
        refine Le.condN 11 3 (by subst hO; exact Bool.decide_eq_true.trans (Bool.not_not _).symm) (by conv => lhs; cbv) (by conv => lhs; cbv) ?_ ?_
        · exact Le.ret2 (by subst hO; rfl)
        · refine Le.condN 5 8 (by subst hO; exact (Bool.not_not _).symm) (by conv => lhs; cbv) (by conv => lhs; cbv) ?_ ?_
          · refine Le.condN 5 2 (by subst hO; exact (Bool.not_not _).symm) (by conv => lhs; cbv) (by conv => lhs; cbv) ?_ ?_
            · exact Le.ret2 (by subst hO; rfl)
            · refine Le.condP 3 12 (by subst hO; rfl) (by conv => lhs; cbv) (by conv => lhs; cbv) ?_ ?_
              · refine Le.guardP 0 (by subst hO; rfl) (by conv => lhs; cbv) ?_
                refine Le.guardP 8 (by subst hO; rfl) (by conv => lhs; cbv) ?_
                refine Le.condN 0 0 (by subst hO; exact Bool.decide_eq_true.trans (Bool.not_not _).symm) (by conv => lhs; cbv) (by conv => lhs; cbv) ?_ ?_
                · exact Le.ret2 (by subst hO; rfl)
                · exact Le.again (ih0 n0 (by omega) (O.wrap .i64 (O.add x_5 1))) (by subst hO; rfl) rfl
              · exact Le.again (ih0 n0 (by omega) (O.wrap .i64 (O.add x_5 1))) (by subst hO; rfl) rfl
          · refine Le.condP 3 12 (by subst hO; rfl) (by conv => lhs; cbv) (by conv => lhs; cbv) ?_ ?_
            · refine Le.guardP 0 (by subst hO; rfl) (by conv => lhs; cbv) ?_
              refine Le.guardP 8 (by subst hO; rfl) (by conv => lhs; cbv) ?_
              refine Le.condN 0 0 (by subst hO; exact Bool.decide_eq_true.trans (Bool.not_not _).symm) (by conv => lhs; cbv) (by conv => lhs; cbv) ?_ ?_
              · exact Le.ret2 (by subst hO; rfl)
              · exact Le.again (ih0 n0 (by omega) (O.wrap .i64 (O.add x_5 1))) (by subst hO; rfl) rfl
            · exact Le.again (ih0 n0 (by omega) (O.wrap .i64 (O.add x_5 1))) (by subst hO; rfl) rfl
    · exact Le.ret2 (by subst hO; rfl)
/-! ### loop.example/g00100/spec.l12Common -/
def spec_l12Common.e (r : Int) : Res tab := (([], []), .one (.lit (.int .i64 r)))
def spec_l12Common.l0 : Nat → ByteArray → ByteArray → Int → Option Int
  | 0, _, _, _ => none
  | k + 1, a0, a1, x_1 => (if x_1 < (a0.size : Int) then (if x_1 < (a1.size : Int) then (if 0 ≤ x_1 then (if x_1 < (a0.size : Int) then (if 0 ≤ x_1 then (if x_1 < (a1.size : Int) then (if (std.sget a0 x_1) = (std.sget a1 x_1) then (spec_l12Common.l0 k a0 a1 (IntKind.wrap .i64 (x_1 + 1))) else (some x_1)) else none) else none) else none) else none) else (some x_1)) else (some x_1))
def spec_l12Common.f (k : Nat) (a0 : ByteArray) (a1 : ByteArray) : Option Int := (spec_l12Common.l0 k a0 a1 0)
theorem spec_l12Common.le (O : Prim) (hO : O = std) (k : Nat) (a0 : ByteArray) (a1 : ByteArray) : Le F O M fi52.kills spec_l12Common.e (spec_l12Common.f k a0 a1) (den O M fi52.kills fi52.fn fi52.body (tab.gives 52) (M 52) [.one (.lit (.string a0)), .one (.lit (.string a1))] : Tr tab) := by
  refine Le.eqS 0 (by conv => lhs; cbv) ?_
  unfold spec_l12Common.f
  refine Le.loopS (fun (n : Nat) (v : Int) => spec_l12Common.l0 n a0 a1 v) (fun (x_1 : Int) => (⟨[], [.one (.lit (.string a0)), .one (.lit (.string a1)), D_, D_, D_, .one (.lit (.int .i64 x_1)), D_, D_, D_, D_, D_, D_, D_, D_, D_, D_, D_, D_, D_, D_, D_, D_, D_, D_, D_, D_, D_, D_], [[], [], [], [], [], [], [], [], [], [], [], [], [], [], [], [], [], [], [], [], [], [], [], [], [], [], [], [], [], []], []⟩ : S tab)) k 0 (by subst hO; rfl) rfl (fun _ => rfl) ?_
  intro n0 hn0 ih0 x_1
  refine Le.eqS 0 (by conv => lhs; cbv) ?_
  show Le F O M _ _ (spec_l12Common.l0 (n0 + 1) a0 a1 x_1) _
  rw [spec_l12Common.l0]
  refine Le.condP 4 13 (by subst hO; rfl) (by conv => lhs; cbv) (by conv => lhs; cbv) ?_ ?_
  · refine Le.condP 2 8 (by subst hO; rfl) (by conv => lhs; cbv) (by conv => lhs; cbv) ?_ ?_
    · refine Le.guardP 0 (by subst hO; rfl) (by conv => lhs; cbv) ?_
      refine Le.guardP 3 (by subst hO; rfl) (by conv => lhs; cbv) ?_
      refine Le.guardP 0 (by subst hO; rfl) (by conv => lhs; cbv) ?_
      refine Le.guardP 2 (by subst hO; rfl) (by conv => lhs; cbv) ?_
      refine Le.condP 0 0 (by subst hO; rfl) (by conv => lhs; cbv) (by conv => lhs; cbv) ?_ ?_
      · exact Le.again (ih0 n0 (by omega) (O.wrap .i64 (O.add x_1 1))) (by subst hO; rfl) rfl
      · exact Le.ret2 (by subst hO; rfl)
    · exact Le.ret2 (by subst hO; rfl)
  · exact Le.ret2 (by subst hO; rfl)
/-! ### loop.example/g00100/spec.PutText -/
def spec_PutText.e (r : List Int) : Res tab := (([], []), .one (.own 5 r))
def spec_PutText.f (k : Nat) (a0 : ByteArray) : Option (List Int) := (if 20000 < (a0.size : Int) then (some ([] : List Int)) else ((spec_PutVar.f k (a0.size : Int)).bind fun r0 => (if (a0.size : Int) ≤ 140737488351232 then (if (((r0.length : Int) + ((std.bytesOf a0).length : Int)) * 1) ≤ 140737488351232 then (some (r0 ++ (std.bytesOf a0))) else none) else none)))
theorem spec_PutText.le (O : Prim) (hO : O = std) (k : Nat) (a0 : ByteArray) : Le F O M fi53.kills spec_PutText.e (spec_PutText.f k a0) (den O M fi53.kills fi53.fn fi53.body (tab.gives 53) (M 53) [.one (.lit (.string a0))] : Tr tab) := by
  refine Le.eqS 0 (by conv => lhs; cbv) ?_
  unfold spec_PutText.f
  refine Le.condP 0 0 (by subst hO; rfl) (by conv => lhs; cbv) (by conv => lhs; cbv) ?_ ?_
  · exact Le.ret2 (by subst hO; rfl)
  · refine Le.callC 0 (fi := fi51) rfl (spec_PutVar.le O hO k (O.ssize a0)) (by subst hO; rfl) (by intro r0; conv => lhs; cbv) ?_
    intro r0
    refine Le.guardP 0 (by subst hO; rfl) (by conv => lhs; cbv) ?_
    refine Le.guardP 0 (by subst hO; rfl) (by conv => lhs; cbv) ?_
    exact Le.ret2 (by subst hO; rfl)
/-! ### loop.example/g00100/spec.PutEntries -/
def spec_PutEntries.e (r : List Int) : Res tab := (([], []), .one (.imm 5 r))
def spec_PutEntries.l0 : Nat → (List GEntry) → (List Int) → Int → ByteArray → Int → Int → Int → Int → ByteArray → Int → Option (List Int)
  | 0, _, _, _, _, _, _, _, _, _, _ => none
  | k + 1, a0, x_61, x_62, b_63, b_64, b_65, b_66, b_67, b_68, b_69 => (if x_62 < (a0.length : Int) then (if 0 ≤ x_62 then (if x_62 < (a0.length : Int) then ((spec_l12Common.f k b_63 (a0.getD (Int.toNat x_62) (⟨(⟨#[]⟩ : ByteArray), 0, 0, 0, 0, (⟨#[]⟩ : ByteArray), 0⟩ : GEntry)).Path).bind fun r70 => ((spec_PutVar.f k r70).bind fun r71 => (if (((x_61.length : Int) + (r71.length : Int)) * 1) ≤ 140737488351232 then (if 0 ≤ r70 then (if r70 ≤ ((a0.getD (Int.toNat x_62) (⟨(⟨#[]⟩ : ByteArray), 0, 0, 0, 0, (⟨#[]⟩ : ByteArray), 0⟩ : GEntry)).Path.size : Int) then (if ((a0.getD (Int.toNat x_62) (⟨(⟨#[]⟩ : ByteArray), 0, 0, 0, 0, (⟨#[]⟩ : ByteArray), 0⟩ : GEntry)).Path.size : Int) ≤ ((a0.getD (Int.toNat x_62) (⟨(⟨#[]⟩ : ByteArray), 0, 0, 0, 0, (⟨#[]⟩ : ByteArray), 0⟩ : GEntry)).Path.size : Int) then ((spec_PutText.f k ((a0.getD (Int.toNat x_62) (⟨(⟨#[]⟩ : ByteArray), 0, 0, 0, 0, (⟨#[]⟩ : ByteArray), 0⟩ : GEntry)).Path.extract (Int.toNat r70) (Int.toNat ((a0.getD (Int.toNat x_62) (⟨(⟨#[]⟩ : ByteArray), 0, 0, 0, 0, (⟨#[]⟩ : ByteArray), 0⟩ : GEntry)).Path.size : Int)))).bind fun r72 => (if ((((x_61 ++ r71).length : Int) + (r72.length : Int)) * 1) ≤ 140737488351232 then (if 0 < x_62 then (if (a0.getD (Int.toNat x_62) (⟨(⟨#[]⟩ : ByteArray), 0, 0, 0, 0, (⟨#[]⟩ : ByteArray), 0⟩ : GEntry)).Mode = b_65 then (if (a0.getD (Int.toNat x_62) (⟨(⟨#[]⟩ : ByteArray), 0, 0, 0, 0, (⟨#[]⟩ : ByteArray), 0⟩ : GEntry)).Time = b_66 then ((spec_PutVar.f k (IntKind.wrap .i64 ((a0.getD (Int.toNat x_62) (⟨(⟨#[]⟩ : ByteArray), 0, 0, 0, 0, (⟨#[]⟩ : ByteArray), 0⟩ : GEntry)).Kind + 4))).bind fun r73 => (if (((((x_61 ++ r71) ++ r72).length : Int) + (r73.length : Int)) * 1) ≤ 140737488351232 then (if (a0.getD (Int.toNat x_62) (⟨(⟨#[]⟩ : ByteArray), 0, 0, 0, 0, (⟨#[]⟩ : ByteArray), 0⟩ : GEntry)).Kind = 1 then ((spec_PutVar.f k (a0.getD (Int.toNat x_62) (⟨(⟨#[]⟩ : ByteArray), 0, 0, 0, 0, (⟨#[]⟩ : ByteArray), 0⟩ : GEntry)).Size).bind fun r74 => (if ((((((x_61 ++ r71) ++ r72) ++ r73).length : Int) + (r74.length : Int)) * 1) ≤ 140737488351232 then ((spec_PutVar.f k (a0.getD (Int.toNat x_62) (⟨(⟨#[]⟩ : ByteArray), 0, 0, 0, 0, (⟨#[]⟩ : ByteArray), 0⟩ : GEntry)).Group).bind fun r75 => (if (((((((x_61 ++ r71) ++ r72) ++ r73) ++ r74).length : Int) + (r75.length : Int)) * 1) ≤ 140737488351232 then (spec_PutEntries.l0 k a0 (((((x_61 ++ r71) ++ r72) ++ r73) ++ r74) ++ r75) (IntKind.wrap .i64 (x_62 + 1)) (a0.getD (Int.toNat x_62) (⟨(⟨#[]⟩ : ByteArray), 0, 0, 0, 0, (⟨#[]⟩ : ByteArray), 0⟩ : GEntry)).Path (a0.getD (Int.toNat x_62) (⟨(⟨#[]⟩ : ByteArray), 0, 0, 0, 0, (⟨#[]⟩ : ByteArray), 0⟩ : GEntry)).Kind (a0.getD (Int.toNat x_62) (⟨(⟨#[]⟩ : ByteArray), 0, 0, 0, 0, (⟨#[]⟩ : ByteArray), 0⟩ : GEntry)).Mode (a0.getD (Int.toNat x_62) (⟨(⟨#[]⟩ : ByteArray), 0, 0, 0, 0, (⟨#[]⟩ : ByteArray), 0⟩ : GEntry)).Time (a0.getD (Int.toNat x_62) (⟨(⟨#[]⟩ : ByteArray), 0, 0, 0, 0, (⟨#[]⟩ : ByteArray), 0⟩ : GEntry)).Size (a0.getD (Int.toNat x_62) (⟨(⟨#[]⟩ : ByteArray), 0, 0, 0, 0, (⟨#[]⟩ : ByteArray), 0⟩ : GEntry)).Target (a0.getD (Int.toNat x_62) (⟨(⟨#[]⟩ : ByteArray), 0, 0, 0, 0, (⟨#[]⟩ : ByteArray), 0⟩ : GEntry)).Group) else none)) else none)) else (if (a0.getD (Int.toNat x_62) (⟨(⟨#[]⟩ : ByteArray), 0, 0, 0, 0, (⟨#[]⟩ : ByteArray), 0⟩ : GEntry)).Kind = 2 then ((spec_PutText.f k (a0.getD (Int.toNat x_62) (⟨(⟨#[]⟩ : ByteArray), 0, 0, 0, 0, (⟨#[]⟩ : ByteArray), 0⟩ : GEntry)).Target).bind fun r76 => (if ((((((x_61 ++ r71) ++ r72) ++ r73).length : Int) + (r76.length : Int)) * 1) ≤ 140737488351232 then (spec_PutEntries.l0 k a0 ((((x_61 ++ r71) ++ r72) ++ r73) ++ r76) (IntKind.wrap .i64 (x_62 + 1)) (a0.getD (Int.toNat x_62) (⟨(⟨#[]⟩ : ByteArray), 0, 0, 0, 0, (⟨#[]⟩ : ByteArray), 0⟩ : GEntry)).Path (a0.getD (Int.toNat x_62) (⟨(⟨#[]⟩ : ByteArray), 0, 0, 0, 0, (⟨#[]⟩ : ByteArray), 0⟩ : GEntry)).Kind (a0.getD (Int.toNat x_62) (⟨(⟨#[]⟩ : ByteArray), 0, 0, 0, 0, (⟨#[]⟩ : ByteArray), 0⟩ : GEntry)).Mode (a0.getD (Int.toNat x_62) (⟨(⟨#[]⟩ : ByteArray), 0, 0, 0, 0, (⟨#[]⟩ : ByteArray), 0⟩ : GEntry)).Time (a0.getD (Int.toNat x_62) (⟨(⟨#[]⟩ : ByteArray), 0, 0, 0, 0, (⟨#[]⟩ : ByteArray), 0⟩ : GEntry)).Size (a0.getD (Int.toNat x_62) (⟨(⟨#[]⟩ : ByteArray), 0, 0, 0, 0, (⟨#[]⟩ : ByteArray), 0⟩ : GEntry)).Target (a0.getD (Int.toNat x_62) (⟨(⟨#[]⟩ : ByteArray), 0, 0, 0, 0, (⟨#[]⟩ : ByteArray), 0⟩ : GEntry)).Group) else none)) else (spec_PutEntries.l0 k a0 (((x_61 ++ r71) ++ r72) ++ r73) (IntKind.wrap .i64 (x_62 + 1)) (a0.getD (Int.toNat x_62) (⟨(⟨#[]⟩ : ByteArray), 0, 0, 0, 0, (⟨#[]⟩ : ByteArray), 0⟩ : GEntry)).Path (a0.getD (Int.toNat x_62) (⟨(⟨#[]⟩ : ByteArray), 0, 0, 0, 0, (⟨#[]⟩ : ByteArray), 0⟩ : GEntry)).Kind (a0.getD (Int.toNat x_62) (⟨(⟨#[]⟩ : ByteArray), 0, 0, 0, 0, (⟨#[]⟩ : ByteArray), 0⟩ : GEntry)).Mode (a0.getD (Int.toNat x_62) (⟨(⟨#[]⟩ : ByteArray), 0, 0, 0, 0, (⟨#[]⟩ : ByteArray), 0⟩ : GEntry)).Time (a0.getD (Int.toNat x_62) (⟨(⟨#[]⟩ : ByteArray), 0, 0, 0, 0, (⟨#[]⟩ : ByteArray), 0⟩ : GEntry)).Size (a0.getD (Int.toNat x_62) (⟨(⟨#[]⟩ : ByteArray), 0, 0, 0, 0, (⟨#[]⟩ : ByteArray), 0⟩ : GEntry)).Target (a0.getD (Int.toNat x_62) (⟨(⟨#[]⟩ : ByteArray), 0, 0, 0, 0, (⟨#[]⟩ : ByteArray), 0⟩ : GEntry)).Group))) else none)) else ((spec_PutVar.f k (a0.getD (Int.toNat x_62) (⟨(⟨#[]⟩ : ByteArray), 0, 0, 0, 0, (⟨#[]⟩ : ByteArray), 0⟩ : GEntry)).Kind).bind fun r77 => (if (((((x_61 ++ r71) ++ r72).length : Int) + (r77.length : Int)) * 1) ≤ 140737488351232 then ((spec_PutVar.f k (a0.getD (Int.toNat x_62) (⟨(⟨#[]⟩ : ByteArray), 0, 0, 0, 0, (⟨#[]⟩ : ByteArray), 0⟩ : GEntry)).Mode).bind fun r78 => (if ((((((x_61 ++ r71) ++ r72) ++ r77).length : Int) + (r78.length : Int)) * 1) ≤ 140737488351232 then ((spec_PutVar.f k (a0.getD (Int.toNat x_62) (⟨(⟨#[]⟩ : ByteArray), 0, 0, 0, 0, (⟨#[]⟩ : ByteArray), 0⟩ : GEntry)).Time).bind fun r79 => (if (((((((x_61 ++ r71) ++ r72) ++ r77) ++ r78).length : Int) + (r79.length : Int)) * 1) ≤ 140737488351232 then (if (a0.getD (Int.toNat x_62) (⟨(⟨#[]⟩ : ByteArray), 0, 0, 0, 0, (⟨#[]⟩ : ByteArray), 0⟩ : GEntry)).Kind = 1 then ((spec_PutVar.f k (a0.getD (Int.toNat x_62) (⟨(⟨#[]⟩ : ByteArray), 0, 0, 0, 0, (⟨#[]⟩ : ByteArray), 0⟩ : GEntry)).Size).bind fun r80 => (if ((((((((x_61 ++ r71) ++ r72) ++ r77) ++ r78) ++ r79).length : Int) + (r80.length : Int)) * 1) ≤ 140737488351232 then ((spec_PutVar.f k (a0.getD (Int.toNat x_62) (⟨(⟨#[]⟩ : ByteArray), 0, 0, 0, 0, (⟨#[]⟩ : ByteArray), 0⟩ : GEntry)).Group).bind fun r81 => (if (((((((((x_61 ++ r71) ++ r72) ++ r77) ++ r78) ++ r79) ++ r80).length : Int) + (r81.length : Int)) * 1) ≤ 140737488351232 then (spec_PutEntries.l0 k a0 (((((((x_61 ++ r71) ++ r72) ++ r77) ++ r78) ++ r79) ++ r80) ++ r81) (IntKind.wrap .i64 (x_62 + 1)) (a0.getD (Int.toNat x_62) (⟨(⟨#[]⟩ : ByteArray), 0, 0, 0, 0, (⟨#[]⟩ : ByteArray), 0⟩ : GEntry)).Path (a0.getD (Int.toNat x_62) (⟨(⟨#[]⟩ : ByteArray), 0, 0, 0, 0, (⟨#[]⟩ : ByteArray), 0⟩ : GEntry)).Kind (a0.getD (Int.toNat x_62) (⟨(⟨#[]⟩ : ByteArray), 0, 0, 0, 0, (⟨#[]⟩ : ByteArray), 0⟩ : GEntry)).Mode (a0.getD (Int.toNat x_62) (⟨(⟨#[]⟩ : ByteArray), 0, 0, 0, 0, (⟨#[]⟩ : ByteArray), 0⟩ : GEntry)).Time (a0.getD (Int.toNat x_62) (⟨(⟨#[]⟩ : ByteArray), 0, 0, 0, 0, (⟨#[]⟩ : ByteArray), 0⟩ : GEntry)).Size (a0.getD (Int.toNat x_62) (⟨(⟨#[]⟩ : ByteArray), 0, 0, 0, 0, (⟨#[]⟩ : ByteArray), 0⟩ : GEntry)).Target (a0.getD (Int.toNat x_62) (⟨(⟨#[]⟩ : ByteArray), 0, 0, 0, 0, (⟨#[]⟩ : ByteArray), 0⟩ : GEntry)).Group) else none)) else none)) else (if (a0.getD (Int.toNat x_62) (⟨(⟨#[]⟩ : ByteArray), 0, 0, 0, 0, (⟨#[]⟩ : ByteArray), 0⟩ : GEntry)).Kind = 2 then ((spec_PutText.f k (a0.getD (Int.toNat x_62) (⟨(⟨#[]⟩ : ByteArray), 0, 0, 0, 0, (⟨#[]⟩ : ByteArray), 0⟩ : GEntry)).Target).bind fun r82 => (if ((((((((x_61 ++ r71) ++ r72) ++ r77) ++ r78) ++ r79).length : Int) + (r82.length : Int)) * 1) ≤ 140737488351232 then (spec_PutEntries.l0 k a0 ((((((x_61 ++ r71) ++ r72) ++ r77) ++ r78) ++ r79) ++ r82) (IntKind.wrap .i64 (x_62 + 1)) (a0.getD (Int.toNat x_62) (⟨(⟨#[]⟩ : ByteArray), 0, 0, 0, 0, (⟨#[]⟩ : ByteArray), 0⟩ : GEntry)).Path (a0.getD (Int.toNat x_62) (⟨(⟨#[]⟩ : ByteArray), 0, 0, 0, 0, (⟨#[]⟩ : ByteArray), 0⟩ : GEntry)).Kind (a0.getD (Int.toNat x_62) (⟨(⟨#[]⟩ : ByteArray), 0, 0, 0, 0, (⟨#[]⟩ : ByteArray), 0⟩ : GEntry)).Mode (a0.getD (Int.toNat x_62) (⟨(⟨#[]⟩ : ByteArray), 0, 0, 0, 0, (⟨#[]⟩ : ByteArray), 0⟩ : GEntry)).Time (a0.getD (Int.toNat x_62) (⟨(⟨#[]⟩ : ByteArray), 0, 0, 0, 0, (⟨#[]⟩ : ByteArray), 0⟩ : GEntry)).Size (a0.getD (Int.toNat x_62) (⟨(⟨#[]⟩ : ByteArray), 0, 0, 0, 0, (⟨#[]⟩ : ByteArray), 0⟩ : GEntry)).Target (a0.getD (Int.toNat x_62) (⟨(⟨#[]⟩ : ByteArray), 0, 0, 0, 0, (⟨#[]⟩ : ByteArray), 0⟩ : GEntry)).Group) else none)) else (spec_PutEntries.l0 k a0 (((((x_61 ++ r71) ++ r72) ++ r77) ++ r78) ++ r79) (IntKind.wrap .i64 (x_62 + 1)) (a0.getD (Int.toNat x_62) (⟨(⟨#[]⟩ : ByteArray), 0, 0, 0, 0, (⟨#[]⟩ : ByteArray), 0⟩ : GEntry)).Path (a0.getD (Int.toNat x_62) (⟨(⟨#[]⟩ : ByteArray), 0, 0, 0, 0, (⟨#[]⟩ : ByteArray), 0⟩ : GEntry)).Kind (a0.getD (Int.toNat x_62) (⟨(⟨#[]⟩ : ByteArray), 0, 0, 0, 0, (⟨#[]⟩ : ByteArray), 0⟩ : GEntry)).Mode (a0.getD (Int.toNat x_62) (⟨(⟨#[]⟩ : ByteArray), 0, 0, 0, 0, (⟨#[]⟩ : ByteArray), 0⟩ : GEntry)).Time (a0.getD (Int.toNat x_62) (⟨(⟨#[]⟩ : ByteArray), 0, 0, 0, 0, (⟨#[]⟩ : ByteArray), 0⟩ : GEntry)).Size (a0.getD (Int.toNat x_62) (⟨(⟨#[]⟩ : ByteArray), 0, 0, 0, 0, (⟨#[]⟩ : ByteArray), 0⟩ : GEntry)).Target (a0.getD (Int.toNat x_62) (⟨(⟨#[]⟩ : ByteArray), 0, 0, 0, 0, (⟨#[]⟩ : ByteArray), 0⟩ : GEntry)).Group))) else none)) else none)) else none))) else ((spec_PutVar.f k (a0.getD (Int.toNat x_62) (⟨(⟨#[]⟩ : ByteArray), 0, 0, 0, 0, (⟨#[]⟩ : ByteArray), 0⟩ : GEntry)).Kind).bind fun r83 => (if (((((x_61 ++ r71) ++ r72).length : Int) + (r83.length : Int)) * 1) ≤ 140737488351232 then ((spec_PutVar.f k (a0.getD (Int.toNat x_62) (⟨(⟨#[]⟩ : ByteArray), 0, 0, 0, 0, (⟨#[]⟩ : ByteArray), 0⟩ : GEntry)).Mode).bind fun r84 => (if ((((((x_61 ++ r71) ++ r72) ++ r83).length : Int) + (r84.length : Int)) * 1) ≤ 140737488351232 then ((spec_PutVar.f k (a0.getD (Int.toNat x_62) (⟨(⟨#[]⟩ : ByteArray), 0, 0, 0, 0, (⟨#[]⟩ : ByteArray), 0⟩ : GEntry)).Time).bind fun r85 => (if (((((((x_61 ++ r71) ++ r72) ++ r83) ++ r84).length : Int) + (r85.length : Int)) * 1) ≤ 140737488351232 then (if (a0.getD (Int.toNat x_62) (⟨(⟨#[]⟩ : ByteArray), 0, 0, 0, 0, (⟨#[]⟩ : ByteArray), 0⟩ : GEntry)).Kind = 1 then ((spec_PutVar.f k (a0.getD (Int.toNat x_62) (⟨(⟨#[]⟩ : ByteArray), 0, 0, 0, 0, (⟨#[]⟩ : ByteArray), 0⟩ : GEntry)).Size).bind fun r86 => (if ((((((((x_61 ++ r71) ++ r72) ++ r83) ++ r84) ++ r85).length : Int) + (r86.length : Int)) * 1) ≤ 140737488351232 then ((spec_PutVar.f k (a0.getD (Int.toNat x_62) (⟨(⟨#[]⟩ : ByteArray), 0, 0, 0, 0, (⟨#[]⟩ : ByteArray), 0⟩ : GEntry)).Group).bind fun r87 => (if (((((((((x_61 ++ r71) ++ r72) ++ r83) ++ r84) ++ r85) ++ r86).length : Int) + (r87.length : Int)) * 1) ≤ 140737488351232 then (spec_PutEntries.l0 k a0 (((((((x_61 ++ r71) ++ r72) ++ r83) ++ r84) ++ r85) ++ r86) ++ r87) (IntKind.wrap .i64 (x_62 + 1)) (a0.getD (Int.toNat x_62) (⟨(⟨#[]⟩ : ByteArray), 0, 0, 0, 0, (⟨#[]⟩ : ByteArray), 0⟩ : GEntry)).Path (a0.getD (Int.toNat x_62) (⟨(⟨#[]⟩ : ByteArray), 0, 0, 0, 0, (⟨#[]⟩ : ByteArray), 0⟩ : GEntry)).Kind (a0.getD (Int.toNat x_62) (⟨(⟨#[]⟩ : ByteArray), 0, 0, 0, 0, (⟨#[]⟩ : ByteArray), 0⟩ : GEntry)).Mode (a0.getD (Int.toNat x_62) (⟨(⟨#[]⟩ : ByteArray), 0, 0, 0, 0, (⟨#[]⟩ : ByteArray), 0⟩ : GEntry)).Time (a0.getD (Int.toNat x_62) (⟨(⟨#[]⟩ : ByteArray), 0, 0, 0, 0, (⟨#[]⟩ : ByteArray), 0⟩ : GEntry)).Size (a0.getD (Int.toNat x_62) (⟨(⟨#[]⟩ : ByteArray), 0, 0, 0, 0, (⟨#[]⟩ : ByteArray), 0⟩ : GEntry)).Target (a0.getD (Int.toNat x_62) (⟨(⟨#[]⟩ : ByteArray), 0, 0, 0, 0, (⟨#[]⟩ : ByteArray), 0⟩ : GEntry)).Group) else none)) else none)) else (if (a0.getD (Int.toNat x_62) (⟨(⟨#[]⟩ : ByteArray), 0, 0, 0, 0, (⟨#[]⟩ : ByteArray), 0⟩ : GEntry)).Kind = 2 then ((spec_PutText.f k (a0.getD (Int.toNat x_62) (⟨(⟨#[]⟩ : ByteArray), 0, 0, 0, 0, (⟨#[]⟩ : ByteArray), 0⟩ : GEntry)).Target).bind fun r88 => (if ((((((((x_61 ++ r71) ++ r72) ++ r83) ++ r84) ++ r85).length : Int) + (r88.length : Int)) * 1) ≤ 140737488351232 then (spec_PutEntries.l0 k a0 ((((((x_61 ++ r71) ++ r72) ++ r83) ++ r84) ++ r85) ++ r88) (IntKind.wrap .i64 (x_62 + 1)) (a0.getD (Int.toNat x_62) (⟨(⟨#[]⟩ : ByteArray), 0, 0, 0, 0, (⟨#[]⟩ : ByteArray), 0⟩ : GEntry)).Path (a0.getD (Int.toNat x_62) (⟨(⟨#[]⟩ : ByteArray), 0, 0, 0, 0, (⟨#[]⟩ : ByteArray), 0⟩ : GEntry)).Kind (a0.getD (Int.toNat x_62) (⟨(⟨#[]⟩ : ByteArray), 0, 0, 0, 0, (⟨#[]⟩ : ByteArray), 0⟩ : GEntry)).Mode (a0.getD (Int.toNat x_62) (⟨(⟨#[]⟩ : ByteArray), 0, 0, 0, 0, (⟨#[]⟩ : ByteArray), 0⟩ : GEntry)).Time (a0.getD (Int.toNat x_62) (⟨(⟨#[]⟩ : ByteArray), 0, 0, 0, 0, (⟨#[]⟩ : ByteArray), 0⟩ : GEntry)).Size (a0.getD (Int.toNat x_62) (⟨(⟨#[]⟩ : ByteArray), 0, 0, 0, 0, (⟨#[]⟩ : ByteArray), 0⟩ : GEntry)).Target (a0.getD (Int.toNat x_62) (⟨(⟨#[]⟩ : ByteArray), 0, 0, 0, 0, (⟨#[]⟩ : ByteArray), 0⟩ : GEntry)).Group) else none)) else (spec_PutEntries.l0 k a0 (((((x_61 ++ r71) ++ r72) ++ r83) ++ r84) ++ r85) (IntKind.wrap .i64 (x_62 + 1)) (a0.getD (Int.toNat x_62) (⟨(⟨#[]⟩ : ByteArray), 0, 0, 0, 0, (⟨#[]⟩ : ByteArray), 0⟩ : GEntry)).Path (a0.getD (Int.toNat x_62) (⟨(⟨#[]⟩ : ByteArray), 0, 0, 0, 0, (⟨#[]⟩ : ByteArray), 0⟩ : GEntry)).Kind (a0.getD (Int.toNat x_62) (⟨(⟨#[]⟩ : ByteArray), 0, 0, 0, 0, (⟨#[]⟩ : ByteArray), 0⟩ : GEntry)).Mode (a0.getD (Int.toNat x_62) (⟨(⟨#[]⟩ : ByteArray), 0, 0, 0, 0, (⟨#[]⟩ : ByteArray), 0⟩ : GEntry)).Time (a0.getD (Int.toNat x_62) (⟨(⟨#[]⟩ : ByteArray), 0, 0, 0, 0, (⟨#[]⟩ : ByteArray), 0⟩ : GEntry)).Size (a0.getD (Int.toNat x_62) (⟨(⟨#[]⟩ : ByteArray), 0, 0, 0, 0, (⟨#[]⟩ : ByteArray), 0⟩ : GEntry)).Target (a0.getD (Int.toNat x_62) (⟨(⟨#[]⟩ : ByteArray), 0, 0, 0, 0, (⟨#[]⟩ : ByteArray), 0⟩ : GEntry)).Group))) else none)) else none)) else none))) else ((spec_PutVar.f k (a0.getD (Int.toNat x_62) (⟨(⟨#[]⟩ : ByteArray), 0, 0, 0, 0, (⟨#[]⟩ : ByteArray), 0⟩ : GEntry)).Kind).bind fun r89 => (if (((((x_61 ++ r71) ++ r72).length : Int) + (r89.length : Int)) * 1) ≤ 140737488351232 then ((spec_PutVar.f k (a0.getD (Int.toNat x_62) (⟨(⟨#[]⟩ : ByteArray), 0, 0, 0, 0, (⟨#[]⟩ : ByteArray), 0⟩ : GEntry)).Mode).bind fun r90 => (if ((((((x_61 ++ r71) ++ r72) ++ r89).length : Int) + (r90.length : Int)) * 1) ≤ 140737488351232 then ((spec_PutVar.f k (a0.getD (Int.toNat x_62) (⟨(⟨#[]⟩ : ByteArray), 0, 0, 0, 0, (⟨#[]⟩ : ByteArray), 0⟩ : GEntry)).Time).bind fun r91 => (if (((((((x_61 ++ r71) ++ r72) ++ r89) ++ r90).length : Int) + (r91.length : Int)) * 1) ≤ 140737488351232 then (if (a0.getD (Int.toNat x_62) (⟨(⟨#[]⟩ : ByteArray), 0, 0, 0, 0, (⟨#[]⟩ : ByteArray), 0⟩ : GEntry)).Kind = 1 then ((spec_PutVar.f k (a0.getD (Int.toNat x_62) (⟨(⟨#[]⟩ : ByteArray), 0, 0, 0, 0, (⟨#[]⟩ : ByteArray), 0⟩ : GEntry)).Size).bind fun r92 => (if ((((((((x_61 ++ r71) ++ r72) ++ r89) ++ r90) ++ r91).length : Int) + (r92.length : Int)) * 1) ≤ 140737488351232 then ((spec_PutVar.f k (a0.getD (Int.toNat x_62) (⟨(⟨#[]⟩ : ByteArray), 0, 0, 0, 0, (⟨#[]⟩ : ByteArray), 0⟩ : GEntry)).Group).bind fun r93 => (if (((((((((x_61 ++ r71) ++ r72) ++ r89) ++ r90) ++ r91) ++ r92).length : Int) + (r93.length : Int)) * 1) ≤ 140737488351232 then (spec_PutEntries.l0 k a0 (((((((x_61 ++ r71) ++ r72) ++ r89) ++ r90) ++ r91) ++ r92) ++ r93) (IntKind.wrap .i64 (x_62 + 1)) (a0.getD (Int.toNat x_62) (⟨(⟨#[]⟩ : ByteArray), 0, 0, 0, 0, (⟨#[]⟩ : ByteArray), 0⟩ : GEntry)).Path (a0.getD (Int.toNat x_62) (⟨(⟨#[]⟩ : ByteArray), 0, 0, 0, 0, (⟨#[]⟩ : ByteArray), 0⟩ : GEntry)).Kind (a0.getD (Int.toNat x_62) (⟨(⟨#[]⟩ : ByteArray), 0, 0, 0, 0, (⟨#[]⟩ : ByteArray), 0⟩ : GEntry)).Mode (a0.getD (Int.toNat x_62) (⟨(⟨#[]⟩ : ByteArray), 0, 0, 0, 0, (⟨#[]⟩ : ByteArray), 0⟩ : GEntry)).Time (a0.getD (Int.toNat x_62) (⟨(⟨#[]⟩ : ByteArray), 0, 0, 0, 0, (⟨#[]⟩ : ByteArray), 0⟩ : GEntry)).Size (a0.getD (Int.toNat x_62) (⟨(⟨#[]⟩ : ByteArray), 0, 0, 0, 0, (⟨#[]⟩ : ByteArray), 0⟩ : GEntry)).Target (a0.getD (Int.toNat x_62) (⟨(⟨#[]⟩ : ByteArray), 0, 0, 0, 0, (⟨#[]⟩ : ByteArray), 0⟩ : GEntry)).Group) else none)) else none)) else (if (a0.getD (Int.toNat x_62) (⟨(⟨#[]⟩ : ByteArray), 0, 0, 0, 0, (⟨#[]⟩ : ByteArray), 0⟩ : GEntry)).Kind = 2 then ((spec_PutText.f k (a0.getD (Int.toNat x_62) (⟨(⟨#[]⟩ : ByteArray), 0, 0, 0, 0, (⟨#[]⟩ : ByteArray), 0⟩ : GEntry)).Target).bind fun r94 => (if ((((((((x_61 ++ r71) ++ r72) ++ r89) ++ r90) ++ r91).length : Int) + (r94.length : Int)) * 1) ≤ 140737488351232 then (spec_PutEntries.l0 k a0 ((((((x_61 ++ r71) ++ r72) ++ r89) ++ r90) ++ r91) ++ r94) (IntKind.wrap .i64 (x_62 + 1)) (a0.getD (Int.toNat x_62) (⟨(⟨#[]⟩ : ByteArray), 0, 0, 0, 0, (⟨#[]⟩ : ByteArray), 0⟩ : GEntry)).Path (a0.getD (Int.toNat x_62) (⟨(⟨#[]⟩ : ByteArray), 0, 0, 0, 0, (⟨#[]⟩ : ByteArray), 0⟩ : GEntry)).Kind (a0.getD (Int.toNat x_62) (⟨(⟨#[]⟩ : ByteArray), 0, 0, 0, 0, (⟨#[]⟩ : ByteArray), 0⟩ : GEntry)).Mode (a0.getD (Int.toNat x_62) (⟨(⟨#[]⟩ : ByteArray), 0, 0, 0, 0, (⟨#[]⟩ : ByteArray), 0⟩ : GEntry)).Time (a0.getD (Int.toNat x_62) (⟨(⟨#[]⟩ : ByteArray), 0, 0, 0, 0, (⟨#[]⟩ : ByteArray), 0⟩ : GEntry)).Size (a0.getD (Int.toNat x_62) (⟨(⟨#[]⟩ : ByteArray), 0, 0, 0, 0, (⟨#[]⟩ : ByteArray), 0⟩ : GEntry)).Target (a0.getD (Int.toNat x_62) (⟨(⟨#[]⟩ : ByteArray), 0, 0, 0, 0, (⟨#[]⟩ : ByteArray), 0⟩ : GEntry)).Group) else none)) else (spec_PutEntries.l0 k a0 (((((x_61 ++ r71) ++ r72) ++ r89) ++ r90) ++ r91) (IntKind.wrap .i64 (x_62 + 1)) (a0.getD (Int.toNat x_62) (⟨(⟨#[]⟩ : ByteArray), 0, 0, 0, 0, (⟨#[]⟩ : ByteArray), 0⟩ : GEntry)).Path (a0.getD (Int.toNat x_62) (⟨(⟨#[]⟩ : ByteArray), 0, 0, 0, 0, (⟨#[]⟩ : ByteArray), 0⟩ : GEntry)).Kind (a0.getD (Int.toNat x_62) (⟨(⟨#[]⟩ : ByteArray), 0, 0, 0, 0, (⟨#[]⟩ : ByteArray), 0⟩ : GEntry)).Mode (a0.getD (Int.toNat x_62) (⟨(⟨#[]⟩ : ByteArray), 0, 0, 0, 0, (⟨#[]⟩ : ByteArray), 0⟩ : GEntry)).Time (a0.getD (Int.toNat x_62) (⟨(⟨#[]⟩ : ByteArray), 0, 0, 0, 0, (⟨#[]⟩ : ByteArray), 0⟩ : GEntry)).Size (a0.getD (Int.toNat x_62) (⟨(⟨#[]⟩ : ByteArray), 0, 0, 0, 0, (⟨#[]⟩ : ByteArray), 0⟩ : GEntry)).Target (a0.getD (Int.toNat x_62) (⟨(⟨#[]⟩ : ByteArray), 0, 0, 0, 0, (⟨#[]⟩ : ByteArray), 0⟩ : GEntry)).Group))) else none)) else none)) else none))) else none)) else none) else none) else none) else none))) else none) else none) else (some x_61))
def spec_PutEntries.f (k : Nat) (a0 : List GEntry) : Option (List Int) := ((spec_EntriesOk.f k a0).bind fun r0 => (if r0 = true then ((spec_PutVar.f k (a0.length : Int)).bind fun r1 => (spec_PutEntries.l0 k a0 r1 0 (⟨#[]⟩ : ByteArray) 0 0 0 0 (⟨#[]⟩ : ByteArray) 0)) else (some ([] : List Int))))
theorem spec_PutEntries.le (O : Prim) (hO : O = std) (k : Nat) (a0 : List GEntry) : Le F O M fi25.kills spec_PutEntries.e (spec_PutEntries.f k a0) (den O M fi25.kills fi25.fn fi25.body (tab.gives 25) (M 25) [.one (.imm 42 a0)] : Tr tab) := by
  refine Le.eqS 0 (by conv => lhs; cbv) ?_
  unfold spec_PutEntries.f
  refine Le.callC 0 (fi := fi50) rfl (spec_EntriesOk.le O hO k a0) (by subst hO; rfl) (by intro r0; conv => lhs; cbv) ?_
  intro r0
  refine Le.condN 0 0 (by subst hO; exact Bool.decide_eq_true.trans (Bool.not_not _).symm) (by conv => lhs; cbv) (by conv => lhs; cbv) ?_ ?_
  · exact Le.ret2 (by subst hO; rfl)
  · refine Le.callC 0 (fi := fi51) rfl (spec_PutVar.le O hO k (O.len a0)) (by subst hO; rfl) (by intro r1; conv => lhs; cbv) ?_
    intro r1
    refine Le.loopS (fun (n : Nat) (v : List Int × Int × ByteArray × Int × Int × Int × Int × ByteArray × Int) => spec_PutEntries.l0 n a0 v.1 v.2.1 v.2.2.1 v.2.2.2.1 v.2.2.2.2.1 v.2.2.2.2.2.1 v.2.2.2.2.2.2.1 v.2.2.2.2.2.2.2.1 v.2.2.2.2.2.2.2.2) (fun (v : List Int × Int × ByteArray × Int × Int × Int × Int × ByteArray × Int) => match v with | (x_61, x_62, b_63, b_64, b_65, b_66, b_67, b_68, b_69) => (⟨[], [.one (.imm 42 a0), D_, D_, .one (.own 5 x_61), .one (.ptr ⟨11, 0, []⟩), .one (.lit (.int .i64 x_62)), D_, D_, D_, D_, D_, D_, D_, D_, D_, D_, D_, D_, D_, D_, D_, D_, D_, D_, D_, D_, D_, D_, D_, D_, D_, D_, D_, D_, D_, D_, D_, D_, D_, D_, D_, D_, D_, D_, D_, D_, D_, D_, D_, D_, D_, D_, D_, D_, D_, D_, D_, D_, D_, D_, D_, D_, D_, D_, D_, D_, D_, D_, D_, D_, D_, D_, D_, D_, D_, D_, D_, D_, D_, D_, D_, D_, D_, D_, D_, D_, D_, D_, D_, D_, D_, D_, D_, D_, D_, D_, D_, D_, D_, D_, D_, D_], [[], [], [], [], [.lit (.string b_63), .lit (.int .i64 b_64), .lit (.int .i64 b_65), .lit (.int .i64 b_66), .lit (.int .i64 b_67), .lit (.string b_68), .lit (.int .i64 b_69)], [], [], [], [], [], [], [], [], [], [], [], [], [], [], [], [], [], [], [], [], [], [], [], [], [], [], [], [], [], [], [], [], [], [], [], [], [], [], [], [], [], [], [], [], [], [], [], [], [], [], [], [], [], [], [], [], [], [], [], [], [], [], [], [], [], [], [], [], [], [], [], [], [], [], [], [], [], [], [], [], [], [], [], [], [], [], [], [], [], [], [], [], [], [], [], [], [], []], []⟩ : S tab)) k (r1, 0, (⟨#[]⟩ : ByteArray), 0, 0, 0, 0, (⟨#[]⟩ : ByteArray), 0) (by subst hO; rfl) rfl (fun _ => rfl) ?_
    intro n0 hn0 ih0 v0
    obtain ⟨x_61, x_62, b_63, b_64, b_65, b_66, b_67, b_68, b_69⟩ := v0
    refine Le.eqS 0 (by conv => lhs; cbv) ?_
    show Le F O M _ _ (spec_PutEntries.l0 (n0 + 1) a0 x_61 x_62 b_63 b_64 b_65 b_66 b_67 b_68 b_69) _
    rw [spec_PutEntries.l0]
    refine Le.condP 0 0 (by subst hO; rfl) (by conv => lhs; cbv) (by conv => lhs; cbv) ?_ ?_
    · refine Le.guardP 0 (by subst hO; rfl) (by conv => lhs; cbv) ?_
      refine Le.guardP 0 (by subst hO; rfl) (by conv => lhs; cbv) ?_
      refine Le.callC 0 (fi := fi52) rfl (spec_l12Common.le O hO n0 b_63 (O.get (⟨(⟨#[]⟩ : ByteArray), 0, 0, 0, 0, (⟨#[]⟩ : ByteArray), 0⟩ : GEntry) a0 x_62).Path) (by subst hO; rfl) (by intro r70; conv => lhs; cbv) ?_
      intro r70
      refine Le.callC 0 (fi := fi51) rfl (spec_PutVar.le O hO n0 r70) (by subst hO; rfl) (by intro r71; conv => lhs; cbv) ?_
      intro r71
      refine Le.guardP 0 (by subst hO; rfl) (by conv => lhs; cbv) ?_
      refine Le.guardP 0 (by subst hO; rfl) (by conv => lhs; cbv) ?_
      refine Le.guardP 0 (by subst hO; rfl) (by conv => lhs; cbv) ?_
      refine Le.guardP 0 (by subst hO; rfl) (by conv => lhs; cbv) ?_
      refine Le.callC 0 (fi := fi53) rfl (spec_PutText.le O hO n0 (O.sext (O.get (⟨(⟨#[]⟩ : ByteArray), 0, 0, 0, 0, (⟨#[]⟩ : ByteArray), 0⟩ : GEntry) a0 x_62).Path r70 (O.ssize (O.get (⟨(⟨#[]⟩ : ByteArray), 0, 0, 0, 0, (⟨#[]⟩ : ByteArray), 0⟩ : GEntry) a0 x_62).Path))) (by subst hO; rfl) (by intro r72; conv => lhs; cbv) ?_
      intro r72
      refine Le.guardP 0 (by subst hO; rfl) (by conv => lhs; cbv) ?_
      refine Le.condP 5 12 (by subst hO; rfl) (by conv => lhs; cbv) (by conv => lhs; cbv) ?_ ?_
      · refine Le.condP 5 6 (by subst hO; rfl) (by conv => lhs; cbv) (by conv => lhs; cbv) ?_ ?_
        · refine Le.condP 0 0 (by subst hO; rfl) (by conv => lhs; cbv) (by conv => lhs; cbv) ?_ ?_
          · refine Le.callC 0 (fi := fi51) rfl (spec_PutVar.le O hO n0 (O.wrap .i64 (O.add (O.get (⟨(⟨#[]⟩ : ByteArray), 0, 0, 0, 0, (⟨#[]⟩ : ByteArray), 0⟩ : GEntry) a0 x_62).Kind 4))) (by subst hO; rfl) (by intro r73; conv => lhs; cbv) ?_
            intro r73
            refine Le.guardP 0 (by subst hO; rfl) (by conv => lhs; cbv) ?_
            refine Le.condP 0 0 (by subst hO; rfl) (by conv => lhs; cbv) (by conv => lhs; cbv) ?_ ?_
            · refine Le.callC 0 (fi := fi51) rfl (spec_PutVar.le O hO n0 (O.get (⟨(⟨#[]⟩ : ByteArray), 0, 0, 0, 0, (⟨#[]⟩ : ByteArray), 0⟩ : GEntry) a0 x_62).Size) (by subst hO; rfl) (by intro r74; conv => lhs; cbv) ?_
              intro r74
              refine Le.guardP 0 (by subst hO; rfl) (by conv => lhs; cbv) ?_
              refine Le.callC 0 (fi := fi51) rfl (spec_PutVar.le O hO n0 (O.get (⟨(⟨#[]⟩ : ByteArray), 0, 0, 0, 0, (⟨#[]⟩ : ByteArray), 0⟩ : GEntry) a0 x_62).Group) (by subst hO; rfl) (by intro r75; conv => lhs; cbv) ?_
              intro r75
              refine Le.guardP 0 (by subst hO; rfl) (by conv => lhs; cbv) ?_
              exact Le.again (ih0 n0 (by omega) ((O.app (O.app (O.app (O.app (O.app x_61 r71) r72) r73) r74) r75), (O.wrap .i64 (O.add x_62 1)), (O.get (⟨(⟨#[]⟩ : ByteArray), 0, 0, 0, 0, (⟨#[]⟩ : ByteArray), 0⟩ : GEntry) a0 x_62).Path, (O.get (⟨(⟨#[]⟩ : ByteArray), 0, 0, 0, 0, (⟨#[]⟩ : ByteArray), 0⟩ : GEntry) a0 x_62).Kind, (O.get (⟨(⟨#[]⟩ : ByteArray), 0, 0, 0, 0, (⟨#[]⟩ : ByteArray), 0⟩ : GEntry) a0 x_62).Mode, (O.get (⟨(⟨#[]⟩ : ByteArray), 0, 0, 0, 0, (⟨#[]⟩ : ByteArray), 0⟩ : GEntry) a0 x_62).Time, (O.get (⟨(⟨#[]⟩ : ByteArray), 0, 0, 0, 0, (⟨#[]⟩ : ByteArray), 0⟩ : GEntry) a0 x_62).Size, (O.get (⟨(⟨#[]⟩ : ByteArray), 0, 0, 0, 0, (⟨#[]⟩ : ByteArray), 0⟩ : GEntry) a0 x_62).Target, (O.get (⟨(⟨#[]⟩ : ByteArray), 0, 0, 0, 0, (⟨#[]⟩ : ByteArray), 0⟩ : GEntry) a0 x_62).Group)) (by subst hO; rfl) rfl
            · refine Le.condP 0 0 (by subst hO; rfl) (by conv => lhs; cbv) (by conv => lhs; cbv) ?_ ?_
              · refine Le.callC 0 (fi := fi53) rfl (spec_PutText.le O hO n0 (O.get (⟨(⟨#[]⟩ : ByteArray), 0, 0, 0, 0, (⟨#[]⟩ : ByteArray), 0⟩ : GEntry) a0 x_62).Target) (by subst hO; rfl) (by intro r76; conv => lhs; cbv) ?_
                intro r76
                refine Le.guardP 0 (by subst hO; rfl) (by conv => lhs; cbv) ?_
                exact Le.again (ih0 n0 (by omega) ((O.app (O.app (O.app (O.app x_61 r71) r72) r73) r76), (O.wrap .i64 (O.add x_62 1)), (O.get (⟨(⟨#[]⟩ : ByteArray), 0, 0, 0, 0, (⟨#[]⟩ : ByteArray), 0⟩ : GEntry) a0 x_62).Path, (O.get (⟨(⟨#[]⟩ : ByteArray), 0, 0, 0, 0, (⟨#[]⟩ : ByteArray), 0⟩ : GEntry) a0 x_62).Kind, (O.get (⟨(⟨#[]⟩ : ByteArray), 0, 0, 0, 0, (⟨#[]⟩ : ByteArray), 0⟩ : GEntry) a0 x_62).Mode, (O.get (⟨(⟨#[]⟩ : ByteArray), 0, 0, 0, 0, (⟨#[]⟩ : ByteArray), 0⟩ : GEntry) a0 x_62).Time, (O.get (⟨(⟨#[]⟩ : ByteArray), 0, 0, 0, 0, (⟨#[]⟩ : ByteArray), 0⟩ : GEntry) a0 x_62).Size, (O.get (⟨(⟨#[]⟩ : ByteArray), 0, 0, 0, 0, (⟨#[]⟩ : ByteArray), 0⟩ : GEntry) a0 x_62).Target, (O.get (⟨(⟨#[]⟩ : ByteArray), 0, 0, 0, 0, (⟨#[]⟩ : ByteArray), 0⟩ : GEntry) a0 x_62).Group)) (by subst hO; rfl) rfl
              · exact Le.again (ih0 n0 (by omega) ((O.app (O.app (O.app x_61 r71) r72) r73), (O.wrap .i64 (O.add x_62 1)), (O.get (⟨(⟨#[]⟩ : ByteArray), 0, 0, 0, 0, (⟨#[]⟩ : ByteArray), 0⟩ : GEntry) a0 x_62).Path, (O.get (⟨(⟨#[]⟩ : ByteArray), 0, 0, 0, 0, (⟨#[]⟩ : ByteArray), 0⟩ : GEntry) a0 x_62).Kind, (O.get (⟨(⟨#[]⟩ : ByteArray), 0, 0, 0, 0, (⟨#[]⟩ : ByteArray), 0⟩ : GEntry) a0 x_62).Mode, (O.get (⟨(⟨#[]⟩ : ByteArray), 0, 0, 0, 0, (⟨#[]⟩ : ByteArray), 0⟩ : GEntry) a0 x_62).Time, (O.get (⟨(⟨#[]⟩ : ByteArray), 0, 0, 0, 0, (⟨#[]⟩ : ByteArray), 0⟩ : GEntry) a0 x_62).Size, (O.get (⟨(⟨#[]⟩ : ByteArray), 0, 0, 0, 0, (⟨#[]⟩ : ByteArray), 0⟩ : GEntry) a0 x_62).Target, (O.get (⟨(⟨#[]⟩ : ByteArray), 0, 0, 0, 0, (⟨#[]⟩ : ByteArray), 0⟩ : GEntry) a0 x_62).Group)) (by subst hO; rfl) rfl
          · refine Le.callC 0 (fi := fi51) rfl (spec_PutVar.le O hO n0 (O.get (⟨(⟨#[]⟩ : ByteArray), 0, 0, 0, 0, (⟨#[]⟩ : ByteArray), 0⟩ : GEntry) a0 x_62).Kind) (by subst hO; rfl) (by intro r77; conv => lhs; cbv) ?_
            intro r77
            refine Le.guardP 0 (by subst hO; rfl) (by conv => lhs; cbv) ?_
            refine Le.callC 0 (fi := fi51) rfl (spec_PutVar.le O hO n0 (O.get (⟨(⟨#[]⟩ : ByteArray), 0, 0, 0, 0, (⟨#[]⟩ : ByteArray), 0⟩ : GEntry) a0 x_62).Mode) (by subst hO; rfl) (by intro r78; conv => lhs; cbv) ?_
            intro r78
            refine Le.guardP 0 (by subst hO; rfl) (by conv => lhs; cbv) ?_
            refine Le.callC 0 (fi := fi51) rfl (spec_PutVar.le O hO n0 (O.get (⟨(⟨#[]⟩ : ByteArray), 0, 0, 0, 0, (⟨#[]⟩ : ByteArray), 0⟩ : GEntry) a0 x_62).Time) (by subst hO; rfl) (by intro r79; conv => lhs; cbv) ?_
            intro r79
            refine Le.guardP 0 (by subst hO; rfl) (by conv => lhs; cbv) ?_
            refine Le.condP 0 0 (by subst hO; rfl) (by conv => lhs; cbv) (by conv => lhs; cbv) ?_ ?_
            · refine Le.callC 0 (fi := fi51) rfl (spec_PutVar.le O hO n0 (O.get (⟨(⟨#[]⟩ : ByteArray), 0, 0, 0, 0, (⟨#[]⟩ : ByteArray), 0⟩ : GEntry) a0 x_62).Size) (by subst hO; rfl) (by intro r80; conv => lhs; cbv) ?_
              intro r80
              refine Le.guardP 0 (by subst hO; rfl) (by conv => lhs; cbv) ?_
              refine Le.callC 0 (fi := fi51) rfl (spec_PutVar.le O hO n0 (O.get (⟨(⟨#[]⟩ : ByteArray), 0, 0, 0, 0, (⟨#[]⟩ : ByteArray), 0⟩ : GEntry) a0 x_62).Group) (by subst hO; rfl) (by intro r81; conv => lhs; cbv) ?_
              intro r81
              refine Le.guardP 0 (by subst hO; rfl) (by conv => lhs; cbv) ?_
              exact Le.again (ih0 n0 (by omega) ((O.app (O.app (O.app (O.app (O.app (O.app (O.app x_61 r71) r72) r77) r78) r79) r80) r81), (O.wrap .i64 (O.add x_62 1)), (O.get (⟨(⟨#[]⟩ : ByteArray), 0, 0, 0, 0, (⟨#[]⟩ : ByteArray), 0⟩ : GEntry) a0 x_62).Path, (O.get (⟨(⟨#[]⟩ : ByteArray), 0, 0, 0, 0, (⟨#[]⟩ : ByteArray), 0⟩ : GEntry) a0 x_62).Kind, (O.get (⟨(⟨#[]⟩ : ByteArray), 0, 0, 0, 0, (⟨#[]⟩ : ByteArray), 0⟩ : GEntry) a0 x_62).Mode, (O.get (⟨(⟨#[]⟩ : ByteArray), 0, 0, 0, 0, (⟨#[]⟩ : ByteArray), 0⟩ : GEntry) a0 x_62).Time, (O.get (⟨(⟨#[]⟩ : ByteArray), 0, 0, 0, 0, (⟨#[]⟩ : ByteArray), 0⟩ : GEntry) a0 x_62).Size, (O.get (⟨(⟨#[]⟩ : ByteArray), 0, 0, 0, 0, (⟨#[]⟩ : ByteArray), 0⟩ : GEntry) a0 x_62).Target, (O.get (⟨(⟨#[]⟩ : ByteArray), 0, 0, 0, 0, (⟨#[]⟩ : ByteArray), 0⟩ : GEntry) a0 x_62).Group)) (by subst hO; rfl) rfl
            · refine Le.condP 0 0 (by subst hO; rfl) (by conv => lhs; cbv) (by conv => lhs; cbv) ?_ ?_
              · refine Le.callC 0 (fi := fi53) rfl (spec_PutText.le O hO n0 (O.get (⟨(⟨#[]⟩ : ByteArray), 0, 0, 0, 0, (⟨#[]⟩ : ByteArray), 0⟩ : GEntry) a0 x_62).Target) (by subst hO; rfl) (by intro r82; conv => lhs; cbv) ?_
                intro r82
                refine Le.guardP 0 (by subst hO; rfl) (by conv => lhs; cbv) ?_
                exact Le.again (ih0 n0 (by omega) ((O.app (O.app (O.app (O.app (O.app (O.app x_61 r71) r72) r77) r78) r79) r82), (O.wrap .i64 (O.add x_62 1)), (O.get (⟨(⟨#[]⟩ : ByteArray), 0, 0, 0, 0, (⟨#[]⟩ : ByteArray), 0⟩ : GEntry) a0 x_62).Path, (O.get (⟨(⟨#[]⟩ : ByteArray), 0, 0, 0, 0, (⟨#[]⟩ : ByteArray), 0⟩ : GEntry) a0 x_62).Kind, (O.get (⟨(⟨#[]⟩ : ByteArray), 0, 0, 0, 0, (⟨#[]⟩ : ByteArray), 0⟩ : GEntry) a0 x_62).Mode, (O.get (⟨(⟨#[]⟩ : ByteArray), 0, 0, 0, 0, (⟨#[]⟩ : ByteArray), 0⟩ : GEntry) a0 x_62).Time, (O.get (⟨(⟨#[]⟩ : ByteArray), 0, 0, 0, 0, (⟨#[]⟩ : ByteArray), 0⟩ : GEntry) a0 x_62).Size, (O.get (⟨(⟨#[]⟩ : ByteArray), 0, 0, 0, 0, (⟨#[]⟩ : ByteArray), 0⟩ : GEntry) a0 x_62).Target, (O.get (⟨(⟨#[]⟩ : ByteArray), 0, 0, 0, 0, (⟨#[]⟩ : ByteArray), 0⟩ : GEntry) a0 x_62).Group)) (by subst hO; rfl) rfl
              · exact Le.again (ih0 n0 (by omega) ((O.app (O.app (O.app (O.app (O.app x_61 r71) r72) r77) r78) r79), (O.wrap .i64 (O.add x_62 1)), (O.get (⟨(⟨#[]⟩ : ByteArray), 0, 0, 0, 0, (⟨#[]⟩ : ByteArray), 0⟩ : GEntry) a0 x_62).Path, (O.get (⟨(⟨#[]⟩ : ByteArray), 0, 0, 0, 0, (⟨#[]⟩ : ByteArray), 0⟩ : GEntry) a0 x_62).Kind, (O.get (⟨(⟨#[]⟩ : ByteArray), 0, 0, 0, 0, (⟨#[]⟩ : ByteArray), 0⟩ : GEntry) a0 x_62).Mode, (O.get (⟨(⟨#[]⟩ : ByteArray), 0, 0, 0, 0, (⟨#[]⟩ : ByteArray), 0⟩ : GEntry) a0 x_62).Time, (O.get (⟨(⟨#[]⟩ : ByteArray), 0, 0, 0, 0, (⟨#[]⟩ : ByteArray), 0⟩ : GEntry) a0 x_62).Size, (O.get (⟨(⟨#[]⟩ : ByteArray), 0, 0, 0, 0, (⟨#[]⟩ : ByteArray), 0⟩ : GEntry) a0 x_62).Target, (O.get (⟨(⟨#[]⟩ : ByteArray), 0, 0, 0, 0, (⟨#[]⟩ : ByteArray), 0⟩ : GEntry) a0 x_62).Group)) (by subst hO; rfl) rfl
        · refine Le.callC 0 (fi := fi51) rfl (spec_PutVar.le O hO n0 (O.get (⟨(⟨#[]⟩ : ByteArray), 0, 0, 0, 0, (⟨#[]⟩ : ByteArray), 0⟩ : GEntry) a0 x_62).Kind) (by subst hO; rfl) (by intro r83; conv => lhs; cbv) ?_
          intro r83
          refine Le.guardP 0 (by subst hO; rfl) (by conv => lhs; cbv) ?_
          refine Le.callC 0 (fi := fi51) rfl (spec_PutVar.le O hO n0 (O.get (⟨(⟨#[]⟩ : ByteArray), 0, 0, 0, 0, (⟨#[]⟩ : ByteArray), 0⟩ : GEntry) a0 x_62).Mode) (by subst hO; rfl) (by intro r84; conv => lhs; cbv) ?_
          intro r84
          refine Le.guardP 0 (by subst hO; rfl) (by conv => lhs; cbv) ?_
          refine Le.callC 0 (fi := fi51) rfl (spec_PutVar.le O hO n0 (O.get (⟨(⟨#[]⟩ : ByteArray), 0, 0, 0, 0, (⟨#[]⟩ : ByteArray), 0⟩ : GEntry) a0 x_62).Time) (by subst hO; rfl) (by intro r85; conv => lhs; cbv) ?_
          intro r85
          refine Le.guardP 0 (by subst hO; rfl) (by conv => lhs; cbv) ?_
          refine Le.condP 0 0 (by subst hO; rfl) (by conv => lhs; cbv) (by conv => lhs; cbv) ?_ ?_
          · refine Le.callC 0 (fi := fi51) rfl (spec_PutVar.le O hO n0 (O.get (⟨(⟨#[]⟩ : ByteArray), 0, 0, 0, 0, (⟨#[]⟩ : ByteArray), 0⟩ : GEntry) a0 x_62).Size) (by subst hO; rfl) (by intro r86; conv => lhs; cbv) ?_
            intro r86
            refine Le.guardP 0 (by subst hO; rfl) (by conv => lhs; cbv) ?_
            refine Le.callC 0 (fi := fi51) rfl (spec_PutVar.le O hO n0 (O.get (⟨(⟨#[]⟩ : ByteArray), 0, 0, 0, 0, (⟨#[]⟩ : ByteArray), 0⟩ : GEntry) a0 x_62).Group) (by subst hO; rfl) (by intro r87; conv => lhs; cbv) ?_
            intro r87
            refine Le.guardP 0 (by subst hO; rfl) (by conv => lhs; cbv) ?_
            exact Le.again (ih0 n0 (by omega) ((O.app (O.app (O.app (O.app (O.app (O.app (O.app x_61 r71) r72) r83) r84) r85) r86) r87), (O.wrap .i64 (O.add x_62 1)), (O.get (⟨(⟨#[]⟩ : ByteArray), 0, 0, 0, 0, (⟨#[]⟩ : ByteArray), 0⟩ : GEntry) a0 x_62).Path, (O.get (⟨(⟨#[]⟩ : ByteArray), 0, 0, 0, 0, (⟨#[]⟩ : ByteArray), 0⟩ : GEntry) a0 x_62).Kind, (O.get (⟨(⟨#[]⟩ : ByteArray), 0, 0, 0, 0, (⟨#[]⟩ : ByteArray), 0⟩ : GEntry) a0 x_62).Mode, (O.get (⟨(⟨#[]⟩ : ByteArray), 0, 0, 0, 0, (⟨#[]⟩ : ByteArray), 0⟩ : GEntry) a0 x_62).Time, (O.get (⟨(⟨#[]⟩ : ByteArray), 0, 0, 0, 0, (⟨#[]⟩ : ByteArray), 0⟩ : GEntry) a0 x_62).Size, (O.get (⟨(⟨#[]⟩ : ByteArray), 0, 0, 0, 0, (⟨#[]⟩ : ByteArray), 0⟩ : GEntry) a0 x_62).Target, (O.get (⟨(⟨#[]⟩ : ByteArray), 0, 0, 0, 0, (⟨#[]⟩ : ByteArray), 0⟩ : GEntry) a0 x_62).Group)) (by subst hO; rfl) rfl
          · refine Le.condP 0 0 (by subst hO; rfl) (by conv => lhs; cbv) (by conv => lhs; cbv) ?_ ?_
            · refine Le.callC 0 (fi := fi53) rfl (spec_PutText.le O hO n0 (O.get (⟨(⟨#[]⟩ : ByteArray), 0, 0, 0, 0, (⟨#[]⟩ : ByteArray), 0⟩ : GEntry) a0 x_62).Target) (by subst hO; rfl) (by intro r88; conv => lhs; cbv) ?_
              intro r88
              refine Le.guardP 0 (by subst hO; rfl) (by conv => lhs; cbv) ?_
              exact Le.again (ih0 n0 (by omega) ((O.app (O.app (O.app (O.app (O.app (O.app x_61 r71) r72) r83) r84) r85) r88), (O.wrap .i64 (O.add x_62 1)), (O.get (⟨(⟨#[]⟩ : ByteArray), 0, 0, 0, 0, (⟨#[]⟩ : ByteArray), 0⟩ : GEntry) a0 x_62).Path, (O.get (⟨(⟨#[]⟩ : ByteArray), 0, 0, 0, 0, (⟨#[]⟩ : ByteArray), 0⟩ : GEntry) a0 x_62).Kind, (O.get (⟨(⟨#[]⟩ : ByteArray), 0, 0, 0, 0, (⟨#[]⟩ : ByteArray), 0⟩ : GEntry) a0 x_62).Mode, (O.get (⟨(⟨#[]⟩ : ByteArray), 0, 0, 0, 0, (⟨#[]⟩ : ByteArray), 0⟩ : GEntry) a0 x_62).Time, (O.get (⟨(⟨#[]⟩ : ByteArray), 0, 0, 0, 0, (⟨#[]⟩ : ByteArray), 0⟩ : GEntry) a0 x_62).Size, (O.get (⟨(⟨#[]⟩ : ByteArray), 0, 0, 0, 0, (⟨#[]⟩ : ByteArray), 0⟩ : GEntry) a0 x_62).Target, (O.get (⟨(⟨#[]⟩ : ByteArray), 0, 0, 0, 0, (⟨#[]⟩ : ByteArray), 0⟩ : GEntry) a0 x_62).Group)) (by subst hO; rfl) rfl
            · exact Le.again (ih0 n0 (by omega) ((O.app (O.app (O.app (O.app (O.app x_61 r71) r72) r83) r84) r85), (O.wrap .i64 (O.add x_62 1)), (O.get (⟨(⟨#[]⟩ : ByteArray), 0, 0, 0, 0, (⟨#[]⟩ : ByteArray), 0⟩ : GEntry) a0 x_62).Path, (O.get (⟨(⟨#[]⟩ : ByteArray), 0, 0, 0, 0, (⟨#[]⟩ : ByteArray), 0⟩ : GEntry) a0 x_62).Kind, (O.get (⟨(⟨#[]⟩ : ByteArray), 0, 0, 0, 0, (⟨#[]⟩ : ByteArray), 0⟩ : GEntry) a0 x_62).Mode, (O.get (⟨(⟨#[]⟩ : ByteArray), 0, 0, 0, 0, (⟨#[]⟩ : ByteArray), 0⟩ : GEntry) a0 x_62).Time, (O.get (⟨(⟨#[]⟩ : ByteArray), 0, 0, 0, 0, (⟨#[]⟩ : ByteArray), 0⟩ : GEntry) a0 x_62).Size, (O.get (⟨(⟨#[]⟩ : ByteArray), 0, 0, 0, 0, (⟨#[]⟩ : ByteArray), 0⟩ : GEntry) a0 x_62).Target, (O.get (⟨(⟨#[]⟩ : ByteArray), 0, 0, 0, 0, (⟨#[]⟩ : ByteArray), 0⟩ : GEntry) a0 x_62).Group)) (by subst hO; rfl) rfl
      · refine Le.callC 0 (fi := fi51) rfl (spec_PutVar.le O hO n0 (O.get (⟨(⟨#[]⟩ : ByteArray), 0, 0, 0, 0, (⟨#[]⟩ : ByteArray), 0⟩ : GEntry) a0 x_62).Kind) (by subst hO; rfl) (by intro r89; conv => lhs; cbv) ?_
        intro r89
        refine Le.guardP 0 (by subst hO; rfl) (by conv => lhs; cbv) ?_
        refine Le.callC 0 (fi := fi51) rfl (spec_PutVar.le O hO n0 (O.get (⟨(⟨#[]⟩ : ByteArray), 0, 0, 0, 0, (⟨#[]⟩ : ByteArray), 0⟩ : GEntry) a0 x_62).Mode) (by subst hO; rfl) (by intro r90; conv => lhs; cbv) ?_
        intro r90
        refine Le.guardP 0 (by subst hO; rfl) (by conv => lhs; cbv) ?_
        refine Le.callC 0 (fi := fi51) rfl (spec_PutVar.le O hO n0 (O.get (⟨(⟨#[]⟩ : ByteArray), 0, 0, 0, 0, (⟨#[]⟩ : ByteArray), 0⟩ : GEntry) a0 x_62).Time) (by subst hO; rfl) (by intro r91; conv => lhs; cbv) ?_
        intro r91
        refine Le.guardP 0 (by subst hO; rfl) (by conv => lhs; cbv) ?_
        refine Le.condP 0 0 (by subst hO; rfl) (by conv => lhs; cbv) (by conv => lhs; cbv) ?_ ?_
        · refine Le.callC 0 (fi := fi51) rfl (spec_PutVar.le O hO n0 (O.get (⟨(⟨#[]⟩ : ByteArray), 0, 0, 0, 0, (⟨#[]⟩ : ByteArray), 0⟩ : GEntry) a0 x_62).Size) (by subst hO; rfl) (by intro r92; conv => lhs; cbv) ?_
          intro r92
          refine Le.guardP 0 (by subst hO; rfl) (by conv => lhs; cbv) ?_
          refine Le.callC 0 (fi := fi51) rfl (spec_PutVar.le O hO n0 (O.get (⟨(⟨#[]⟩ : ByteArray), 0, 0, 0, 0, (⟨#[]⟩ : ByteArray), 0⟩ : GEntry) a0 x_62).Group) (by subst hO; rfl) (by intro r93; conv => lhs; cbv) ?_
          intro r93
          refine Le.guardP 0 (by subst hO; rfl) (by conv => lhs; cbv) ?_
          exact Le.again (ih0 n0 (by omega) ((O.app (O.app (O.app (O.app (O.app (O.app (O.app x_61 r71) r72) r89) r90) r91) r92) r93), (O.wrap .i64 (O.add x_62 1)), (O.get (⟨(⟨#[]⟩ : ByteArray), 0, 0, 0, 0, (⟨#[]⟩ : ByteArray), 0⟩ : GEntry) a0 x_62).Path, (O.get (⟨(⟨#[]⟩ : ByteArray), 0, 0, 0, 0, (⟨#[]⟩ : ByteArray), 0⟩ : GEntry) a0 x_62).Kind, (O.get (⟨(⟨#[]⟩ : ByteArray), 0, 0, 0, 0, (⟨#[]⟩ : ByteArray), 0⟩ : GEntry) a0 x_62).Mode, (O.get (⟨(⟨#[]⟩ : ByteArray), 0, 0, 0, 0, (⟨#[]⟩ : ByteArray), 0⟩ : GEntry) a0 x_62).Time, (O.get (⟨(⟨#[]⟩ : ByteArray), 0, 0, 0, 0, (⟨#[]⟩ : ByteArray), 0⟩ : GEntry) a0 x_62).Size, (O.get (⟨(⟨#[]⟩ : ByteArray), 0, 0, 0, 0, (⟨#[]⟩ : ByteArray), 0⟩ : GEntry) a0 x_62).Target, (O.get (⟨(⟨#[]⟩ : ByteArray), 0, 0, 0, 0, (⟨#[]⟩ : ByteArray), 0⟩ : GEntry) a0 x_62).Group)) (by subst hO; rfl) rfl
        · refine Le.condP 0 0 (by subst hO; rfl) (by conv => lhs; cbv) (by conv => lhs; cbv) ?_ ?_
          · refine Le.callC 0 (fi := fi53) rfl (spec_PutText.le O hO n0 (O.get (⟨(⟨#[]⟩ : ByteArray), 0, 0, 0, 0, (⟨#[]⟩ : ByteArray), 0⟩ : GEntry) a0 x_62).Target) (by subst hO; rfl) (by intro r94; conv => lhs; cbv) ?_
            intro r94
            refine Le.guardP 0 (by subst hO; rfl) (by conv => lhs; cbv) ?_
            exact Le.again (ih0 n0 (by omega) ((O.app (O.app (O.app (O.app (O.app (O.app x_61 r71) r72) r89) r90) r91) r94), (O.wrap .i64 (O.add x_62 1)), (O.get (⟨(⟨#[]⟩ : ByteArray), 0, 0, 0, 0, (⟨#[]⟩ : ByteArray), 0⟩ : GEntry) a0 x_62).Path, (O.get (⟨(⟨#[]⟩ : ByteArray), 0, 0, 0, 0, (⟨#[]⟩ : ByteArray), 0⟩ : GEntry) a0 x_62).Kind, (O.get (⟨(⟨#[]⟩ : ByteArray), 0, 0, 0, 0, (⟨#[]⟩ : ByteArray), 0⟩ : GEntry) a0 x_62).Mode, (O.get (⟨(⟨#[]⟩ : ByteArray), 0, 0, 0, 0, (⟨#[]⟩ : ByteArray), 0⟩ : GEntry) a0 x_62).Time, (O.get (⟨(⟨#[]⟩ : ByteArray), 0, 0, 0, 0, (⟨#[]⟩ : ByteArray), 0⟩ : GEntry) a0 x_62).Size, (O.get (⟨(⟨#[]⟩ : ByteArray), 0, 0, 0, 0, (⟨#[]⟩ : ByteArray), 0⟩ : GEntry) a0 x_62).Target, (O.get (⟨(⟨#[]⟩ : ByteArray), 0, 0, 0, 0, (⟨#[]⟩ : ByteArray), 0⟩ : GEntry) a0 x_62).Group)) (by subst hO; rfl) rfl
          · exact Le.again (ih0 n0 (by omega) ((O.app (O.app (O.app (O.app (O.app x_61 r71) r72) r89) r90) r91), (O.wrap .i64 (O.add x_62 1)), (O.get (⟨(⟨#[]⟩ : ByteArray), 0, 0, 0, 0, (⟨#[]⟩ : ByteArray), 0⟩ : GEntry) a0 x_62).Path, (O.get (⟨(⟨#[]⟩ : ByteArray), 0, 0, 0, 0, (⟨#[]⟩ : ByteArray), 0⟩ : GEntry) a0 x_62).Kind, (O.get (⟨(⟨#[]⟩ : ByteArray), 0, 0, 0, 0, (⟨#[]⟩ : ByteArray), 0⟩ : GEntry) a0 x_62).Mode, (O.get (⟨(⟨#[]⟩ : ByteArray), 0, 0, 0, 0, (⟨#[]⟩ : ByteArray), 0⟩ : GEntry) a0 x_62).Time, (O.get (⟨(⟨#[]⟩ : ByteArray), 0, 0, 0, 0, (⟨#[]⟩ : ByteArray), 0⟩ : GEntry) a0 x_62).Size, (O.get (⟨(⟨#[]⟩ : ByteArray), 0, 0, 0, 0, (⟨#[]⟩ : ByteArray), 0⟩ : GEntry) a0 x_62).Target, (O.get (⟨(⟨#[]⟩ : ByteArray), 0, 0, 0, 0, (⟨#[]⟩ : ByteArray), 0⟩ : GEntry) a0 x_62).Group)) (by subst hO; rfl) rfl
    · exact Le.ret2 (by subst hO; rfl)
/-! ### loop.example/g00100/spec.GetEntries -/
def spec_GetEntries.e (r : List GEntry × Bool) : Res tab := (([], []), .tup [(false, [.imm 42 r.1]), (false, [.lit (.bool r.2)])])
def spec_GetEntries.l0 : Nat → (List Int) → (Int × GL12Cur) → (List GEntry) → Int → ByteArray → Int → Int → Int → Int → ByteArray → Int → (List Int) → Bool → Option (List GEntry × Bool)
  | 0, _, _, _, _, _, _, _, _, _, _, _, _, _ => none
  | k + 1, a0, r0, x_34, x_35, b_36, b_37, b_38, b_39, b_40, b_41, b_42, b_43, b_44 => (if x_35 < r0.1 then (if b_44 = true then (if b_44 = true then (some (([] : List GEntry), false)) else (if 0 < (b_43.length : Int) then (some (([] : List GEntry), false)) else ((spec_PutEntries.f k x_34).bind fun r56 => (if (std.strOf r56) = (std.strOf a0) then ((spec_PutEntries.f k x_34).bind fun r57 => (if (r57.length : Int) = 0 then (some (([] : List GEntry), false)) else (some (x_34, true)))) else (some (([] : List GEntry), false)))))) else ((spec_l12Var_i.f k (⟨b_43, b_44⟩ : GL12Cur)).bind fun r45 => ((spec_l12Text_i.f k r45.2).bind fun r46 => ((spec_l12Var_i.f k r46.2).bind fun r47 => (if (b_36.size : Int) < r45.1 then (some (([] : List GEntry), false)) else (if 0 ≤ 0 then (if 0 ≤ r45.1 then (if r45.1 ≤ (b_36.size : Int) then (if (((b_36.extract (Int.toNat 0) (Int.toNat r45.1)).size : Int) + (r46.1.size : Int)) ≤ 140737488351232 then (if 4 ≤ r47.1 then (if (IntKind.wrap .i64 (r47.1 - 4)) = 1 then ((spec_l12Var_i.f k r47.2).bind fun r48 => ((spec_l12Var_i.f k r48.2).bind fun r49 => (if (((x_34.length : Int) + ([(⟨((b_36.extract (Int.toNat 0) (Int.toNat r45.1)) ++ r46.1), (IntKind.wrap .i64 (r47.1 - 4)), b_38, b_39, r48.1, (⟨#[]⟩ : ByteArray), r49.1⟩ : GEntry)].length : Int)) * 72) ≤ 140737488351232 then (spec_GetEntries.l0 k a0 r0 (x_34 ++ [(⟨((b_36.extract (Int.toNat 0) (Int.toNat r45.1)) ++ r46.1), (IntKind.wrap .i64 (r47.1 - 4)), b_38, b_39, r48.1, (⟨#[]⟩ : ByteArray), r49.1⟩ : GEntry)]) (IntKind.wrap .i64 (x_35 + 1)) ((b_36.extract (Int.toNat 0) (Int.toNat r45.1)) ++ r46.1) (IntKind.wrap .i64 (r47.1 - 4)) b_38 b_39 r48.1 (⟨#[]⟩ : ByteArray) r49.1 r49.2.B r49.2.Bad) else none))) else (if (IntKind.wrap .i64 (r47.1 - 4)) = 2 then ((spec_l12Text_i.f k r47.2).bind fun r50 => (if (((x_34.length : Int) + ([(⟨((b_36.extract (Int.toNat 0) (Int.toNat r45.1)) ++ r46.1), (IntKind.wrap .i64 (r47.1 - 4)), b_38, b_39, 0, r50.1, 0⟩ : GEntry)].length : Int)) * 72) ≤ 140737488351232 then (spec_GetEntries.l0 k a0 r0 (x_34 ++ [(⟨((b_36.extract (Int.toNat 0) (Int.toNat r45.1)) ++ r46.1), (IntKind.wrap .i64 (r47.1 - 4)), b_38, b_39, 0, r50.1, 0⟩ : GEntry)]) (IntKind.wrap .i64 (x_35 + 1)) ((b_36.extract (Int.toNat 0) (Int.toNat r45.1)) ++ r46.1) (IntKind.wrap .i64 (r47.1 - 4)) b_38 b_39 0 r50.1 0 r50.2.B r50.2.Bad) else none)) else (if (((x_34.length : Int) + ([(⟨((b_36.extract (Int.toNat 0) (Int.toNat r45.1)) ++ r46.1), (IntKind.wrap .i64 (r47.1 - 4)), b_38, b_39, 0, (⟨#[]⟩ : ByteArray), 0⟩ : GEntry)].length : Int)) * 72) ≤ 140737488351232 then (spec_GetEntries.l0 k a0 r0 (x_34 ++ [(⟨((b_36.extract (Int.toNat 0) (Int.toNat r45.1)) ++ r46.1), (IntKind.wrap .i64 (r47.1 - 4)), b_38, b_39, 0, (⟨#[]⟩ : ByteArray), 0⟩ : GEntry)]) (IntKind.wrap .i64 (x_35 + 1)) ((b_36.extract (Int.toNat 0) (Int.toNat r45.1)) ++ r46.1) (IntKind.wrap .i64 (r47.1 - 4)) b_38 b_39 0 (⟨#[]⟩ : ByteArray) 0 r47.2.B r47.2.Bad) else none))) else ((spec_l12Var_i.f k r47.2).bind fun r51 => ((spec_l12Var_i.f k r51.2).bind fun r52 => (if r47.1 = 1 then ((spec_l12Var_i.f k r52.2).bind fun r53 => ((spec_l12Var_i.f k r53.2).bind fun r54 => (if (((x_34.length : Int) + ([(⟨((b_36.extract (Int.toNat 0) (Int.toNat r45.1)) ++ r46.1), r47.1, r51.1, r52.1, r53.1, (⟨#[]⟩ : ByteArray), r54.1⟩ : GEntry)].length : Int)) * 72) ≤ 140737488351232 then (spec_GetEntries.l0 k a0 r0 (x_34 ++ [(⟨((b_36.extract (Int.toNat 0) (Int.toNat r45.1)) ++ r46.1), r47.1, r51.1, r52.1, r53.1, (⟨#[]⟩ : ByteArray), r54.1⟩ : GEntry)]) (IntKind.wrap .i64 (x_35 + 1)) ((b_36.extract (Int.toNat 0) (Int.toNat r45.1)) ++ r46.1) r47.1 r51.1 r52.1 r53.1 (⟨#[]⟩ : ByteArray) r54.1 r54.2.B r54.2.Bad) else none))) else (if r47.1 = 2 then ((spec_l12Text_i.f k r52.2).bind fun r55 => (if (((x_34.length : Int) + ([(⟨((b_36.extract (Int.toNat 0) (Int.toNat r45.1)) ++ r46.1), r47.1, r51.1, r52.1, 0, r55.1, 0⟩ : GEntry)].length : Int)) * 72) ≤ 140737488351232 then (spec_GetEntries.l0 k a0 r0 (x_34 ++ [(⟨((b_36.extract (Int.toNat 0) (Int.toNat r45.1)) ++ r46.1), r47.1, r51.1, r52.1, 0, r55.1, 0⟩ : GEntry)]) (IntKind.wrap .i64 (x_35 + 1)) ((b_36.extract (Int.toNat 0) (Int.toNat r45.1)) ++ r46.1) r47.1 r51.1 r52.1 0 r55.1 0 r55.2.B r55.2.Bad) else none)) else (if (((x_34.length : Int) + ([(⟨((b_36.extract (Int.toNat 0) (Int.toNat r45.1)) ++ r46.1), r47.1, r51.1, r52.1, 0, (⟨#[]⟩ : ByteArray), 0⟩ : GEntry)].length : Int)) * 72) ≤ 140737488351232 then (spec_GetEntries.l0 k a0 r0 (x_34 ++ [(⟨((b_36.extract (Int.toNat 0) (Int.toNat r45.1)) ++ r46.1), r47.1, r51.1, r52.1, 0, (⟨#[]⟩ : ByteArray), 0⟩ : GEntry)]) (IntKind.wrap .i64 (x_35 + 1)) ((b_36.extract (Int.toNat 0) (Int.toNat r45.1)) ++ r46.1) r47.1 r51.1 r52.1 0 (⟨#[]⟩ : ByteArray) 0 r52.2.B r52.2.Bad) else none)))))) else none) else none) else none) else none)))))) else (if b_44 = true then (some (([] : List GEntry), false)) else (if 0 < (b_43.length : Int) then (some (([] : List GEntry), false)) else ((spec_PutEntries.f k x_34).bind fun r58 => (if (std.strOf r58) = (std.strOf a0) then ((spec_PutEntries.f k x_34).bind fun r59 => (if (r59.length : Int) = 0 then (some (([] : List GEntry), false)) else (some (x_34, true)))) else (some (([] : List GEntry), false)))))))
def spec_GetEntries.f (k : Nat) (a0 : List Int) : Option (List GEntry × Bool) := ((spec_l12Var_i.f k (⟨a0, false⟩ : GL12Cur)).bind fun r0 => (if 200 < r0.1 then (some (([] : List GEntry), false)) else (spec_GetEntries.l0 k a0 r0 ([] : List GEntry) 0 (⟨#[]⟩ : ByteArray) 0 0 0 0 (⟨#[]⟩ : ByteArray) 0 r0.2.B r0.2.Bad)))
theorem spec_GetEntries.le (O : Prim) (hO : O = std) (k : Nat) (a0 : List Int) : Le F O M fi12.kills spec_GetEntries.e (spec_GetEntries.f k a0) (den O M fi12.kills fi12.fn fi12.body (tab.gives 12) (M 12) [.one (.imm 5 a0)] : Tr tab) := by
  refine Le.eqS 0 (by conv => lhs; cbv) ?_
  unfold spec_GetEntries.f
  refine Le.callC 0 (fi := fi39) rfl (spec_l12Var_i.le O hO k (⟨a0, false⟩ : GL12Cur)) (by subst hO; rfl) (by intro r0; conv => lhs; cbv) ?_
  intro r0
  refine Le.condP 0 0 (by subst hO; rfl) (by conv => lhs; cbv) (by conv => lhs; cbv) ?_ ?_
  · exact Le.ret2 (by subst hO; rfl)
  · refine Le.loopS (fun (n : Nat) (v : List GEntry × Int × ByteArray × Int × Int × Int × Int × ByteArray × Int × List Int × Bool) => spec_GetEntries.l0 n a0 r0 v.1 v.2.1 v.2.2.1 v.2.2.2.1 v.2.2.2.2.1 v.2.2.2.2.2.1 v.2.2.2.2.2.2.1 v.2.2.2.2.2.2.2.1 v.2.2.2.2.2.2.2.2.1 v.2.2.2.2.2.2.2.2.2.1 v.2.2.2.2.2.2.2.2.2.2) (fun (v : List GEntry × Int × ByteArray × Int × Int × Int × Int × ByteArray × Int × List Int × Bool) => match v with | (x_34, x_35, b_36, b_37, b_38, b_39, b_40, b_41, b_42, b_43, b_44) => (⟨[], [.one (.imm 5 a0), D_, D_, D_, .one (.ptr ⟨33, 0, []⟩), .one (.own 42 x_34), .one (.lit (.int .i64 r0.1)), .one (.ptr ⟨17, 0, []⟩), .one (.lit (.int .i64 x_35)), D_, D_, D_, D_, D_, D_, D_, D_, D_, D_, D_, D_, D_, D_, D_, D_, D_, D_, D_, D_, D_, D_, D_, D_, D_, D_, D_, D_, D_, D_, D_, D_, D_, D_, D_, D_, D_, D_, D_, D_, D_, D_, D_, D_, D_, D_, D_, D_, D_, D_, D_, D_, D_, D_, D_, D_, D_, D_, D_, D_, D_, D_, D_, D_, D_, D_, D_, D_, D_, D_, D_, D_, D_, D_, D_, D_, D_, D_, D_, D_, D_, D_, D_, D_, D_, D_, D_, D_, D_, D_, D_, D_, D_, D_, D_, D_, D_, D_, D_, D_, D_, D_, D_, D_, D_, D_, D_, D_, D_], [[], [], [], [], [], [], [], [.lit (.string b_36), .lit (.int .i64 b_37), .lit (.int .i64 b_38), .lit (.int .i64 b_39), .lit (.int .i64 b_40), .lit (.string b_41), .lit (.int .i64 b_42)], [], [], [], [], [], [], [], [.imm 5 b_43, .lit (.bool b_44)], [], [], [], [], [], [], [], [], [], [], [], [], [], [], [], [], [], [], [], [], [], [], [], [], [], [], [], [], [], [], [], [], [], [], [], [], [], [], [], [], [], [], [], [], [], [], [], [], [], [], [], [], [], [], [], [], [], [], [], [], [], [], [], [], [], [], [], [], [], [], [], [], [], [], [], [], [], [], [], [], [], [], [], [], [], [], [], [], [], [], [], [], [], [], [], [], [], [], [], [], [], [], []], []⟩ : S tab)) k (([] : List GEntry), 0, (⟨#[]⟩ : ByteArray), 0, 0, 0, 0, (⟨#[]⟩ : ByteArray), 0, r0.2.B, r0.2.Bad) (by subst hO; rfl) rfl (fun _ => rfl) ?_
    intro n0 hn0 ih0 v0
    obtain ⟨x_34, x_35, b_36, b_37, b_38, b_39, b_40, b_41, b_42, b_43, b_44⟩ := v0
    refine Le.eqS 0 (by conv => lhs; cbv) ?_
    show Le F O M _ _ (spec_GetEntries.l0 (n0 + 1) a0 r0 x_34 x_35 b_36 b_37 b_38 b_39 b_40 b_41 b_42 b_43 b_44) _
    rw [spec_GetEntries.l0]
    refine Le.condP 5 6 (by subst hO; rfl) (by conv => lhs; cbv) (by conv => lhs; cbv) ?_ ?_
    · refine Le.condN 0 0 (by subst hO; exact Bool.decide_eq_true.trans (Bool.not_not _).symm) (by conv => lhs; cbv) (by conv => lhs; cbv) ?_ ?_
      · refine Le.callC 0 (fi := fi39) rfl (spec_l12Var_i.le O hO n0 (⟨b_43, b_44⟩ : GL12Cur)) (by subst hO; rfl) (by intro r45; conv => lhs; cbv) ?_
        intro r45
        refine Le.callC 0 (fi := fi40) rfl (spec_l12Text_i.le O hO n0 r45.2) (by subst hO; rfl) (by intro r46; conv => lhs; cbv) ?_
        intro r46
        refine Le.callC 0 (fi := fi39) rfl (spec_l12Var_i.le O hO n0 r46.2) (by subst hO; rfl) (by intro r47; conv => lhs; cbv) ?_
        intro r47
        refine Le.condP 0 0 (by subst hO; rfl) (by conv => lhs; cbv) (by conv => lhs; cbv) ?_ ?_
        · exact Le.ret2 (by subst hO; rfl)
        · refine Le.guardP 0 (by subst hO; rfl) (by conv => lhs; cbv) ?_
          refine Le.guardP 0 (by subst hO; rfl) (by conv => lhs; cbv) ?_
          refine Le.guardP 0 (by subst hO; rfl) (by conv => lhs; cbv) ?_
          refine Le.guardP 0 (by subst hO; rfl) (by conv => lhs; cbv) ?_
          refine Le.condP 0 0 (by subst hO; rfl) (by conv => lhs; cbv) (by conv => lhs; cbv) ?_ ?_
          · refine Le.condP 0 0 (by subst hO; rfl) (by conv => lhs; cbv) (by conv => lhs; cbv) ?_ ?_
            · refine Le.callC 0 (fi := fi39) rfl (spec_l12Var_i.le O hO n0 r47.2) (by subst hO; rfl) (by intro r48; conv => lhs; cbv) ?_
              intro r48
              refine Le.callC 0 (fi := fi39) rfl (spec_l12Var_i.le O hO n0 r48.2) (by subst hO; rfl) (by intro r49; conv => lhs; cbv) ?_
              intro r49
              refine Le.guardP 0 (by subst hO; rfl) (by conv => lhs; cbv) ?_
              exact Le.again (ih0 n0 (by omega) ((O.app x_34 [(⟨(O.scat (O.sext b_36 0 r45.1) r46.1), (O.wrap .i64 (O.sub r47.1 4)), b_38, b_39, r48.1, (⟨#[]⟩ : ByteArray), r49.1⟩ : GEntry)]), (O.wrap .i64 (O.add x_35 1)), (O.scat (O.sext b_36 0 r45.1) r46.1), (O.wrap .i64 (O.sub r47.1 4)), b_38, b_39, r48.1, (⟨#[]⟩ : ByteArray), r49.1, r49.2.B, r49.2.Bad)) (by subst hO; rfl) rfl
            · refine Le.condP 0 0 (by subst hO; rfl) (by conv => lhs; cbv) (by conv => lhs; cbv) ?_ ?_
              · refine Le.callC 0 (fi := fi40) rfl (spec_l12Text_i.le O hO n0 r47.2) (by subst hO; rfl) (by intro r50; conv => lhs; cbv) ?_
                intro r50
                refine Le.guardP 0 (by subst hO; rfl) (by conv => lhs; cbv) ?_
                exact Le.again (ih0 n0 (by omega) ((O.app x_34 [(⟨(O.scat (O.sext b_36 0 r45.1) r46.1), (O.wrap .i64 (O.sub r47.1 4)), b_38, b_39, 0, r50.1, 0⟩ : GEntry)]), (O.wrap .i64 (O.add x_35 1)), (O.scat (O.sext b_36 0 r45.1) r46.1), (O.wrap .i64 (O.sub r47.1 4)), b_38, b_39, 0, r50.1, 0, r50.2.B, r50.2.Bad)) (by subst hO; rfl) rfl
              · refine Le.guardP 0 (by subst hO; rfl) (by conv => lhs; cbv) ?_
                exact Le.again (ih0 n0 (by omega) ((O.app x_34 [(⟨(O.scat (O.sext b_36 0 r45.1) r46.1), (O.wrap .i64 (O.sub r47.1 4)), b_38, b_39, 0, (⟨#[]⟩ : ByteArray), 0⟩ : GEntry)]), (O.wrap .i64 (O.add x_35 1)), (O.scat (O.sext b_36 0 r45.1) r46.1), (O.wrap .i64 (O.sub r47.1 4)), b_38, b_39, 0, (⟨#[]⟩ : ByteArray), 0, r47.2.B, r47.2.Bad)) (by subst hO; rfl) rfl
          · refine Le.callC 0 (fi := fi39) rfl (spec_l12Var_i.le O hO n0 r47.2) (by subst hO; rfl) (by intro r51; conv => lhs; cbv) ?_
            intro r51
            refine Le.callC 0 (fi := fi39) rfl (spec_l12Var_i.le O hO n0 r51.2) (by subst hO; rfl) (by intro r52; conv => lhs; cbv) ?_
            intro r52
            refine Le.condP 0 0 (by subst hO; rfl) (by conv => lhs; cbv) (by conv => lhs; cbv) ?_ ?_
            · refine Le.callC 0 (fi := fi39) rfl (spec_l12Var_i.le O hO n0 r52.2) (by subst hO; rfl) (by intro r53; conv => lhs; cbv) ?_
              intro r53
              refine Le.callC 0 (fi := fi39) rfl (spec_l12Var_i.le O hO n0 r53.2) (by subst hO; rfl) (by intro r54; conv => lhs; cbv) ?_
              intro r54
              refine Le.guardP 0 (by subst hO; rfl) (by conv => lhs; cbv) ?_
              exact Le.again (ih0 n0 (by omega) ((O.app x_34 [(⟨(O.scat (O.sext b_36 0 r45.1) r46.1), r47.1, r51.1, r52.1, r53.1, (⟨#[]⟩ : ByteArray), r54.1⟩ : GEntry)]), (O.wrap .i64 (O.add x_35 1)), (O.scat (O.sext b_36 0 r45.1) r46.1), r47.1, r51.1, r52.1, r53.1, (⟨#[]⟩ : ByteArray), r54.1, r54.2.B, r54.2.Bad)) (by subst hO; rfl) rfl
            · refine Le.condP 0 0 (by subst hO; rfl) (by conv => lhs; cbv) (by conv => lhs; cbv) ?_ ?_
              · refine Le.callC 0 (fi := fi40) rfl (spec_l12Text_i.le O hO n0 r52.2) (by subst hO; rfl) (by intro r55; conv => lhs; cbv) ?_
                intro r55
                refine Le.guardP 0 (by subst hO; rfl) (by conv => lhs; cbv) ?_
                exact Le.again (ih0 n0 (by omega) ((O.app x_34 [(⟨(O.scat (O.sext b_36 0 r45.1) r46.1), r47.1, r51.1, r52.1, 0, r55.1, 0⟩ : GEntry)]), (O.wrap .i64 (O.add x_35 1)), (O.scat (O.sext b_36 0 r45.1) r46.1), r47.1, r51.1, r52.1, 0, r55.1, 0, r55.2.B, r55.2.Bad)) (by subst hO; rfl) rfl
              · refine Le.guardP 0 (by subst hO; rfl) (by conv => lhs; cbv) ?_
                exact Le.again (ih0 n0 (by omega) ((O.app x_34 [(⟨(O.scat (O.sext b_36 0 r45.1) r46.1), r47.1, r51.1, r52.1, 0, (⟨#[]⟩ : ByteArray), 0⟩ : GEntry)]), (O.wrap .i64 (O.add x_35 1)), (O.scat (O.sext b_36 0 r45.1) r46.1), r47.1, r51.1, r52.1, 0, (⟨#[]⟩ : ByteArray), 0, r52.2.B, r52.2.Bad)) (by subst hO; rfl) rfl
      · refine Le.condP 19 6 (by subst hO; exact Bool.decide_eq_true) (by conv => lhs; cbv) (by conv => lhs; cbv) ?_ ?_
        · exact Le.ret2 (by subst hO; rfl)
        · refine Le.condP 12 3 (by subst hO; rfl) (by conv => lhs; cbv) (by conv => lhs; cbv) ?_ ?_
          · exact Le.ret2 (by subst hO; rfl)
          · refine Le.callC 3 (fi := fi25) rfl (spec_PutEntries.le O hO n0 x_34) (by subst hO; rfl) (by intro r56; conv => lhs; cbv) ?_
            intro r56
            refine Le.condN 5 1 (by subst hO; exact (seq_dec _ _).trans (Bool.not_not _).symm) (by conv => lhs; cbv) (by conv => lhs; cbv) ?_ ?_
            · exact Le.ret2 (by subst hO; rfl)
            · refine Le.callC 3 (fi := fi25) rfl (spec_PutEntries.le O hO n0 x_34) (by subst hO; rfl) (by intro r57; conv => lhs; cbv) ?_
              intro r57
              refine Le.condP 0 0 (by subst hO; rfl) (by conv => lhs; cbv) (by conv => lhs; cbv) ?_ ?_
              · exact Le.ret2 (by subst hO; rfl)
              · exact Le.ret2 (by subst hO; rfl)
    · refine Le.condP 19 6 (by subst hO; exact Bool.decide_eq_true) (by conv => lhs; cbv) (by conv => lhs; cbv) ?_ ?_
      · exact Le.ret2 (by subst hO; rfl)
      · refine Le.condP 12 3 (by subst hO; rfl) (by conv => lhs; cbv) (by conv => lhs; cbv) ?_ ?_
        · exact Le.ret2 (by subst hO; rfl)
        · refine Le.callC 3 (fi := fi25) rfl (spec_PutEntries.le O hO n0 x_34) (by subst hO; rfl) (by intro r58; conv => lhs; cbv) ?_
          intro r58
          refine Le.condN 5 1 (by subst hO; exact (seq_dec _ _).trans (Bool.not_not _).symm) (by conv => lhs; cbv) (by conv => lhs; cbv) ?_ ?_
          · exact Le.ret2 (by subst hO; rfl)
          · refine Le.callC 3 (fi := fi25) rfl (spec_PutEntries.le O hO n0 x_34) (by subst hO; rfl) (by intro r59; conv => lhs; cbv) ?_
            intro r59
            refine Le.condP 0 0 (by subst hO; rfl) (by conv => lhs; cbv) (by conv => lhs; cbv) ?_ ?_
            · exact Le.ret2 (by subst hO; rfl)
            · exact Le.ret2 (by subst hO; rfl)
/-! ### loop.example/g00100/impl.readVar -/
def impl_readVar.e (r : Int × Int) : Res tab := (([], []), .tup [(false, [.lit (.int .i64 r.1)]), (false, [.lit (.int .i64 r.2)])])
def impl_readVar.l0 : Nat → ByteArray → Int → Int → Option (Int × Int)
  | 0, _, _, _ => none
  | k + 1, a0, x_2, x_3 => (if x_3 < (a0.size : Int) then (if x_3 < 9 then (if 0 ≤ x_3 then (if x_3 < (a0.size : Int) then (if 0 ≤ (IntKind.wrap .i64 (7 * x_3)) then (if 0 ≤ x_3 then (if x_3 < (a0.size : Int) then (if (std.sget a0 x_3) < 128 then (if 0 ≤ x_3 then (if x_3 < (a0.size : Int) then (if (std.sget a0 x_3) = 0 then (if 0 < x_3 then (some (0, 0)) else (some ((std.bits .or .i64 x_2 (std.shl .i64 (IntKind.wrap .i64 (std.bits .and .u8 (std.sget a0 x_3) 127)) (IntKind.wrap .i64 (7 * x_3)))), (IntKind.wrap .i64 (x_3 + 1))))) else (some ((std.bits .or .i64 x_2 (std.shl .i64 (IntKind.wrap .i64 (std.bits .and .u8 (std.sget a0 x_3) 127)) (IntKind.wrap .i64 (7 * x_3)))), (IntKind.wrap .i64 (x_3 + 1))))) else none) else none) else (impl_readVar.l0 k a0 (std.bits .or .i64 x_2 (std.shl .i64 (IntKind.wrap .i64 (std.bits .and .u8 (std.sget a0 x_3) 127)) (IntKind.wrap .i64 (7 * x_3)))) (IntKind.wrap .i64 (x_3 + 1)))) else none) else none) else none) else none) else none) else (some (0, 0))) else (some (0, 0)))
def impl_readVar.f (k : Nat) (a0 : ByteArray) : Option (Int × Int) := (impl_readVar.l0 k a0 0 0)
theorem impl_readVar.le (O : Prim) (hO : O = std) (k : Nat) (a0 : ByteArray) : Le F O M fi77.kills impl_readVar.e (impl_readVar.f k a0) (den O M fi77.kills fi77.fn fi77.body (tab.gives 77) (M 77) [.one (.lit (.string a0))] : Tr tab) := by
  refine Le.eqS 0 (by conv => lhs; cbv) ?_
  unfold impl_readVar.f
  refine Le.loopS (fun (n : Nat) (v : Int × Int) => impl_readVar.l0 n a0 v.1 v.2) (fun (v : Int × Int) => match v with | (x_2, x_3) => (⟨[], [.one (.lit (.string a0)), D_, D_, D_, .one (.lit (.int .i64 x_2)), .one (.lit (.int .i64 x_3)), D_, D_, D_, D_, D_, D_, D_, D_, D_, D_, D_, D_, D_, D_, D_, D_, D_, D_, D_, D_, D_, D_, D_, D_, D_, D_, D_, D_, D_, D_, D_, D_, D_, D_, D_], [[], [], [], [], [], [], [], [], [], [], [], [], [], [], [], [], [], [], [], [], [], [], [], [], [], [], [], [], [], [], [], [], [], [], [], [], [], [], [], [], [], []], []⟩ : S tab)) k (0, 0) (by subst hO; rfl) rfl (fun _ => rfl) ?_
  intro n0 hn0 ih0 v0
  obtain ⟨x_2, x_3⟩ := v0
  refine Le.eqS 0 (by conv => lhs; cbv) ?_
  show Le F O M _ _ (impl_readVar.l0 (n0 + 1) a0 x_2 x_3) _
  rw [impl_readVar.l0]
  refine Le.condP 2 3 (by subst hO; rfl) (by conv => lhs; cbv) (by conv => lhs; cbv) ?_ ?_
  · refine Le.condP 0 0 (by subst hO; rfl) (by conv => lhs; cbv) (by conv => lhs; cbv) ?_ ?_
    · refine Le.guardP 0 (by subst hO; rfl) (by conv => lhs; cbv) ?_
      refine Le.guardP 0 (by subst hO; rfl) (by conv => lhs; cbv) ?_
      refine Le.guardP 0 (by subst hO; rfl) (by conv => lhs; cbv) ?_
      refine Le.guardP 0 (by subst hO; rfl) (by conv => lhs; cbv) ?_
      refine Le.guardP 0 (by subst hO; rfl) (by conv => lhs; cbv) ?_
      refine Le.condP 0 0 (by subst hO; rfl) (by conv => lhs; cbv) (by conv => lhs; cbv) ?_ ?_
      · refine Le.guardP 0 (by subst hO; rfl) (by conv => lhs; cbv) ?_
        refine Le.guardP 0 (by subst hO; rfl) (by conv => lhs; cbv) ?_
        refine Le.condP 2 3 (by subst hO; rfl) (by conv => lhs; cbv) (by conv => lhs; cbv) ?_ ?_
        · refine Le.condP 0 0 (by subst hO; rfl) (by conv => lhs; cbv) (by conv => lhs; cbv) ?_ ?_
          · exact Le.ret2 (by subst hO; rfl)
          · exact Le.ret2 (by subst hO; rfl)
        · exact Le.ret2 (by subst hO; rfl)
      · exact Le.again (ih0 n0 (by omega) ((O.bits .or .i64 x_2 (O.shl .i64 (O.wrap .i64 (O.bits .and .u8 (O.sget a0 x_3) 127)) (O.wrap .i64 (O.mul 7 x_3)))), (O.wrap .i64 (O.add x_3 1)))) (by subst hO; rfl) rfl
    · exact Le.ret2 (by subst hO; rfl)
  · exact Le.ret2 (by subst hO; rfl)
/-! ### (*loop.example/g00100/impl.reader).take -/
def impl_reader_take.e (r : ByteArray × GReader) : Res tab := (([], [[.lit (.string r.2.Text), .lit (.bool r.2.Bad)]]), .one (.lit (.string r.1)))
def impl_reader_take.f (a0 : GReader) (a1 : Int) : Option (ByteArray × GReader) := (if a0.Bad = true then (some ((⟨#[]⟩ : ByteArray), (⟨a0.Text, true⟩ : GReader))) else (if (a0.Text.size : Int) < a1 then (some ((⟨#[]⟩ : ByteArray), (⟨a0.Text, true⟩ : GReader))) else (if 0 ≤ 0 then (if 0 ≤ a1 then (if a1 ≤ (a0.Text.size : Int) then (if 0 ≤ a1 then (if a1 ≤ (a0.Text.size : Int) then (if (a0.Text.size : Int) ≤ (a0.Text.size : Int) then (some ((a0.Text.extract (Int.toNat 0) (Int.toNat a1)), (⟨(a0.Text.extract (Int.toNat a1) (Int.toNat (a0.Text.size : Int))), a0.Bad⟩ : GReader))) else none) else none) else none) else none) else none) else none)))
theorem impl_reader_take.le (O : Prim) (hO : O = std) (a0 : GReader) (a1 : Int) : Le F O M fi78.kills impl_reader_take.e (impl_reader_take.f a0 a1) (den O M fi78.kills fi78.fn fi78.body (tab.gives 78) (M 78) [.agg [.lit (.string a0.Text), .lit (.bool a0.Bad)], .one (.lit (.int .i64 a1))] : Tr tab) := by
  refine Le.eqS 0 (by conv => lhs; cbv) ?_
  unfold impl_reader_take.f
  refine Le.condP 8 7 (by subst hO; exact Bool.decide_eq_true) (by conv => lhs; cbv) (by conv => lhs; cbv) ?_ ?_
  · exact Le.ret2 (by subst hO; rfl)
  · refine Le.condP 0 0 (by subst hO; rfl) (by conv => lhs; cbv) (by conv => lhs; cbv) ?_ ?_
    · exact Le.ret2 (by subst hO; rfl)
    · refine Le.guardP 0 (by subst hO; rfl) (by conv => lhs; cbv) ?_
      refine Le.guardP 0 (by subst hO; rfl) (by conv => lhs; cbv) ?_
      refine Le.guardP 0 (by subst hO; rfl) (by conv => lhs; cbv) ?_
      refine Le.guardP 0 (by subst hO; rfl) (by conv => lhs; cbv) ?_
      refine Le.guardP 0 (by subst hO; rfl) (by conv => lhs; cbv) ?_
      refine Le.guardP 0 (by subst hO; rfl) (by conv => lhs; cbv) ?_
      exact Le.ret2 (by subst hO; rfl)
/-! ### (*loop.example/g00100/impl.reader).number -/
def impl_reader_number.e (r : Int × GReader) : Res tab := (([], [[.lit (.string r.2.Text), .lit (.bool r.2.Bad)]]), .one (.lit (.int .i64 r.1)))
def impl_reader_number.f (k : Nat) (a0 : GReader) : Option (Int × GReader) := ((impl_readVar.f k a0.Text).bind fun r0 => (if r0.2 = 0 then ((impl_reader_take.f (⟨a0.Text, true⟩ : GReader) r0.2).bind fun r1 => (some (r0.1, r1.2))) else ((impl_reader_take.f a0 r0.2).bind fun r2 => (some (r0.1, r2.2)))))
theorem impl_reader_number.le (O : Prim) (hO : O = std) (k : Nat) (a0 : GReader) : Le F O M fi41.kills impl_reader_number.e (impl_reader_number.f k a0) (den O M fi41.kills fi41.fn fi41.body (tab.gives 41) (M 41) [.agg [.lit (.string a0.Text), .lit (.bool a0.Bad)]] : Tr tab) := by
  refine Le.eqS 0 (by conv => lhs; cbv) ?_
  unfold impl_reader_number.f
  refine Le.callC 0 (fi := fi77) rfl (impl_readVar.le O hO k a0.Text) (by subst hO; rfl) (by intro r0; conv => lhs; cbv) ?_
  intro r0
  refine Le.condP 0 0 (by subst hO; rfl) (by conv => lhs; cbv) (by conv => lhs; cbv) ?_ ?_
  · refine Le.callC 0 (fi := fi78) rfl (impl_reader_take.le O hO (⟨a0.Text, true⟩ : GReader) r0.2) (by subst hO; rfl) (by intro r1; conv => lhs; cbv) ?_
    intro r1
    exact Le.ret2 (by subst hO; rfl)
  · refine Le.callC 0 (fi := fi78) rfl (impl_reader_take.le O hO a0 r0.2) (by subst hO; rfl) (by intro r2; conv => lhs; cbv) ?_
    intro r2
    exact Le.ret2 (by subst hO; rfl)
/-! ### loop.example/g00100/impl.readText -/
def impl_readText.e (r : ByteArray × Int) : Res tab := (([], []), .tup [(false, [.lit (.string r.1)]), (false, [.lit (.int .i64 r.2)])])
def impl_readText.f (k : Nat) (a0 : ByteArray) : Option (ByteArray × Int) := ((impl_readVar.f k a0).bind fun r0 => (if r0.2 = 0 then (some ((⟨#[]⟩ : ByteArray), 0)) else (if 20000 < r0.1 then (some ((⟨#[]⟩ : ByteArray), 0)) else (if (IntKind.wrap .i64 ((a0.size : Int) - r0.2)) < r0.1 then (some ((⟨#[]⟩ : ByteArray), 0)) else (if 0 ≤ r0.2 then (if r0.2 ≤ (IntKind.wrap .i64 (r0.2 + r0.1)) then (if (IntKind.wrap .i64 (r0.2 + r0.1)) ≤ (a0.size : Int) then (some ((a0.extract (Int.toNat r0.2) (Int.toNat (IntKind.wrap .i64 (r0.2 + r0.1)))), (IntKind.wrap .i64 (r0.2 + r0.1)))) else none) else none) else none)))))
theorem impl_readText.le (O : Prim) (hO : O = std) (k : Nat) (a0 : ByteArray) : Le F O M fi108.kills impl_readText.e (impl_readText.f k a0) (den O M fi108.kills fi108.fn fi108.body (tab.gives 108) (M 108) [.one (.lit (.string a0))] : Tr tab) := by
  refine Le.eqS 0 (by conv => lhs; cbv) ?_
  unfold impl_readText.f
  refine Le.callC 0 (fi := fi77) rfl (impl_readVar.le O hO k a0) (by subst hO; rfl) (by intro r0; conv => lhs; cbv) ?_
  intro r0
  refine Le.condP 10 2 (by subst hO; rfl) (by conv => lhs; cbv) (by conv => lhs; cbv) ?_ ?_
  · exact Le.ret2 (by subst hO; rfl)
  · refine Le.condP 7 6 (by subst hO; rfl) (by conv => lhs; cbv) (by conv => lhs; cbv) ?_ ?_
    · exact Le.ret2 (by subst hO; rfl)
    · refine Le.condP 0 0 (by subst hO; rfl) (by conv => lhs; cbv) (by conv => lhs; cbv) ?_ ?_
      · exact Le.ret2 (by subst hO; rfl)
      · refine Le.guardP 0 (by subst hO; rfl) (by conv => lhs; cbv) ?_
        refine Le.guardP 0 (by subst hO; rfl) (by conv => lhs; cbv) ?_
        refine Le.guardP 0 (by subst hO; rfl) (by conv => lhs; cbv) ?_
        exact Le.ret2 (by subst hO; rfl)
/-! ### (*loop.example/g00100/impl.reader).string -/
def impl_reader_string.e (r : ByteArray × GReader) : Res tab := (([], [[.lit (.string r.2.Text), .lit (.bool r.2.Bad)]]), .one (.lit (.string r.1)))
def impl_reader_string.f (k : Nat) (a0 : GReader) : Option (ByteArray × GReader) := ((impl_readText.f k a0.Text).bind fun r0 => (if r0.2 = 0 then ((impl_reader_take.f (⟨a0.Text, true⟩ : GReader) r0.2).bind fun r1 => (some (r0.1, r1.2))) else ((impl_reader_take.f a0 r0.2).bind fun r2 => (some (r0.1, r2.2)))))
theorem impl_reader_string.le (O : Prim) (hO : O = std) (k : Nat) (a0 : GReader) : Le F O M fi79.kills impl_reader_string.e (impl_reader_string.f k a0) (den O M fi79.kills fi79.fn fi79.body (tab.gives 79) (M 79) [.agg [.lit (.string a0.Text), .lit (.bool a0.Bad)]] : Tr tab) := by
  refine Le.eqS 0 (by conv => lhs; cbv) ?_
  unfold impl_reader_string.f
  refine Le.callC 0 (fi := fi108) rfl (impl_readText.le O hO k a0.Text) (by subst hO; rfl) (by intro r0; conv => lhs; cbv) ?_
  intro r0
  refine Le.condP 0 0 (by subst hO; rfl) (by conv => lhs; cbv) (by conv => lhs; cbv) ?_ ?_
  · refine Le.callC 0 (fi := fi78) rfl (impl_reader_take.le O hO (⟨a0.Text, true⟩ : GReader) r0.2) (by subst hO; rfl) (by intro r1; conv => lhs; cbv) ?_
    intro r1
    exact Le.ret2 (by subst hO; rfl)
  · refine Le.callC 0 (fi := fi78) rfl (impl_reader_take.le O hO a0 r0.2) (by subst hO; rfl) (by intro r2; conv => lhs; cbv) ?_
    intro r2
    exact Le.ret2 (by subst hO; rfl)
/-! ### (*loop.example/g00100/impl.reader).entry -/
def impl_reader_entry.e (r : GEntry × GReader) : Res tab := (([], [[.lit (.string r.2.Text), .lit (.bool r.2.Bad)]]), .agg [.lit (.string r.1.Path), .lit (.int .i64 r.1.Kind), .lit (.int .i64 r.1.Mode), .lit (.int .i64 r.1.Time), .lit (.int .i64 r.1.Size), .lit (.string r.1.Target), .lit (.int .i64 r.1.Group)])
def impl_reader_entry.f (k : Nat) (a0 : GReader) (a1 : GEntry) : Option (GEntry × GReader) := ((impl_reader_number.f k a0).bind fun r0 => ((impl_reader_string.f k r0.2).bind fun r1 => (if (a1.Path.size : Int) < r0.1 then (some ((⟨(⟨#[]⟩ : ByteArray), 0, 0, 0, 0, (⟨#[]⟩ : ByteArray), 0⟩ : GEntry), (⟨r1.2.Text, true⟩ : GReader))) else (if 0 ≤ 0 then (if 0 ≤ r0.1 then (if r0.1 ≤ (a1.Path.size : Int) then (if (((a1.Path.extract (Int.toNat 0) (Int.toNat r0.1)).size : Int) + (r1.1.size : Int)) ≤ 140737488351232 then ((impl_reader_number.f k r1.2).bind fun r2 => (if r2.1 < 4 then ((impl_reader_number.f k r2.2).bind fun r3 => ((impl_reader_number.f k r3.2).bind fun r4 => (if r2.1 = 1 then ((impl_reader_number.f k r4.2).bind fun r5 => ((impl_reader_number.f k r5.2).bind fun r6 => (some ((⟨((a1.Path.extract (Int.toNat 0) (Int.toNat r0.1)) ++ r1.1), r2.1, r3.1, r4.1, r5.1, (⟨#[]⟩ : ByteArray), r6.1⟩ : GEntry), r6.2)))) else (if r2.1 = 2 then ((impl_reader_string.f k r4.2).bind fun r7 => (some ((⟨((a1.Path.extract (Int.toNat 0) (Int.toNat r0.1)) ++ r1.1), r2.1, r3.1, r4.1, 0, r7.1, 0⟩ : GEntry), r7.2))) else (some ((⟨((a1.Path.extract (Int.toNat 0) (Int.toNat r0.1)) ++ r1.1), r2.1, r3.1, r4.1, 0, (⟨#[]⟩ : ByteArray), 0⟩ : GEntry), r4.2)))))) else (if (IntKind.wrap .i64 (r2.1 - 4)) = 1 then ((impl_reader_number.f k r2.2).bind fun r8 => ((impl_reader_number.f k r8.2).bind fun r9 => (some ((⟨((a1.Path.extract (Int.toNat 0) (Int.toNat r0.1)) ++ r1.1), (IntKind.wrap .i64 (r2.1 - 4)), a1.Mode, a1.Time, r8.1, (⟨#[]⟩ : ByteArray), r9.1⟩ : GEntry), r9.2)))) else (if (IntKind.wrap .i64 (r2.1 - 4)) = 2 then ((impl_reader_string.f k r2.2).bind fun r10 => (some ((⟨((a1.Path.extract (Int.toNat 0) (Int.toNat r0.1)) ++ r1.1), (IntKind.wrap .i64 (r2.1 - 4)), a1.Mode, a1.Time, 0, r10.1, 0⟩ : GEntry), r10.2))) else (some ((⟨((a1.Path.extract (Int.toNat 0) (Int.toNat r0.1)) ++ r1.1), (IntKind.wrap .i64 (r2.1 - 4)), a1.Mode, a1.Time, 0, (⟨#[]⟩ : ByteArray), 0⟩ : GEntry), r2.2)))))) else none) else none) else none) else none))))
theorem impl_reader_entry.le (O : Prim) (hO : O = std) (k : Nat) (a0 : GReader) (a1 : GEntry) : Le F O M fi42.kills impl_reader_entry.e (impl_reader_entry.f k a0 a1) (den O M fi42.kills fi42.fn fi42.body (tab.gives 42) (M 42) [.agg [.lit (.string a0.Text), .lit (.bool a0.Bad)], .agg [.lit (.string a1.Path), .lit (.int .i64 a1.Kind), .lit (.int .i64 a1.Mode), .lit (.int .i64 a1.Time), .lit (.int .i64 a1.Size), .lit (.string a1.Target), .lit (.int .i64 a1.Group)]] : Tr tab) := by
  refine Le.eqS 0 (by conv => lhs; cbv) ?_
  unfold impl_reader_entry.f
  refine Le.callC 0 (fi := fi41) rfl (impl_reader_number.le O hO k a0) (by subst hO; rfl) (by intro r0; conv => lhs; cbv) ?_
  intro r0
  refine Le.callC 0 (fi := fi79) rfl (impl_reader_string.le O hO k r0.2) (by subst hO; rfl) (by intro r1; conv => lhs; cbv) ?_
  intro r1
  refine Le.condP 0 0 (by subst hO; rfl) (by conv => lhs; cbv) (by conv => lhs; cbv) ?_ ?_
  · exact Le.ret2 (by subst hO; rfl)
  · refine Le.guardP 0 (by subst hO; rfl) (by conv => lhs; cbv) ?_
    refine Le.guardP 0 (by subst hO; rfl) (by conv => lhs; cbv) ?_
    refine Le.guardP 0 (by subst hO; rfl) (by conv => lhs; cbv) ?_
    refine Le.guardP 0 (by subst hO; rfl) (by conv => lhs; cbv) ?_
    refine Le.both ?_ ?_
    · refine Le.eqS 0 (by conv => lhs; cbv) ?_
      refine Le.callC 0 (fi := fi41) rfl (impl_reader_number.le O hO k r1.2) (by subst hO; rfl) (by intro r2; conv => lhs; cbv) ?_
      intro r2
      refine Le.condP 0 0 (by subst hO; rfl) (by conv => lhs; cbv) (by conv => lhs; cbv) ?_ ?_
      · refine Le.callC 0 (fi := fi41) rfl (impl_reader_number.le O hO k r2.2) (by subst hO; rfl) (by intro r3; conv => lhs; cbv) ?_
        intro r3
        refine Le.callC 0 (fi := fi41) rfl (impl_reader_number.le O hO k r3.2) (by subst hO; rfl) (by intro r4; conv => lhs; cbv) ?_
        intro r4
        refine Le.condP 0 0 (by subst hO; rfl) (by conv => lhs; cbv) (by conv => lhs; cbv) ?_ ?_
        · refine Le.callC 0 (fi := fi41) rfl (impl_reader_number.le O hO k r4.2) (by subst hO; rfl) (by intro r5; conv => lhs; cbv) ?_
          intro r5
          refine Le.callC 0 (fi := fi41) rfl (impl_reader_number.le O hO k r5.2) (by subst hO; rfl) (by intro r6; conv => lhs; cbv) ?_
          intro r6
          exact Le.ret2 (by subst hO; rfl)
        · refine Le.condP 0 0 (by subst hO; rfl) (by conv => lhs; cbv) (by conv => lhs; cbv) ?_ ?_
          · refine Le.callC 0 (fi := fi79) rfl (impl_reader_string.le O hO k r4.2) (by subst hO; rfl) (by intro r7; conv => lhs; cbv) ?_
            intro r7
            exact Le.ret2 (by subst hO; rfl)
          · exact Le.ret2 (by subst hO; rfl)
      · refine Le.condP 0 0 (by subst hO; rfl) (by conv => lhs; cbv) (by conv => lhs; cbv) ?_ ?_
        · refine Le.callC 0 (fi := fi41) rfl (impl_reader_number.le O hO k r2.2) (by subst hO; rfl) (by intro r8; conv => lhs; cbv) ?_
          intro r8
          refine Le.callC 0 (fi := fi41) rfl (impl_reader_number.le O hO k r8.2) (by subst hO; rfl) (by intro r9; conv => lhs; cbv) ?_
          intro r9
          exact Le.ret2 (by subst hO; rfl)
        · refine Le.condP 0 0 (by subst hO; rfl) (by conv => lhs; cbv) (by conv => lhs; cbv) ?_ ?_
          · refine Le.callC 0 (fi := fi79) rfl (impl_reader_string.le O hO k r2.2) (by subst hO; rfl) (by intro r10; conv => lhs; cbv) ?_
            intro r10
            exact Le.ret2 (by subst hO; rfl)
          · exact Le.ret2 (by subst hO; rfl)
    · refine Le.eqS 0 (by conv => lhs; cbv) ?_
      refine Le.callC 0 (fi := fi41) rfl (impl_reader_number.le O hO k r1.2) (by subst hO; rfl) (by intro r2; conv => lhs; cbv) ?_
      intro r2
      refine Le.condP 0 0 (by subst hO; rfl) (by conv => lhs; cbv) (by conv => lhs; cbv) ?_ ?_
      · refine Le.callC 0 (fi := fi41) rfl (impl_reader_number.le O hO k r2.2) (by subst hO; rfl) (by intro r3; conv => lhs; cbv) ?_
        intro r3
        refine Le.callC 0 (fi := fi41) rfl (impl_reader_number.le O hO k r3.2) (by subst hO; rfl) (by intro r4; conv => lhs; cbv) ?_
        intro r4
        refine Le.condP 0 0 (by subst hO; rfl) (by conv => lhs; cbv) (by conv => lhs; cbv) ?_ ?_
        · refine Le.callC 0 (fi := fi41) rfl (impl_reader_number.le O hO k r4.2) (by subst hO; rfl) (by intro r5; conv => lhs; cbv) ?_
          intro r5
          refine Le.callC 0 (fi := fi41) rfl (impl_reader_number.le O hO k r5.2) (by subst hO; rfl) (by intro r6; conv => lhs; cbv) ?_
          intro r6
          exact Le.ret2 (by subst hO; rfl)
        · refine Le.condP 0 0 (by subst hO; rfl) (by conv => lhs; cbv) (by conv => lhs; cbv) ?_ ?_
          · refine Le.callC 0 (fi := fi79) rfl (impl_reader_string.le O hO k r4.2) (by subst hO; rfl) (by intro r7; conv => lhs; cbv) ?_
            intro r7
            exact Le.ret2 (by subst hO; rfl)
          · exact Le.ret2 (by subst hO; rfl)
      · refine Le.condP 0 0 (by subst hO; rfl) (by conv => lhs; cbv) (by conv => lhs; cbv) ?_ ?_
        · refine Le.callC 0 (fi := fi41) rfl (impl_reader_number.le O hO k r2.2) (by subst hO; rfl) (by intro r8; conv => lhs; cbv) ?_
          intro r8
          refine Le.callC 0 (fi := fi41) rfl (impl_reader_number.le O hO k r8.2) (by subst hO; rfl) (by intro r9; conv => lhs; cbv) ?_
          intro r9
          exact Le.ret2 (by subst hO; rfl)
        · refine Le.condP 0 0 (by subst hO; rfl) (by conv => lhs; cbv) (by conv => lhs; cbv) ?_ ?_
          · refine Le.callC 0 (fi := fi79) rfl (impl_reader_string.le O hO k r2.2) (by subst hO; rfl) (by intro r10; conv => lhs; cbv) ?_
            intro r10
            exact Le.ret2 (by subst hO; rfl)
          · exact Le.ret2 (by subst hO; rfl)
/-! ### loop.example/g00100/impl.within -/
def impl_within.e (r : Bool) : Res tab := (([], []), .one (.lit (.bool r)))
def impl_within.f (a0 : Int) (a1 : Int) (a2 : Int) : Option Bool := (if a1 ≤ a0 then (some (decide (a0 ≤ a2))) else (some false))
theorem impl_within.le (O : Prim) (hO : O = std) (a0 : Int) (a1 : Int) (a2 : Int) : Le F O M fi70.kills impl_within.e (impl_within.f a0 a1 a2) (den O M fi70.kills fi70.fn fi70.body (tab.gives 70) (M 70) [.one (.lit (.int .i64 a0)), .one (.lit (.int .i64 a1)), .one (.lit (.int .i64 a2))] : Tr tab) := by
  refine Le.eqS 0 (by conv => lhs; cbv) ?_
  unfold impl_within.f
  refine Le.condP 3 3 (by subst hO; rfl) (by conv => lhs; cbv) (by conv => lhs; cbv) ?_ ?_
  · exact Le.ret2 (by subst hO; rfl)
  · exact Le.ret2 (by subst hO; rfl)
/-! ### loop.example/g00100/impl.NameOk -/
def impl_NameOk.e (r : Bool) : Res tab := (([], []), .one (.lit (.bool r)))
def impl_NameOk.l0 : Nat → ByteArray → Int → Option Bool
  | 0, _, _ => none
  | k + 1, a0, x_1 => (if x_1 < (a0.size : Int) then (if 0 ≤ x_1 then (if x_1 < (a0.size : Int) then (if 97 ≤ (std.sget a0 x_1) then (if (std.sget a0 x_1) ≤ 122 then (if true = true then (impl_NameOk.l0 k a0 (IntKind.wrap .i64 (x_1 + 1))) else (some false)) else (if 65 ≤ (std.sget a0 x_1) then (if (std.sget a0 x_1) ≤ 90 then (if true = true then (impl_NameOk.l0 k a0 (IntKind.wrap .i64 (x_1 + 1))) else (some false)) else (if 48 ≤ (std.sget a0 x_1) then (if (std.sget a0 x_1) ≤ 57 then (if true = true then (impl_NameOk.l0 k a0 (IntKind.wrap .i64 (x_1 + 1))) else (some false)) else (if (std.sget a0 x_1) = 46 then (if true = true then (impl_NameOk.l0 k a0 (IntKind.wrap .i64 (x_1 + 1))) else (some false)) else (if (std.sget a0 x_1) = 95 then (if true = true then (impl_NameOk.l0 k a0 (IntKind.wrap .i64 (x_1 + 1))) else (some false)) else (if (std.sget a0 x_1) = 45 then (impl_NameOk.l0 k a0 (IntKind.wrap .i64 (x_1 + 1))) else (some false))))) else (if (std.sget a0 x_1) = 46 then (if true = true then (impl_NameOk.l0 k a0 (IntKind.wrap .i64 (x_1 + 1))) else (some false)) else (if (std.sget a0 x_1) = 95 then (if true = true then (impl_NameOk.l0 k a0 (IntKind.wrap .i64 (x_1 + 1))) else (some false)) else (if (std.sget a0 x_1) = 45 then (impl_NameOk.l0 k a0 (IntKind.wrap .i64 (x_1 + 1))) else (some false)))))) else (if 48 ≤ (std.sget a0 x_1) then (if (std.sget a0 x_1) ≤ 57 then (if true = true then (impl_NameOk.l0 k a0 (IntKind.wrap .i64 (x_1 + 1))) else (some false)) else (if (std.sget a0 x_1) = 46 then (if true = true then (impl_NameOk.l0 k a0 (IntKind.wrap .i64 (x_1 + 1))) else (some false)) else (if (std.sget a0 x_1) = 95 then (if true = true then (impl_NameOk.l0 k a0 (IntKind.wrap .i64 (x_1 + 1))) else (some false)) else (if (std.sget a0 x_1) = 45 then (impl_NameOk.l0 k a0 (IntKind.wrap .i64 (x_1 + 1))) else (some false))))) else (if (std.sget a0 x_1) = 46 then (if true = true then (impl_NameOk.l0 k a0 (IntKind.wrap .i64 (x_1 + 1))) else (some false)) else (if (std.sget a0 x_1) = 95 then (if true = true then (impl_NameOk.l0 k a0 (IntKind.wrap .i64 (x_1 + 1))) else (some false)) else (if (std.sget a0 x_1) = 45 then (impl_NameOk.l0 k a0 (IntKind.wrap .i64 (x_1 + 1))) else (some false))))))) else (if 65 ≤ (std.sget a0 x_1) then (if (std.sget a0 x_1) ≤ 90 then (if true = true then (impl_NameOk.l0 k a0 (IntKind.wrap .i64 (x_1 + 1))) else (some false)) else (if 48 ≤ (std.sget a0 x_1) then (if (std.sget a0 x_1) ≤ 57 then (if true = true then (impl_NameOk.l0 k a0 (IntKind.wrap .i64 (x_1 + 1))) else (some false)) else (if (std.sget a0 x_1) = 46 then (if true = true then (impl_NameOk.l0 k a0 (IntKind.wrap .i64 (x_1 + 1))) else (some false)) else (if (std.sget a0 x_1) = 95 then (if true = true then (impl_NameOk.l0 k a0 (IntKind.wrap .i64 (x_1 + 1))) else (some false)) else (if (std.sget a0 x_1) = 45 then (impl_NameOk.l0 k a0 (IntKind.wrap .i64 (x_1 + 1))) else (some false))))) else (if (std.sget a0 x_1) = 46 then (if true = true then (impl_NameOk.l0 k a0 (IntKind.wrap .i64 (x_1 + 1))) else (some false)) else (if (std.sget a0 x_1) = 95 then (if true = true then (impl_NameOk.l0 k a0 (IntKind.wrap .i64 (x_1 + 1))) else (some false)) else (if (std.sget a0 x_1) = 45 then (impl_NameOk.l0 k a0 (IntKind.wrap .i64 (x_1 + 1))) else (some false)))))) else (if 48 ≤ (std.sget a0 x_1) then (if (std.sget a0 x_1) ≤ 57 then (if true = true then (impl_NameOk.l0 k a0 (IntKind.wrap .i64 (x_1 + 1))) else (some false)) else (if (std.sget a0 x_1) = 46 then (if true = true then (impl_NameOk.l0 k a0 (IntKind.wrap .i64 (x_1 + 1))) else (some false)) else (if (std.sget a0 x_1) = 95 then (if true = true then (impl_NameOk.l0 k a0 (IntKind.wrap .i64 (x_1 + 1))) else (some false)) else (if (std.sget a0 x_1) = 45 then (impl_NameOk.l0 k a0 (IntKind.wrap .i64 (x_1 + 1))) else (some false))))) else (if (std.sget a0 x_1) = 46 then (if true = true then (impl_NameOk.l0 k a0 (IntKind.wrap .i64 (x_1 + 1))) else (some false)) else (if (std.sget a0 x_1) = 95 then (if true = true then (impl_NameOk.l0 k a0 (IntKind.wrap .i64 (x_1 + 1))) else (some false)) else (if (std.sget a0 x_1) = 45 then (impl_NameOk.l0 k a0 (IntKind.wrap .i64 (x_1 + 1))) else (some false))))))) else none) else none) else ((impl_within.f (a0.size : Int) 1 20).bind fun r2 => (if r2 = true then (if a0 = (⟨#[46]⟩ : ByteArray) then (some false) else (some (!(std.seq a0 (⟨#[46, 46]⟩ : ByteArray))))) else (some false))))
def impl_NameOk.f (k : Nat) (a0 : ByteArray) : Option Bool := (impl_NameOk.l0 k a0 0)
theorem impl_NameOk.le (O : Prim) (hO : O = std) (k : Nat) (a0 : ByteArray) : Le F O M fi122.kills impl_NameOk.e (impl_NameOk.f k a0) (den O M fi122.kills fi122.fn fi122.body (tab.gives 122) (M 122) [.one (.lit (.string a0))] : Tr tab) := by
  refine Le.eqS 0 (by conv => lhs; cbv) ?_
  unfold impl_NameOk.f
  refine Le.loopS (fun (n : Nat) (v : Int) => impl_NameOk.l0 n a0 v) (fun (x_1 : Int) => (⟨[], [.one (.lit (.string a0)), D_, D_, D_, D_, D_, .one (.lit (.int .i64 (O.ssize a0))), .one (.lit (.int .i64 x_1)), D_, D_, D_, D_, D_, D_, D_, D_, D_, D_, D_, D_, D_, D_, D_, D_, D_, D_, D_, D_, D_, D_, D_, D_, D_, D_, D_, D_, D_, D_, D_, D_, D_, D_, D_, D_, D_, D_, D_, D_, D_, D_, D_, D_, D_, D_, D_, D_, D_, D_, D_, D_], [[], [], [], [], [], [], [], [], [], [], [], [], [], [], [], [], [], [], [], [], [], [], [], [], [], [], [], [], [], [], [], [], [], [], [], [], [], [], [], [], [], [], [], [], [], [], [], [], [], [], [], [], [], [], [], [], [], [], [], [], []], []⟩ : S tab)) k 0 (by subst hO; rfl) rfl (fun _ => rfl) ?_
  intro n0 hn0 ih0 x_1
  refine Le.eqS 0 (by conv => lhs; cbv) ?_
  show Le F O M _ _ (impl_NameOk.l0 (n0 + 1) a0 x_1) _
  rw [impl_NameOk.l0]
  refine Le.condP 0 0 (by subst hO; rfl) (by conv => lhs; cbv) (by conv => lhs; cbv) ?_ ?_
  · refine Le.guardP 0 (by subst hO; rfl) (by conv => lhs; cbv) ?_
    refine Le.guardP 0 (by subst hO; rfl) (by conv => lhs; cbv) ?_
    refine Le.condP 2 5 (by subst hO; rfl) (by conv => lhs; cbv) (by conv => lhs; cbv) ?_ ?_
    · refine Le.condP 18 2 (by subst hO; rfl) (by conv => lhs; cbv) (by conv => lhs; cbv) ?_ ?_
      · refine Le.condN 0 0 (by subst hO; exact Bool.decide_eq_true.trans (Bool.not_not _).symm) (by conv => lhs; cbv) (by conv => lhs; cbv) ?_ ?_
        · exact Le.ret2 (by subst hO; rfl)
        · exact Le.again (ih0 n0 (by omega) (O.wrap .i64 (O.add x_1 1))) (by subst hO; rfl) rfl
      · refine Le.condP 4 7 (by subst hO; rfl) (by conv => lhs; cbv) (by conv => lhs; cbv) ?_ ?_
        · refine Le.condP 13 2 (by subst hO; rfl) (by conv => lhs; cbv) (by conv => lhs; cbv) ?_ ?_
          · refine Le.condN 0 0 (by subst hO; exact Bool.decide_eq_true.trans (Bool.not_not _).symm) (by conv => lhs; cbv) (by conv => lhs; cbv) ?_ ?_
            · exact Le.ret2 (by subst hO; rfl)
            · exact Le.again (ih0 n0 (by omega) (O.wrap .i64 (O.add x_1 1))) (by subst hO; rfl) rfl
          · refine Le.condP 4 7 (by subst hO; rfl) (by conv => lhs; cbv) (by conv => lhs; cbv) ?_ ?_
            · refine Le.condP 8 2 (by subst hO; rfl) (by conv => lhs; cbv) (by conv => lhs; cbv) ?_ ?_
              · refine Le.condN 0 0 (by subst hO; exact Bool.decide_eq_true.trans (Bool.not_not _).symm) (by conv => lhs; cbv) (by conv => lhs; cbv) ?_ ?_
                · exact Le.ret2 (by subst hO; rfl)
                · exact Le.again (ih0 n0 (by omega) (O.wrap .i64 (O.add x_1 1))) (by subst hO; rfl) rfl
              · refine Le.condP 5 2 (by subst hO; rfl) (by conv => lhs; cbv) (by conv => lhs; cbv) ?_ ?_
                · refine Le.condN 0 0 (by subst hO; exact Bool.decide_eq_true.trans (Bool.not_not _).symm) (by conv => lhs; cbv) (by conv => lhs; cbv) ?_ ?_
                  · exact Le.ret2 (by subst hO; rfl)
                  · exact Le.again (ih0 n0 (by omega) (O.wrap .i64 (O.add x_1 1))) (by subst hO; rfl) rfl
                · refine Le.condP 2 2 (by subst hO; rfl) (by conv => lhs; cbv) (by conv => lhs; cbv) ?_ ?_
                  · refine Le.condN 0 0 (by subst hO; exact Bool.decide_eq_true.trans (Bool.not_not _).symm) (by conv => lhs; cbv) (by conv => lhs; cbv) ?_ ?_
                    · exact Le.ret2 (by subst hO; rfl)
                    · exact Le.again (ih0 n0 (by omega) (O.wrap .i64 (O.add x_1 1))) (by subst hO; rfl) rfl
                  · refine Le.condN 0 0 (by subst hO; exact (Bool.not_not _).symm) (by conv => lhs; cbv) (by conv => lhs; cbv) ?_ ?_
                    · exact Le.ret2 (by subst hO; rfl)
                    · exact Le.again (ih0 n0 (by omega) (O.wrap .i64 (O.add x_1 1))) (by subst hO; rfl) rfl
            · refine Le.condP 5 2 (by subst hO; rfl) (by conv => lhs; cbv) (by conv => lhs; cbv) ?_ ?_
              · refine Le.condN 0 0 (by subst hO; exact Bool.decide_eq_true.trans (Bool.not_not _).symm) (by conv => lhs; cbv) (by conv => lhs; cbv) ?_ ?_
                · exact Le.ret2 (by subst hO; rfl)
                · exact Le.again (ih0 n0 (by omega) (O.wrap .i64 (O.add x_1 1))) (by subst hO; rfl) rfl
              · refine Le.condP 2 2 (by subst hO; rfl) (by conv => lhs; cbv) (by conv => lhs; cbv) ?_ ?_
                · refine Le.condN 0 0 (by subst hO; exact Bool.decide_eq_true.trans (Bool.not_not _).symm) (by conv => lhs; cbv) (by conv => lhs; cbv) ?_ ?_
                  · exact Le.ret2 (by subst hO; rfl)
                  · exact Le.again (ih0 n0 (by omega) (O.wrap .i64 (O.add x_1 1))) (by subst hO; rfl) rfl
                · refine Le.condN 0 0 (by subst hO; exact (Bool.not_not _).symm) (by conv => lhs; cbv) (by conv => lhs; cbv) ?_ ?_
                  · exact Le.ret2 (by subst hO; rfl)
                  · exact Le.again (ih0 n0 (by omega) (O.wrap .i64 (O.add x_1 1))) (by subst hO; rfl) rfl
        · refine Le.condP 4 7 (by subst hO; rfl) (by conv => lhs; cbv) (by conv => lhs; cbv) ?_ ?_
          · refine Le.condP 8 2 (by subst hO; rfl) (by conv => lhs; cbv) (by conv => lhs; cbv) ?_ ?_
            · refine Le.condN 0 0 (by subst hO; exact Bool.decide_eq_true.trans (Bool.not_not _).symm) (by conv => lhs; cbv) (by conv => lhs; cbv) ?_ ?_
              · exact Le.ret2 (by subst hO; rfl)
              · exact Le.again (ih0 n0 (by omega) (O.wrap .i64 (O.add x_1 1))) (by subst hO; rfl) rfl
            · refine Le.condP 5 2 (by subst hO; rfl) (by conv => lhs; cbv) (by conv => lhs; cbv) ?_ ?_
              · refine Le.condN 0 0 (by subst hO; exact Bool.decide_eq_true.trans (Bool.not_not _).symm) (by conv => lhs; cbv) (by conv => lhs; cbv) ?_ ?_
                · exact Le.ret2 (by subst hO; rfl)
                · exact Le.again (ih0 n0 (by omega) (O.wrap .i64 (O.add x_1 1))) (by subst hO; rfl) rfl
              · refine Le.condP 2 2 (by subst hO; rfl) (by conv => lhs; cbv) (by conv => lhs; cbv) ?_ ?_
                · refine Le.condN 0 0 (by subst hO; exact Bool.decide_eq_true.trans (Bool.not_not _).symm) (by conv => lhs; cbv) (by conv => lhs; cbv) ?_ ?_
                  · exact Le.ret2 (by subst hO; rfl)
                  · exact Le.again (ih0 n0 (by omega) (O.wrap .i64 (O.add x_1 1))) (by subst hO; rfl) rfl
                · refine Le.condN 0 0 (by subst hO; exact (Bool.not_not _).symm) (by conv => lhs; cbv) (by conv => lhs; cbv) ?_ ?_
                  · exact Le.ret2 (by subst hO; rfl)
                  · exact Le.again (ih0 n0 (by omega) (O.wrap .i64 (O.add x_1 1))) (by subst hO; rfl) rfl
          · refine Le.condP 5 2 (by subst hO; rfl) (by conv => lhs; cbv) (by conv => lhs; cbv) ?_ ?_
            · refine Le.condN 0 0 (by subst hO; exact Bool.decide_eq_true.trans (Bool.not_not _).symm) (by conv => lhs; cbv) (by conv => lhs; cbv) ?_ ?_
              · exact Le.ret2 (by subst hO; rfl)
              · exact Le.again (ih0 n0 (by omega) (O.wrap .i64 (O.add x_1 1))) (by subst hO; rfl) rfl
            · refine Le.condP 2 2 (by subst hO; rfl) (by conv => lhs; cbv) (by conv => lhs; cbv) ?_ ?_
              · refine Le.condN 0 0 (by subst hO; exact Bool.decide_eq_true.trans (Bool.not_not _).symm) (by conv => lhs; cbv) (by conv => lhs; cbv) ?_ ?_
                · exact Le.ret2 (by subst hO; rfl)
                · exact Le.again (ih0 n0 (by omega) (O.wrap .i64 (O.add x_1 1))) (by subst hO; rfl) rfl
              · refine Le.condN 0 0 (by subst hO; exact (Bool.not_not _).symm) (by conv => lhs; cbv) (by conv => lhs; cbv) ?_ ?_
                · exact Le.ret2 (by subst hO; rfl)
                · exact Le.again (ih0 n0 (by omega) (O.wrap .i64 (O.add x_1 1))) (by subst hO; rfl) rfl
    · refine Le.condP 4 7 (by subst hO; rfl) (by conv => lhs; cbv) (by conv => lhs; cbv) ?_ ?_
      · refine Le.condP 13 2 (by subst hO; rfl) (by conv => lhs; cbv) (by conv => lhs; cbv) ?_ ?_
        · refine Le.condN 0 0 (by subst hO; exact Bool.decide_eq_true.trans (Bool.not_not _).symm) (by conv => lhs; cbv) (by conv => lhs; cbv) ?_ ?_
          · exact Le.ret2 (by subst hO; rfl)
          · exact Le.again (ih0 n0 (by omega) (O.wrap .i64 (O.add x_1 1))) (by subst hO; rfl) rfl
        · refine Le.condP 4 7 (by subst hO; rfl) (by conv => lhs; cbv) (by conv => lhs; cbv) ?_ ?_
          · refine Le.condP 8 2 (by subst hO; rfl) (by conv => lhs; cbv) (by conv => lhs; cbv) ?_ ?_
            · refine Le.condN 0 0 (by subst hO; exact Bool.decide_eq_true.trans (Bool.not_not _).symm) (by conv => lhs; cbv) (by conv => lhs; cbv) ?_ ?_
              · exact Le.ret2 (by subst hO; rfl)
              · exact Le.again (ih0 n0 (by omega) (O.wrap .i64 (O.add x_1 1))) (by subst hO; rfl) rfl
            · refine Le.condP 5 2 (by subst hO; rfl) (by conv => lhs; cbv) (by conv => lhs; cbv) ?_ ?_
              · refine Le.condN 0 0 (by subst hO; exact Bool.decide_eq_true.trans (Bool.not_not _).symm) (by conv => lhs; cbv) (by conv => lhs; cbv) ?_ ?_
                · exact Le.ret2 (by subst hO; rfl)
                · exact Le.again (ih0 n0 (by omega) (O.wrap .i64 (O.add x_1 1))) (by subst hO; rfl) rfl
              · refine Le.condP 2 2 (by subst hO; rfl) (by conv => lhs; cbv) (by conv => lhs; cbv) ?_ ?_
                · refine Le.condN 0 0 (by subst hO; exact Bool.decide_eq_true.trans (Bool.not_not _).symm) (by conv => lhs; cbv) (by conv => lhs; cbv) ?_ ?_
                  · exact Le.ret2 (by subst hO; rfl)
                  · exact Le.again (ih0 n0 (by omega) (O.wrap .i64 (O.add x_1 1))) (by subst hO; rfl) rfl
                · refine Le.condN 0 0 (by subst hO; exact (Bool.not_not _).symm) (by conv => lhs; cbv) (by conv => lhs; cbv) ?_ ?_
                  · exact Le.ret2 (by subst hO; rfl)
                  · exact Le.again (ih0 n0 (by omega) (O.wrap .i64 (O.add x_1 1))) (by subst hO; rfl) rfl
          · refine Le.condP 5 2 (by subst hO; rfl) (by conv => lhs; cbv) (by conv => lhs; cbv) ?_ ?_
            · refine Le.condN 0 0 (by subst hO; exact Bool.decide_eq_true.trans (Bool.not_not _).symm) (by conv => lhs; cbv) (by conv => lhs; cbv) ?_ ?_
              · exact Le.ret2 (by subst hO; rfl)
              · exact Le.again (ih0 n0 (by omega) (O.wrap .i64 (O.add x_1 1))) (by subst hO; rfl) rfl
            · refine Le.condP 2 2 (by subst hO; rfl) (by conv => lhs; cbv) (by conv => lhs; cbv) ?_ ?_
              · refine Le.condN 0 0 (by subst hO; exact Bool.decide_eq_true.trans (Bool.not_not _).symm) (by conv => lhs; cbv) (by conv => lhs; cbv) ?_ ?_
                · exact Le.ret2 (by subst hO; rfl)
                · exact Le.again (ih0 n0 (by omega) (O.wrap .i64 (O.add x_1 1))) (by subst hO; rfl) rfl
              · refine Le.condN 0 0 (by subst hO; exact (Bool.not_not _).symm) (by conv => lhs; cbv) (by conv => lhs; cbv) ?_ ?_
                · exact Le.ret2 (by subst hO; rfl)
                · exact Le.again (ih0 n0 (by omega) (O.wrap .i64 (O.add x_1 1))) (by subst hO; rfl) rfl
      · refine Le.condP 4 7 (by subst hO; rfl) (by conv => lhs; cbv) (by conv => lhs; cbv) ?_ ?_
        · refine Le.condP 8 2 (by subst hO; rfl) (by conv => lhs; cbv) (by conv => lhs; cbv) ?_ ?_
          · refine Le.condN 0 0 (by subst hO; exact Bool.decide_eq_true.trans (Bool.not_not _).symm) (by conv => lhs; cbv) (by conv => lhs; cbv) ?_ ?_
            · exact Le.ret2 (by subst hO; rfl)
            · exact Le.again (ih0 n0 (by omega) (O.wrap .i64 (O.add x_1 1))) (by subst hO; rfl) rfl
          · refine Le.condP 5 2 (by subst hO; rfl) (by conv => lhs; cbv) (by conv => lhs; cbv) ?_ ?_
            · refine Le.condN 0 0 (by subst hO; exact Bool.decide_eq_true.trans (Bool.not_not _).symm) (by conv => lhs; cbv) (by conv => lhs; cbv) ?_ ?_
              · exact Le.ret2 (by subst hO; rfl)
              · exact Le.again (ih0 n0 (by omega) (O.wrap .i64 (O.add x_1 1))) (by subst hO; rfl) rfl
            · refine Le.condP 2 2 (by subst hO; rfl) (by conv => lhs; cbv) (by conv => lhs; cbv) ?_ ?_
              · refine Le.condN 0 0 (by subst hO; exact Bool.decide_eq_true.trans (Bool.not_not _).symm) (by conv => lhs; cbv) (by conv => lhs; cbv) ?_ ?_
                · exact Le.ret2 (by subst hO; rfl)
                · exact Le.again (ih0 n0 (by omega) (O.wrap .i64 (O.add x_1 1))) (by subst hO; rfl) rfl
              · refine Le.condN 0 0 (by subst hO; exact (Bool.not_not _).symm) (by conv => lhs; cbv) (by conv => lhs; cbv) ?_ ?_
                · exact Le.ret2 (by subst hO; rfl)
                · exact Le.again (ih0 n0 (by omega) (O.wrap .i64 (O.add x_1 1))) (by subst hO; rfl) rfl
        · refine Le.condP 5 2 (by subst hO; rfl) (by conv => lhs; cbv) (by conv => lhs; cbv) ?_ ?_
          · refine Le.condN 0 0 (by subst hO; exact Bool.decide_eq_true.trans (Bool.not_not _).symm) (by conv => lhs; cbv) (by conv => lhs; cbv) ?_ ?_
            · exact Le.ret2 (by subst hO; rfl)
            · exact Le.again (ih0 n0 (by omega) (O.wrap .i64 (O.add x_1 1))) (by subst hO; rfl) rfl
          · refine Le.condP 2 2 (by subst hO; rfl) (by conv => lhs; cbv) (by conv => lhs; cbv) ?_ ?_
            · refine Le.condN 0 0 (by subst hO; exact Bool.decide_eq_true.trans (Bool.not_not _).symm) (by conv => lhs; cbv) (by conv => lhs; cbv) ?_ ?_
              · exact Le.ret2 (by subst hO; rfl)
              · exact Le.again (ih0 n0 (by omega) (O.wrap .i64 (O.add x_1 1))) (by subst hO; rfl) rfl
            · refine Le.condN 0 0 (by subst hO; exact (Bool.not_not _).symm) (by conv => lhs; cbv) (by conv => lhs; cbv) ?_ ?_
              · exact Le.ret2 (by subst hO; rfl)
              · exact Le.again (ih0 n0 (by omega) (O.wrap .i64 (O.add x_1 1))) (by subst hO; rfl) rfl
  · refine Le.callC 0 (fi := fi70) rfl (impl_within.le O hO (O.ssize a0) 1 20) (by subst hO; rfl) (by intro r2; conv => lhs; cbv) ?_
    intro r2
    refine Le.condP 2 5 (by subst hO; exact Bool.decide_eq_true) (by conv => lhs; cbv) (by conv => lhs; cbv) ?_ ?_
    · refine Le.condN 2 2 (by subst hO; exact (seq_dec _ _).trans (Bool.not_not _).symm) (by conv => lhs; cbv) (by conv => lhs; cbv) ?_ ?_
      · exact Le.ret2 (by subst hO; rfl)
      · exact Le.ret2 (by subst hO; rfl)
    · exact Le.ret2 (by subst hO; rfl)
/-! ### loop.example/g00100/impl.Names -/
def impl_Names.e (r : List ByteArray) : Res tab := (([], []), .one (.imm 9 r))
def impl_Names.l0 : Nat → (List ByteArray) → Int → Option (List ByteArray)
  | 0, _, _ => none
  | k + 1, r0, x_4 => (if x_4 < (r0.length : Int) then (if 0 ≤ x_4 then (if x_4 < (r0.length : Int) then ((impl_NameOk.f k (r0.getD (Int.toNat x_4) (⟨#[]⟩ : ByteArray))).bind fun r5 => (if r5 = true then (impl_Names.l0 k r0 (IntKind.wrap .i64 (x_4 + 1))) else (some ([] : List ByteArray)))) else none) else none) else (some r0))
def impl_Names.f (k : Nat) (a0 : ByteArray) : Option (List ByteArray) := (if 168 < (a0.size : Int) then (some ([] : List ByteArray)) else ((strings_Split.f a0 (⟨#[47]⟩ : ByteArray)).bind fun r0 => (if 8 < (r0.length : Int) then (some ([] : List ByteArray)) else (impl_Names.l0 k r0 0))))
theorem impl_Names.le (O : Prim) (hO : O = std) (k : Nat) (a0 : ByteArray) : Le F O M fi103.kills impl_Names.e (impl_Names.f k a0) (den O M fi103.kills fi103.fn fi103.body (tab.gives 103) (M 103) [.one (.lit (.string a0))] : Tr tab) := by
  refine Le.eqS 0 (by conv => lhs; cbv) ?_
  unfold impl_Names.f
  refine Le.condP 0 0 (by subst hO; rfl) (by conv => lhs; cbv) (by conv => lhs; cbv) ?_ ?_
  · exact Le.ret2 (by subst hO; rfl)
  · refine Le.extC 0 (fi := fi62) rfl (fun b hb => ⟨a0, (⟨#[47]⟩ : ByteArray), b, rfl, hb, rfl⟩) (by subst hO; rfl) (by intro r0; conv => lhs; cbv) ?_
    intro r0
    refine Le.condP 0 0 (by subst hO; rfl) (by conv => lhs; cbv) (by conv => lhs; cbv) ?_ ?_
    · exact Le.ret2 (by subst hO; rfl)
    · refine Le.loopS (fun (n : Nat) (v : Int) => impl_Names.l0 n r0 v) (fun (x_4 : Int) => (⟨[], [D_, D_, D_, .one (.imm 9 r0), D_, D_, D_, D_, D_, D_, D_, D_, D_, D_, .one (.imm 9 r0), .one (.lit (.int .i64 (O.len r0))), .one (.lit (.int .i64 x_4)), D_, D_, D_, D_, D_, D_, D_, D_], [[], [], [], [], [], [], [], [], [], [], [], [], [], [], [], [], [], [], [], [], [], [], [], [], [], []], []⟩ : S tab)) k 0 (by subst hO; rfl) rfl (fun _ => rfl) ?_
      intro n0 hn0 ih0 x_4
      refine Le.eqS 0 (by conv => lhs; cbv) ?_
      show Le F O M _ _ (impl_Names.l0 (n0 + 1) r0 x_4) _
      rw [impl_Names.l0]
      refine Le.condP 0 0 (by subst hO; rfl) (by conv => lhs; cbv) (by conv => lhs; cbv) ?_ ?_
      · refine Le.guardP 0 (by subst hO; rfl) (by conv => lhs; cbv) ?_
        refine Le.guardP 0 (by subst hO; rfl) (by conv => lhs; cbv) ?_
        refine Le.callC 0 (fi := fi122) rfl (impl_NameOk.le O hO n0 (O.get (⟨#[]⟩ : ByteArray) r0 x_4)) (by subst hO; rfl) (by intro r5; conv => lhs; cbv) ?_
        intro r5
        refine Le.condN 0 0 (by subst hO; exact Bool.decide_eq_true.trans (Bool.not_not _).symm) (by conv => lhs; cbv) (by conv => lhs; cbv) ?_ ?_
        · exact Le.ret2 (by subst hO; rfl)
        · exact Le.again (ih0 n0 (by omega) (O.wrap .i64 (O.add x_4 1))) (by subst hO; rfl) rfl
      · exact Le.ret2 (by subst hO; rfl)
/-! ### loop.example/g00100/impl.PathOk -/
def impl_PathOk.e (r : Bool) : Res tab := (([], []), .one (.lit (.bool r)))
def impl_PathOk.f (k : Nat) (a0 : ByteArray) : Option Bool := ((impl_Names.f k a0).bind fun r0 => (some (decide (0 < (r0.length : Int)))))
theorem impl_PathOk.le (O : Prim) (hO : O = std) (k : Nat) (a0 : ByteArray) : Le F O M fi69.kills impl_PathOk.e (impl_PathOk.f k a0) (den O M fi69.kills fi69.fn fi69.body (tab.gives 69) (M 69) [.one (.lit (.string a0))] : Tr tab) := by
  refine Le.eqS 0 (by conv => lhs; cbv) ?_
  unfold impl_PathOk.f
  refine Le.callC 0 (fi := fi103) rfl (impl_Names.le O hO k a0) (by subst hO; rfl) (by intro r0; conv => lhs; cbv) ?_
  intro r0
  exact Le.ret2 (by subst hO; rfl)
/-! ### loop.example/g00100/impl.NodeOk -/
def impl_NodeOk.e (r : Bool) : Res tab := (([], []), .one (.lit (.bool r)))
def impl_NodeOk.f (k : Nat) (a0 : GNode) : Option Bool := ((impl_PathOk.f k a0.Path).bind fun r0 => (if r0 = true then ((impl_within.f a0.Mode 0 511).bind fun r1 => (if r1 = true then ((impl_within.f a0.Time 0 1000000000).bind fun r2 => (if r2 = true then (if a0.Kind = 0 then (if a0.Data = (⟨#[]⟩ : ByteArray) then (if a0.Target = (⟨#[]⟩ : ByteArray) then (some (decide (a0.Group = 0))) else (some false)) else (some false)) else (if a0.Kind = 1 then (if (a0.Data.size : Int) ≤ 20000 then (if a0.Target = (⟨#[]⟩ : ByteArray) then ((impl_within.f a0.Group 0 200).bind fun r3 => (some r3)) else (some false)) else (some false)) else (if a0.Kind = 2 then (if a0.Data = (⟨#[]⟩ : ByteArray) then (if a0.Mode = 0 then (if a0.Group = 0 then ((impl_within.f (a0.Target.size : Int) 1 60).bind fun r4 => (if r4 = true then ((strings_Contains.f a0.Target (⟨#[10]⟩ : ByteArray)).bind fun r5 => (some (!r5))) else (some false))) else (some false)) else (some false)) else (some false)) else (some false)))) else (some false))) else (some false))) else (some false)))
theorem impl_NodeOk.le (O : Prim) (hO : O = std) (k : Nat) (a0 : GNode) : Le F O M fi37.kills impl_NodeOk.e (impl_NodeOk.f k a0) (den O M fi37.kills fi37.fn fi37.body (tab.gives 37) (M 37) [.agg [.lit (.string a0.Path), .lit (.int .i64 a0.Kind), .lit (.int .i64 a0.Mode), .lit (.int .i64 a0.Time), .lit (.string a0.Data), .lit (.string a0.Target), .lit (.int .i64 a0.Group)]] : Tr tab) := by
  refine Le.eqS 0 (by conv => lhs; cbv) ?_
  unfold impl_NodeOk.f
  refine Le.callC 0 (fi := fi69) rfl (impl_PathOk.le O hO k a0.Path) (by subst hO; rfl) (by intro r0; conv => lhs; cbv) ?_
  intro r0
  refine Le.condN 10 2 (by subst hO; exact Bool.decide_eq_true.trans (Bool.not_not _).symm) (by conv => lhs; cbv) (by conv => lhs; cbv) ?_ ?_
  · exact Le.ret2 (by subst hO; rfl)
  · refine Le.callC 2 (fi := fi70) rfl (impl_within.le O hO a0.Mode 0 511) (by subst hO; rfl) (by intro r1; conv => lhs; cbv) ?_
    intro r1
    refine Le.condN 5 2 (by subst hO; exact Bool.decide_eq_true.trans (Bool.not_not _).symm) (by conv => lhs; cbv) (by conv => lhs; cbv) ?_ ?_
    · exact Le.ret2 (by subst hO; rfl)
    · refine Le.callC 2 (fi := fi70) rfl (impl_within.le O hO a0.Time 0 1000000000) (by subst hO; rfl) (by intro r2; conv => lhs; cbv) ?_
      intro r2
      refine Le.condN 0 0 (by subst hO; exact Bool.decide_eq_true.trans (Bool.not_not _).symm) (by conv => lhs; cbv) (by conv => lhs; cbv) ?_ ?_
      · exact Le.ret2 (by subst hO; rfl)
      · refine Le.condP 0 0 (by subst hO; rfl) (by conv => lhs; cbv) (by conv => lhs; cbv) ?_ ?_
        · refine Le.condP 3 7 (by subst hO; exact seq_dec _ _) (by conv => lhs; cbv) (by conv => lhs; cbv) ?_ ?_
          · refine Le.condP 3 3 (by subst hO; exact seq_dec _ _) (by conv => lhs; cbv) (by conv => lhs; cbv) ?_ ?_
            · exact Le.ret2 (by subst hO; rfl)
            · exact Le.ret2 (by subst hO; rfl)
          · exact Le.ret2 (by subst hO; rfl)
        · refine Le.condP 0 0 (by subst hO; rfl) (by conv => lhs; cbv) (by conv => lhs; cbv) ?_ ?_
          · refine Le.condP 3 7 (by subst hO; rfl) (by conv => lhs; cbv) (by conv => lhs; cbv) ?_ ?_
            · refine Le.condP 2 3 (by subst hO; exact seq_dec _ _) (by conv => lhs; cbv) (by conv => lhs; cbv) ?_ ?_
              · refine Le.callC 1 (fi := fi70) rfl (impl_within.le O hO a0.Group 0 200) (by subst hO; rfl) (by intro r3; conv => lhs; cbv) ?_
                intro r3
                exact Le.ret2 (by subst hO; rfl)
              · exact Le.ret2 (by subst hO; rfl)
            · exact Le.ret2 (by subst hO; rfl)
          · refine Le.condP 0 0 (by subst hO; rfl) (by conv => lhs; cbv) (by conv => lhs; cbv) ?_ ?_
            · refine Le.condP 3 17 (by subst hO; exact seq_dec _ _) (by conv => lhs; cbv) (by conv => lhs; cbv) ?_ ?_
              · refine Le.condP 3 13 (by subst hO; rfl) (by conv => lhs; cbv) (by conv => lhs; cbv) ?_ ?_
                · refine Le.condP 3 9 (by subst hO; rfl) (by conv => lhs; cbv) (by conv => lhs; cbv) ?_ ?_
                  · refine Le.callC 1 (fi := fi70) rfl (impl_within.le O hO (O.ssize a0.Target) 1 60) (by subst hO; rfl) (by intro r4; conv => lhs; cbv) ?_
                    intro r4
                    refine Le.condP 2 4 (by subst hO; exact Bool.decide_eq_true) (by conv => lhs; cbv) (by conv => lhs; cbv) ?_ ?_
                    · refine Le.extC 2 (fi := fi71) rfl (fun b hb => ⟨a0.Target, (⟨#[10]⟩ : ByteArray), b, rfl, hb, rfl⟩) (by subst hO; rfl) (by intro r5; conv => lhs; cbv) ?_
                      intro r5
                      exact Le.ret2 (by subst hO; rfl)
                    · exact Le.ret2 (by subst hO; rfl)
                  · exact Le.ret2 (by subst hO; rfl)
                · exact Le.ret2 (by subst hO; rfl)
              · exact Le.ret2 (by subst hO; rfl)
            · exact Le.ret2 (by subst hO; rfl)
/-! ### loop.example/g00100/impl.isEntry -/
def impl_isEntry.e (r : Bool) : Res tab := (([], []), .one (.lit (.bool r)))
def impl_isEntry.f (k : Nat) (a0 : GEntry) : Option Bool := ((impl_NodeOk.f k (⟨a0.Path, a0.Kind, a0.Mode, a0.Time, (⟨#[]⟩ : ByteArray), a0.Target, a0.Group⟩ : GNode)).bind fun r0 => (if r0 = true then ((impl_within.f a0.Size 0 20000).bind fun r1 => (if r1 = true then (if a0.Kind = 1 then (some true) else (some (decide (a0.Size = 0)))) else (some false))) else (some false)))
theorem impl_isEntry.le (O : Prim) (hO : O = std) (k : Nat) (a0 : GEntry) : Le F O M fi49.kills impl_isEntry.e (impl_isEntry.f k a0) (den O M fi49.kills fi49.fn fi49.body (tab.gives 49) (M 49) [.agg [.lit (.string a0.Path), .lit (.int .i64 a0.Kind), .lit (.int .i64 a0.Mode), .lit (.int .i64 a0.Time), .lit (.int .i64 a0.Size), .lit (.string a0.Target), .lit (.int .i64 a0.Group)]] : Tr tab) := by
  refine Le.eqS 0 (by conv => lhs; cbv) ?_
  unfold impl_isEntry.f
  refine Le.callC 0 (fi := fi37) rfl (impl_NodeOk.le O hO k (⟨a0.Path, a0.Kind, a0.Mode, a0.Time, (⟨#[]⟩ : ByteArray), a0.Target, a0.Group⟩ : GNode)) (by subst hO; rfl) (by intro r0; conv => lhs; cbv) ?_
  intro r0
  refine Le.condP 2 9 (by subst hO; exact Bool.decide_eq_true) (by conv => lhs; cbv) (by conv => lhs; cbv) ?_ ?_
  · refine Le.callC 1 (fi := fi70) rfl (impl_within.le O hO a0.Size 0 20000) (by subst hO; rfl) (by intro r1; conv => lhs; cbv) ?_
    intro r1
    refine Le.condP 3 5 (by subst hO; exact Bool.decide_eq_true) (by conv => lhs; cbv) (by conv => lhs; cbv) ?_ ?_
    · refine Le.condP 5 5 (by subst hO; rfl) (by conv => lhs; cbv) (by conv => lhs; cbv) ?_ ?_
      · exact Le.ret2 (by subst hO; rfl)
      · exact Le.ret2 (by subst hO; rfl)
    · exact Le.ret2 (by subst hO; rfl)
  · exact Le.ret2 (by subst hO; rfl)
/-! ### loop.example/g00100/impl.EntriesOk -/
def impl_EntriesOk.e (r : Bool) : Res tab := (([], []), .one (.lit (.bool r)))
def impl_EntriesOk.l0 : Nat → (List GEntry) → Int → Option Bool
  | 0, _, _ => none
  | k + 1, a0, x_3 => (if x_3 < (a0.length : Int) then (if 0 ≤ x_3 then (if x_3 < (a0.length : Int) then ((impl_isEntry.f k (a0.getD (Int.toNat x_3) (⟨(⟨#[]⟩ : ByteArray), 0, 0, 0, 0, (⟨#[]⟩ : ByteArray), 0⟩ : GEntry))).bind fun r4 => (if r4 = true then (if 0 < x_3 then (if 0 ≤ (IntKind.wrap .i64 (x_3 - 1)) then (if (IntKind.wrap .i64 (x_3 - 1)) < (a0.length : Int) then (if (std.slt (a0.getD (Int.toNat (IntKind.wrap .i64 (x_3 - 1))) (⟨(⟨#[]⟩ : ByteArray), 0, 0, 0, 0, (⟨#[]⟩ : ByteArray), 0⟩ : GEntry)).Path (a0.getD (Int.toNat x_3) (⟨(⟨#[]⟩ : ByteArray), 0, 0, 0, 0, (⟨#[]⟩ : ByteArray), 0⟩ : GEntry)).Path) = true then (impl_EntriesOk.l0 k a0 (IntKind.wrap .i64 (x_3 + 1))) else (some false)) else none) else none) else (impl_EntriesOk.l0 k a0 (IntKind.wrap .i64 (x_3 + 1)))) else (some false))) else none) else none) else (some true))
def impl_EntriesOk.f (k : Nat) (a0 : List GEntry) : Option Bool := (if 200 < (a0.length : Int) then (some false) else (impl_EntriesOk.l0 k a0 0))
theorem impl_EntriesOk.le (O : Prim) (hO : O = std) (k : Nat) (a0 : List GEntry) : Le F O M fi24.kills impl_EntriesOk.e (impl_EntriesOk.f k a0) (den O M fi24.kills fi24.fn fi24.body (tab.gives 24) (M 24) [.one (.imm 42 a0)] : Tr tab) := by
  refine Le.eqS 0 (by conv => lhs; cbv) ?_
  unfold impl_EntriesOk.f
  refine Le.condP 0 0 (by subst hO; rfl) (by conv => lhs; cbv) (by conv => lhs; cbv) ?_ ?_
  · exact Le.ret2 (by subst hO; rfl)
  · refine Le.loopS (fun (n : Nat) (v : Int) => impl_EntriesOk.l0 n a0 v) (fun (x_3 : Int) => (⟨[], [.one (.imm 42 a0), D_, D_, D_, D_, D_, D_, D_, .one (.imm 42 a0), .one (.lit (.int .i64 (O.len a0))), .one (.lit (.int .i64 x_3)), D_, D_, D_, D_, D_, D_, D_, D_, D_, D_, D_, D_, D_, D_, D_, D_, D_, D_, D_, D_, D_, D_, D_], [[], [], [], [], [], [], [], [], [], [], [], [], [], [], [], [], [], [], [], [], [], [], [], [], [], [], [], [], [], [], [], [], [], [], []], []⟩ : S tab)) k 0 (by subst hO; rfl) rfl (fun _ => rfl) ?_
    intro n0 hn0 ih0 x_3
    refine Le.eqS 0 (by conv => lhs; cbv) ?_
    show Le F O M _ _ (impl_EntriesOk.l0 (n0 + 1) a0 x_3) _
    rw [impl_EntriesOk.l0]
    refine Le.condP 0 0 (by subst hO; rfl) (by conv => lhs; cbv) (by conv => lhs; cbv) ?_ ?_
    · refine Le.guardP 0 (by subst hO; rfl) (by conv => lhs; cbv) ?_
      refine Le.guardP 0 (by subst hO; rfl) (by conv => lhs; cbv) ?_
      refine Le.callC 0 (fi := fi49) rfl (impl_isEntry.le O hO n0 (O.get (⟨(⟨#[]⟩ : ByteArray), 0, 0, 0, 0, (⟨#[]⟩ : ByteArray), 0⟩ : GEntry) a0 x_3)) (by subst hO; rfl) (by intro r4; conv => lhs; cbv) ?_
      intro r4
      refine Le.condN 5 2 (by subst hO; exact Bool.decide_eq_true.trans (Bool.not_not _).symm) (by conv => lhs; cbv) (by conv => lhs; cbv) ?_ ?_
      · exact Le.ret2 (by subst hO; rfl)
      · refine Le.condP 3 12 (by subst hO; rfl) (by conv => lhs; cbv) (by conv => lhs; cbv) ?_ ?_
        · refine Le.guardP 0 (by subst hO; rfl) (by conv => lhs; cbv) ?_
          refine Le.guardP 8 (by subst hO; rfl) (by conv => lhs; cbv) ?_
          refine Le.condN 0 0 (by subst hO; exact Bool.decide_eq_true.trans (Bool.not_not _).symm) (by conv => lhs; cbv) (by conv => lhs; cbv) ?_ ?_
          · exact Le.ret2 (by subst hO; rfl)
          · exact Le.again (ih0 n0 (by omega) (O.wrap .i64 (O.add x_3 1))) (by subst hO; rfl) rfl
        · exact Le.again (ih0 n0 (by omega) (O.wrap .i64 (O.add x_3 1))) (by subst hO; rfl) rfl
    · exact Le.ret2 (by subst hO; rfl)
/-! ### loop.example/g00100/impl.varText -/
def impl_varText.e (r : ByteArray) : Res tab := (([], []), .one (.lit (.string r)))
def impl_varText.l0 : Nat → Int → ByteArray → Option ByteArray
  | 0, _, _ => none
  | k + 1, x_2, x_3 => (if 127 < x_2 then (if 0 ≤ (std.bits .or .u8 (IntKind.wrap .u8 (std.bits .and .i64 x_2 127)) 128) then (if (std.bits .or .u8 (IntKind.wrap .u8 (std.bits .and .i64 x_2 127)) 128) ≤ 255 then (if (x_3.size : Int) < 140737488355328 then (if 0 ≤ 7 then (impl_varText.l0 k (std.shr .i64 x_2 7) (x_3 ++ (std.strOf [(std.bits .or .u8 (IntKind.wrap .u8 (std.bits .and .i64 x_2 127)) 128)]))) else none) else none) else none) else none) else (if 0 ≤ (IntKind.wrap .u8 x_2) then (if (IntKind.wrap .u8 x_2) ≤ 255 then (if (x_3.size : Int) < 140737488355328 then (some (x_3 ++ (std.strOf [(IntKind.wrap .u8 x_2)]))) else none) else none) else none))
def impl_varText.f (k : Nat) (a0 : Int) : Option ByteArray := (impl_varText.l0 k a0 (⟨#[]⟩ : ByteArray))
theorem impl_varText.le (O : Prim) (hO : O = std) (k : Nat) (a0 : Int) : Le F O M fi80.kills impl_varText.e (impl_varText.f k a0) (den O M fi80.kills fi80.fn fi80.body (tab.gives 80) (M 80) [.one (.lit (.int .i64 a0))] : Tr tab) := by
  refine Le.eqS 0 (by conv => lhs; cbv) ?_
  unfold impl_varText.f
  refine Le.loopS (fun (n : Nat) (v : Int × ByteArray) => impl_varText.l0 n v.1 v.2) (fun (v : Int × ByteArray) => match v with | (x_2, x_3) => (⟨[], [.one (.lit (.int .i64 x_2)), D_, D_, .one (.bld x_3), D_, D_, D_, D_, D_, D_, D_, D_, D_, D_, D_, D_, D_], [[], [], [], [], [], [], [], [], [], [], [], [], [], [], [], [], [], []], []⟩ : S tab)) k (a0, (⟨#[]⟩ : ByteArray)) (by subst hO; rfl) rfl (fun _ => rfl) ?_
  intro n0 hn0 ih0 v0
  obtain ⟨x_2, x_3⟩ := v0
  refine Le.eqS 0 (by conv => lhs; cbv) ?_
  show Le F O M _ _ (impl_varText.l0 (n0 + 1) x_2 x_3) _
  rw [impl_varText.l0]
  refine Le.condP 0 0 (by subst hO; rfl) (by conv => lhs; cbv) (by conv => lhs; cbv) ?_ ?_
  · refine Le.guardP 0 (by subst hO; rfl) (by conv => lhs; cbv) ?_
    refine Le.guardP 0 (by subst hO; rfl) (by conv => lhs; cbv) ?_
    refine Le.guardP 0 (by subst hO; rfl) (by conv => lhs; cbv) ?_
    refine Le.guardP 0 (by subst hO; rfl) (by conv => lhs; cbv) ?_
    exact Le.again (ih0 n0 (by omega) ((O.shr .i64 x_2 7), (O.scat x_3 (O.strOf [(O.bits .or .u8 (O.wrap .u8 (O.bits .and .i64 x_2 127)) 128)])))) (by subst hO; rfl) rfl
  · refine Le.guardP 0 (by subst hO; rfl) (by conv => lhs; cbv) ?_
    refine Le.guardP 0 (by subst hO; rfl) (by conv => lhs; cbv) ?_
    refine Le.guardP 0 (by subst hO; rfl) (by conv => lhs; cbv) ?_
    exact Le.ret2 (by subst hO; rfl)
/-! ### loop.example/g00100/impl.common -/
def impl_common.e (r : Int) : Res tab := (([], []), .one (.lit (.int .i64 r)))
def impl_common.l0 : Nat → ByteArray → ByteArray → Int → Option Int
  | 0, _, _, _ => none
  | k + 1, a0, a1, x_1 => (if x_1 < (a0.size : Int) then (if x_1 < (a1.size : Int) then (if 0 ≤ x_1 then (if x_1 < (a0.size : Int) then (if 0 ≤ x_1 then (if x_1 < (a1.size : Int) then (if (std.sget a0 x_1) = (std.sget a1 x_1) then (impl_common.l0 k a0 a1 (IntKind.wrap .i64 (x_1 + 1))) else (some x_1)) else none) else none) else none) else none) else (some x_1)) else (some x_1))
def impl_common.f (k : Nat) (a0 : ByteArray) (a1 : ByteArray) : Option Int := (impl_common.l0 k a0 a1 0)
theorem impl_common.le (O : Prim) (hO : O = std) (k : Nat) (a0 : ByteArray) (a1 : ByteArray) : Le F O M fi81.kills impl_common.e (impl_common.f k a0 a1) (den O M fi81.kills fi81.fn fi81.body (tab.gives 81) (M 81) [.one (.lit (.string a0)), .one (.lit (.string a1))] : Tr tab) := by
  refine Le.eqS 0 (by conv => lhs; cbv) ?_
  unfold impl_common.f
  refine Le.loopS (fun (n : Nat) (v : Int) => impl_common.l0 n a0 a1 v) (fun (x_1 : Int) => (⟨[], [.one (.lit (.string a0)), .one (.lit (.string a1)), D_, D_, D_, .one (.lit (.int .i64 x_1)), D_, D_, D_, D_, D_, D_, D_, D_, D_, D_, D_, D_, D_, D_, D_, D_, D_, D_, D_, D_, D_, D_], [[], [], [], [], [], [], [], [], [], [], [], [], [], [], [], [], [], [], [], [], [], [], [], [], [], [], [], [], [], []], []⟩ : S tab)) k 0 (by subst hO; rfl) rfl (fun _ => rfl) ?_
  intro n0 hn0 ih0 x_1
  refine Le.eqS 0 (by conv => lhs; cbv) ?_
  show Le F O M _ _ (impl_common.l0 (n0 + 1) a0 a1 x_1) _
  rw [impl_common.l0]
  refine Le.condP 4 13 (by subst hO; rfl) (by conv => lhs; cbv) (by conv => lhs; cbv) ?_ ?_
  · refine Le.condP 2 8 (by subst hO; rfl) (by conv => lhs; cbv) (by conv => lhs; cbv) ?_ ?_
    · refine Le.guardP 0 (by subst hO; rfl) (by conv => lhs; cbv) ?_
      refine Le.guardP 3 (by subst hO; rfl) (by conv => lhs; cbv) ?_
      refine Le.guardP 0 (by subst hO; rfl) (by conv => lhs; cbv) ?_
      refine Le.guardP 2 (by subst hO; rfl) (by conv => lhs; cbv) ?_
      refine Le.condP 0 0 (by subst hO; rfl) (by conv => lhs; cbv) (by conv => lhs; cbv) ?_ ?_
      · exact Le.again (ih0 n0 (by omega) (O.wrap .i64 (O.add x_1 1))) (by subst hO; rfl) rfl
      · exact Le.ret2 (by subst hO; rfl)
    · exact Le.ret2 (by subst hO; rfl)
  · exact Le.ret2 (by subst hO; rfl)
/-! ### loop.example/g00100/impl.putText -/
def impl_putText.e (r : ByteArray) : Res tab := (([], []), .one (.lit (.string r)))
def impl_putText.f (k : Nat) (a0 : ByteArray) : Option ByteArray := ((impl_varText.f k (a0.size : Int)).bind fun r0 => (if ((r0.size : Int) + (a0.size : Int)) ≤ 140737488351232 then (some (r0 ++ a0)) else none))
theorem impl_putText.le (O : Prim) (hO : O = std) (k : Nat) (a0 : ByteArray) : Le F O M fi82.kills impl_putText.e (impl_putText.f k a0) (den O M fi82.kills fi82.fn fi82.body (tab.gives 82) (M 82) [.one (.lit (.string a0))] : Tr tab) := by
  refine Le.eqS 0 (by conv => lhs; cbv) ?_
  unfold impl_putText.f
  refine Le.callC 0 (fi := fi80) rfl (impl_varText.le O hO k (O.ssize a0)) (by subst hO; rfl) (by intro r0; conv => lhs; cbv) ?_
  intro r0
  refine Le.guardP 0 (by subst hO; rfl) (by conv => lhs; cbv) ?_
  exact Le.ret2 (by subst hO; rfl)
/-! ### loop.example/g00100/impl.entriesText -/
def impl_entriesText.e (r : ByteArray) : Res tab := (([], []), .one (.lit (.string r)))
def impl_entriesText.l0 : Nat → (List GEntry) → ByteArray → Int → ByteArray → Int → Int → Int → Int → ByteArray → Int → Option ByteArray
  | 0, _, _, _, _, _, _, _, _, _, _ => none
  | k + 1, a0, x_60, x_61, b_62, b_63, b_64, b_65, b_66, b_67, b_68 => (if x_61 < (a0.length : Int) then (if 0 ≤ x_61 then (if x_61 < (a0.length : Int) then ((impl_common.f k b_62 (a0.getD (Int.toNat x_61) (⟨(⟨#[]⟩ : ByteArray), 0, 0, 0, 0, (⟨#[]⟩ : ByteArray), 0⟩ : GEntry)).Path).bind fun r69 => (if 0 ≤ r69 then (if r69 ≤ ((a0.getD (Int.toNat x_61) (⟨(⟨#[]⟩ : ByteArray), 0, 0, 0, 0, (⟨#[]⟩ : ByteArray), 0⟩ : GEntry)).Path.size : Int) then (if ((a0.getD (Int.toNat x_61) (⟨(⟨#[]⟩ : ByteArray), 0, 0, 0, 0, (⟨#[]⟩ : ByteArray), 0⟩ : GEntry)).Path.size : Int) ≤ ((a0.getD (Int.toNat x_61) (⟨(⟨#[]⟩ : ByteArray), 0, 0, 0, 0, (⟨#[]⟩ : ByteArray), 0⟩ : GEntry)).Path.size : Int) then ((impl_varText.f k r69).bind fun r70 => ((impl_putText.f k ((a0.getD (Int.toNat x_61) (⟨(⟨#[]⟩ : ByteArray), 0, 0, 0, 0, (⟨#[]⟩ : ByteArray), 0⟩ : GEntry)).Path.extract (Int.toNat r69) (Int.toNat ((a0.getD (Int.toNat x_61) (⟨(⟨#[]⟩ : ByteArray), 0, 0, 0, 0, (⟨#[]⟩ : ByteArray), 0⟩ : GEntry)).Path.size : Int)))).bind fun r71 => (if ((r70.size : Int) + (r71.size : Int)) ≤ 140737488351232 then (if ((x_60.size : Int) + ((r70 ++ r71).size : Int)) ≤ 140737488355328 then (if 0 < x_61 then (if (a0.getD (Int.toNat x_61) (⟨(⟨#[]⟩ : ByteArray), 0, 0, 0, 0, (⟨#[]⟩ : ByteArray), 0⟩ : GEntry)).Mode = b_64 then (if (a0.getD (Int.toNat x_61) (⟨(⟨#[]⟩ : ByteArray), 0, 0, 0, 0, (⟨#[]⟩ : ByteArray), 0⟩ : GEntry)).Time = b_65 then ((impl_varText.f k (IntKind.wrap .i64 ((a0.getD (Int.toNat x_61) (⟨(⟨#[]⟩ : ByteArray), 0, 0, 0, 0, (⟨#[]⟩ : ByteArray), 0⟩ : GEntry)).Kind + 4))).bind fun r72 => (if (((x_60 ++ (r70 ++ r71)).size : Int) + (r72.size : Int)) ≤ 140737488355328 then (if (a0.getD (Int.toNat x_61) (⟨(⟨#[]⟩ : ByteArray), 0, 0, 0, 0, (⟨#[]⟩ : ByteArray), 0⟩ : GEntry)).Kind = 1 then ((impl_varText.f k (a0.getD (Int.toNat x_61) (⟨(⟨#[]⟩ : ByteArray), 0, 0, 0, 0, (⟨#[]⟩ : ByteArray), 0⟩ : GEntry)).Size).bind fun r73 => ((impl_varText.f k (a0.getD (Int.toNat x_61) (⟨(⟨#[]⟩ : ByteArray), 0, 0, 0, 0, (⟨#[]⟩ : ByteArray), 0⟩ : GEntry)).Group).bind fun r74 => (if ((r73.size : Int) + (r74.size : Int)) ≤ 140737488351232 then (if ((((x_60 ++ (r70 ++ r71)) ++ r72).size : Int) + ((r73 ++ r74).size : Int)) ≤ 140737488355328 then (impl_entriesText.l0 k a0 (((x_60 ++ (r70 ++ r71)) ++ r72) ++ (r73 ++ r74)) (IntKind.wrap .i64 (x_61 + 1)) (a0.getD (Int.toNat x_61) (⟨(⟨#[]⟩ : ByteArray), 0, 0, 0, 0, (⟨#[]⟩ : ByteArray), 0⟩ : GEntry)).Path (a0.getD (Int.toNat x_61) (⟨(⟨#[]⟩ : ByteArray), 0, 0, 0, 0, (⟨#[]⟩ : ByteArray), 0⟩ : GEntry)).Kind (a0.getD (Int.toNat x_61) (⟨(⟨#[]⟩ : ByteArray), 0, 0, 0, 0, (⟨#[]⟩ : ByteArray), 0⟩ : GEntry)).Mode (a0.getD (Int.toNat x_61) (⟨(⟨#[]⟩ : ByteArray), 0, 0, 0, 0, (⟨#[]⟩ : ByteArray), 0⟩ : GEntry)).Time (a0.getD (Int.toNat x_61) (⟨(⟨#[]⟩ : ByteArray), 0, 0, 0, 0, (⟨#[]⟩ : ByteArray), 0⟩ : GEntry)).Size (a0.getD (Int.toNat x_61) (⟨(⟨#[]⟩ : ByteArray), 0, 0, 0, 0, (⟨#[]⟩ : ByteArray), 0⟩ : GEntry)).Target (a0.getD (Int.toNat x_61) (⟨(⟨#[]⟩ : ByteArray), 0, 0, 0, 0, (⟨#[]⟩ : ByteArray), 0⟩ : GEntry)).Group) else none) else none))) else (if (a0.getD (Int.toNat x_61) (⟨(⟨#[]⟩ : ByteArray), 0, 0, 0, 0, (⟨#[]⟩ : ByteArray), 0⟩ : GEntry)).Kind = 2 then ((impl_putText.f k (a0.getD (Int.toNat x_61) (⟨(⟨#[]⟩ : ByteArray), 0, 0, 0, 0, (⟨#[]⟩ : ByteArray), 0⟩ : GEntry)).Target).bind fun r75 => (if ((((x_60 ++ (r70 ++ r71)) ++ r72).size : Int) + (r75.size : Int)) ≤ 140737488355328 then (impl_entriesText.l0 k a0 (((x_60 ++ (r70 ++ r71)) ++ r72) ++ r75) (IntKind.wrap .i64 (x_61 + 1)) (a0.getD (Int.toNat x_61) (⟨(⟨#[]⟩ : ByteArray), 0, 0, 0, 0, (⟨#[]⟩ : ByteArray), 0⟩ : GEntry)).Path (a0.getD (Int.toNat x_61) (⟨(⟨#[]⟩ : ByteArray), 0, 0, 0, 0, (⟨#[]⟩ : ByteArray), 0⟩ : GEntry)).Kind (a0.getD (Int.toNat x_61) (⟨(⟨#[]⟩ : ByteArray), 0, 0, 0, 0, (⟨#[]⟩ : ByteArray), 0⟩ : GEntry)).Mode (a0.getD (Int.toNat x_61) (⟨(⟨#[]⟩ : ByteArray), 0, 0, 0, 0, (⟨#[]⟩ : ByteArray), 0⟩ : GEntry)).Time (a0.getD (Int.toNat x_61) (⟨(⟨#[]⟩ : ByteArray), 0, 0, 0, 0, (⟨#[]⟩ : ByteArray), 0⟩ : GEntry)).Size (a0.getD (Int.toNat x_61) (⟨(⟨#[]⟩ : ByteArray), 0, 0, 0, 0, (⟨#[]⟩ : ByteArray), 0⟩ : GEntry)).Target (a0.getD (Int.toNat x_61) (⟨(⟨#[]⟩ : ByteArray), 0, 0, 0, 0, (⟨#[]⟩ : ByteArray), 0⟩ : GEntry)).Group) else none)) else (impl_entriesText.l0 k a0 ((x_60 ++ (r70 ++ r71)) ++ r72) (IntKind.wrap .i64 (x_61 + 1)) (a0.getD (Int.toNat x_61) (⟨(⟨#[]⟩ : ByteArray), 0, 0, 0, 0, (⟨#[]⟩ : ByteArray), 0⟩ : GEntry)).Path (a0.getD (Int.toNat x_61) (⟨(⟨#[]⟩ : ByteArray), 0, 0, 0, 0, (⟨#[]⟩ : ByteArray), 0⟩ : GEntry)).Kind (a0.getD (Int.toNat x_61) (⟨(⟨#[]⟩ : ByteArray), 0, 0, 0, 0, (⟨#[]⟩ : ByteArray), 0⟩ : GEntry)).Mode (a0.getD (Int.toNat x_61) (⟨(⟨#[]⟩ : ByteArray), 0, 0, 0, 0, (⟨#[]⟩ : ByteArray), 0⟩ : GEntry)).Time (a0.getD (Int.toNat x_61) (⟨(⟨#[]⟩ : ByteArray), 0, 0, 0, 0, (⟨#[]⟩ : ByteArray), 0⟩ : GEntry)).Size (a0.getD (Int.toNat x_61) (⟨(⟨#[]⟩ : ByteArray), 0, 0, 0, 0, (⟨#[]⟩ : ByteArray), 0⟩ : GEntry)).Target (a0.getD (Int.toNat x_61) (⟨(⟨#[]⟩ : ByteArray), 0, 0, 0, 0, (⟨#[]⟩ : ByteArray), 0⟩ : GEntry)).Group))) else none)) else ((impl_varText.f k (a0.getD (Int.toNat x_61) (⟨(⟨#[]⟩ : ByteArray), 0, 0, 0, 0, (⟨#[]⟩ : ByteArray), 0⟩ : GEntry)).Kind).bind fun r76 => ((impl_varText.f k (a0.getD (Int.toNat x_61) (⟨(⟨#[]⟩ : ByteArray), 0, 0, 0, 0, (⟨#[]⟩ : ByteArray), 0⟩ : GEntry)).Mode).bind fun r77 => (if ((r76.size : Int) + (r77.size : Int)) ≤ 140737488351232 then ((impl_varText.f k (a0.getD (Int.toNat x_61) (⟨(⟨#[]⟩ : ByteArray), 0, 0, 0, 0, (⟨#[]⟩ : ByteArray), 0⟩ : GEntry)).Time).bind fun r78 => (if (((r76 ++ r77).size : Int) + (r78.size : Int)) ≤ 140737488351232 then (if (((x_60 ++ (r70 ++ r71)).size : Int) + (((r76 ++ r77) ++ r78).size : Int)) ≤ 140737488355328 then (if (a0.getD (Int.toNat x_61) (⟨(⟨#[]⟩ : ByteArray), 0, 0, 0, 0, (⟨#[]⟩ : ByteArray), 0⟩ : GEntry)).Kind = 1 then ((impl_varText.f k (a0.getD (Int.toNat x_61) (⟨(⟨#[]⟩ : ByteArray), 0, 0, 0, 0, (⟨#[]⟩ : ByteArray), 0⟩ : GEntry)).Size).bind fun r79 => ((impl_varText.f k (a0.getD (Int.toNat x_61) (⟨(⟨#[]⟩ : ByteArray), 0, 0, 0, 0, (⟨#[]⟩ : ByteArray), 0⟩ : GEntry)).Group).bind fun r80 => (if ((r79.size : Int) + (r80.size : Int)) ≤ 140737488351232 then (if ((((x_60 ++ (r70 ++ r71)) ++ ((r76 ++ r77) ++ r78)).size : Int) + ((r79 ++ r80).size : Int)) ≤ 140737488355328 then (impl_entriesText.l0 k a0 (((x_60 ++ (r70 ++ r71)) ++ ((r76 ++ r77) ++ r78)) ++ (r79 ++ r80)) (IntKind.wrap .i64 (x_61 + 1)) (a0.getD (Int.toNat x_61) (⟨(⟨#[]⟩ : ByteArray), 0, 0, 0, 0, (⟨#[]⟩ : ByteArray), 0⟩ : GEntry)).Path (a0.getD (Int.toNat x_61) (⟨(⟨#[]⟩ : ByteArray), 0, 0, 0, 0, (⟨#[]⟩ : ByteArray), 0⟩ : GEntry)).Kind (a0.getD (Int.toNat x_61) (⟨(⟨#[]⟩ : ByteArray), 0, 0, 0, 0, (⟨#[]⟩ : ByteArray), 0⟩ : GEntry)).Mode (a0.getD (Int.toNat x_61) (⟨(⟨#[]⟩ : ByteArray), 0, 0, 0, 0, (⟨#[]⟩ : ByteArray), 0⟩ : GEntry)).Time (a0.getD (Int.toNat x_61) (⟨(⟨#[]⟩ : ByteArray), 0, 0, 0, 0, (⟨#[]⟩ : ByteArray), 0⟩ : GEntry)).Size (a0.getD (Int.toNat x_61) (⟨(⟨#[]⟩ : ByteArray), 0, 0, 0, 0, (⟨#[]⟩ : ByteArray), 0⟩ : GEntry)).Target (a0.getD (Int.toNat x_61) (⟨(⟨#[]⟩ : ByteArray), 0, 0, 0, 0, (⟨#[]⟩ : ByteArray), 0⟩ : GEntry)).Group) else none) else none))) else (if (a0.getD (Int.toNat x_61) (⟨(⟨#[]⟩ : ByteArray), 0, 0, 0, 0, (⟨#[]⟩ : ByteArray), 0⟩ : GEntry)).Kind = 2 then ((impl_putText.f k (a0.getD (Int.toNat x_61) (⟨(⟨#[]⟩ : ByteArray), 0, 0, 0, 0, (⟨#[]⟩ : ByteArray), 0⟩ : GEntry)).Target).bind fun r81 => (if ((((x_60 ++ (r70 ++ r71)) ++ ((r76 ++ r77) ++ r78)).size : Int) + (r81.size : Int)) ≤ 140737488355328 then (impl_entriesText.l0 k a0 (((x_60 ++ (r70 ++ r71)) ++ ((r76 ++ r77) ++ r78)) ++ r81) (IntKind.wrap .i64 (x_61 + 1)) (a0.getD (Int.toNat x_61) (⟨(⟨#[]⟩ : ByteArray), 0, 0, 0, 0, (⟨#[]⟩ : ByteArray), 0⟩ : GEntry)).Path (a0.getD (Int.toNat x_61) (⟨(⟨#[]⟩ : ByteArray), 0, 0, 0, 0, (⟨#[]⟩ : ByteArray), 0⟩ : GEntry)).Kind (a0.getD (Int.toNat x_61) (⟨(⟨#[]⟩ : ByteArray), 0, 0, 0, 0, (⟨#[]⟩ : ByteArray), 0⟩ : GEntry)).Mode (a0.getD (Int.toNat x_61) (⟨(⟨#[]⟩ : ByteArray), 0, 0, 0, 0, (⟨#[]⟩ : ByteArray), 0⟩ : GEntry)).Time (a0.getD (Int.toNat x_61) (⟨(⟨#[]⟩ : ByteArray), 0, 0, 0, 0, (⟨#[]⟩ : ByteArray), 0⟩ : GEntry)).Size (a0.getD (Int.toNat x_61) (⟨(⟨#[]⟩ : ByteArray), 0, 0, 0, 0, (⟨#[]⟩ : ByteArray), 0⟩ : GEntry)).Target (a0.getD (Int.toNat x_61) (⟨(⟨#[]⟩ : ByteArray), 0, 0, 0, 0, (⟨#[]⟩ : ByteArray), 0⟩ : GEntry)).Group) else none)) else (impl_entriesText.l0 k a0 ((x_60 ++ (r70 ++ r71)) ++ ((r76 ++ r77) ++ r78)) (IntKind.wrap .i64 (x_61 + 1)) (a0.getD (Int.toNat x_61) (⟨(⟨#[]⟩ : ByteArray), 0, 0, 0, 0, (⟨#[]⟩ : ByteArray), 0⟩ : GEntry)).Path (a0.getD (Int.toNat x_61) (⟨(⟨#[]⟩ : ByteArray), 0, 0, 0, 0, (⟨#[]⟩ : ByteArray), 0⟩ : GEntry)).Kind (a0.getD (Int.toNat x_61) (⟨(⟨#[]⟩ : ByteArray), 0, 0, 0, 0, (⟨#[]⟩ : ByteArray), 0⟩ : GEntry)).Mode (a0.getD (Int.toNat x_61) (⟨(⟨#[]⟩ : ByteArray), 0, 0, 0, 0, (⟨#[]⟩ : ByteArray), 0⟩ : GEntry)).Time (a0.getD (Int.toNat x_61) (⟨(⟨#[]⟩ : ByteArray), 0, 0, 0, 0, (⟨#[]⟩ : ByteArray), 0⟩ : GEntry)).Size (a0.getD (Int.toNat x_61) (⟨(⟨#[]⟩ : ByteArray), 0, 0, 0, 0, (⟨#[]⟩ : ByteArray), 0⟩ : GEntry)).Target (a0.getD (Int.toNat x_61) (⟨(⟨#[]⟩ : ByteArray), 0, 0, 0, 0, (⟨#[]⟩ : ByteArray), 0⟩ : GEntry)).Group))) else none) else none)) else none)))) else ((impl_varText.f k (a0.getD (Int.toNat x_61) (⟨(⟨#[]⟩ : ByteArray), 0, 0, 0, 0, (⟨#[]⟩ : ByteArray), 0⟩ : GEntry)).Kind).bind fun r82 => ((impl_varText.f k (a0.getD (Int.toNat x_61) (⟨(⟨#[]⟩ : ByteArray), 0, 0, 0, 0, (⟨#[]⟩ : ByteArray), 0⟩ : GEntry)).Mode).bind fun r83 => (if ((r82.size : Int) + (r83.size : Int)) ≤ 140737488351232 then ((impl_varText.f k (a0.getD (Int.toNat x_61) (⟨(⟨#[]⟩ : ByteArray), 0, 0, 0, 0, (⟨#[]⟩ : ByteArray), 0⟩ : GEntry)).Time).bind fun r84 => (if (((r82 ++ r83).size : Int) + (r84.size : Int)) ≤ 140737488351232 then (if (((x_60 ++ (r70 ++ r71)).size : Int) + (((r82 ++ r83) ++ r84).size : Int)) ≤ 140737488355328 then (if (a0.getD (Int.toNat x_61) (⟨(⟨#[]⟩ : ByteArray), 0, 0, 0, 0, (⟨#[]⟩ : ByteArray), 0⟩ : GEntry)).Kind = 1 then ((impl_varText.f k (a0.getD (Int.toNat x_61) (⟨(⟨#[]⟩ : ByteArray), 0, 0, 0, 0, (⟨#[]⟩ : ByteArray), 0⟩ : GEntry)).Size).bind fun r85 => ((impl_varText.f k (a0.getD (Int.toNat x_61) (⟨(⟨#[]⟩ : ByteArray), 0, 0, 0, 0, (⟨#[]⟩ : ByteArray), 0⟩ : GEntry)).Group).bind fun r86 => (if ((r85.size : Int) + (r86.size : Int)) ≤ 140737488351232 then (if ((((x_60 ++ (r70 ++ r71)) ++ ((r82 ++ r83) ++ r84)).size : Int) + ((r85 ++ r86).size : Int)) ≤ 140737488355328 then (impl_entriesText.l0 k a0 (((x_60 ++ (r70 ++ r71)) ++ ((r82 ++ r83) ++ r84)) ++ (r85 ++ r86)) (IntKind.wrap .i64 (x_61 + 1)) (a0.getD (Int.toNat x_61) (⟨(⟨#[]⟩ : ByteArray), 0, 0, 0, 0, (⟨#[]⟩ : ByteArray), 0⟩ : GEntry)).Path (a0.getD (Int.toNat x_61) (⟨(⟨#[]⟩ : ByteArray), 0, 0, 0, 0, (⟨#[]⟩ : ByteArray), 0⟩ : GEntry)).Kind (a0.getD (Int.toNat x_61) (⟨(⟨#[]⟩ : ByteArray), 0, 0, 0, 0, (⟨#[]⟩ : ByteArray), 0⟩ : GEntry)).Mode (a0.getD (Int.toNat x_61) (⟨(⟨#[]⟩ : ByteArray), 0, 0, 0, 0, (⟨#[]⟩ : ByteArray), 0⟩ : GEntry)).Time (a0.getD (Int.toNat x_61) (⟨(⟨#[]⟩ : ByteArray), 0, 0, 0, 0, (⟨#[]⟩ : ByteArray), 0⟩ : GEntry)).Size (a0.getD (Int.toNat x_61) (⟨(⟨#[]⟩ : ByteArray), 0, 0, 0, 0, (⟨#[]⟩ : ByteArray), 0⟩ : GEntry)).Target (a0.getD (Int.toNat x_61) (⟨(⟨#[]⟩ : ByteArray), 0, 0, 0, 0, (⟨#[]⟩ : ByteArray), 0⟩ : GEntry)).Group) else none) else none))) else (if (a0.getD (Int.toNat x_61) (⟨(⟨#[]⟩ : ByteArray), 0, 0, 0, 0, (⟨#[]⟩ : ByteArray), 0⟩ : GEntry)).Kind = 2 then ((impl_putText.f k (a0.getD (Int.toNat x_61) (⟨(⟨#[]⟩ : ByteArray), 0, 0, 0, 0, (⟨#[]⟩ : ByteArray), 0⟩ : GEntry)).Target).bind fun r87 => (if ((((x_60 ++ (r70 ++ r71)) ++ ((r82 ++ r83) ++ r84)).size : Int) + (r87.size : Int)) ≤ 140737488355328 then (impl_entriesText.l0 k a0 (((x_60 ++ (r70 ++ r71)) ++ ((r82 ++ r83) ++ r84)) ++ r87) (IntKind.wrap .i64 (x_61 + 1)) (a0.getD (Int.toNat x_61) (⟨(⟨#[]⟩ : ByteArray), 0, 0, 0, 0, (⟨#[]⟩ : ByteArray), 0⟩ : GEntry)).Path (a0.getD (Int.toNat x_61) (⟨(⟨#[]⟩ : ByteArray), 0, 0, 0, 0, (⟨#[]⟩ : ByteArray), 0⟩ : GEntry)).Kind (a0.getD (Int.toNat x_61) (⟨(⟨#[]⟩ : ByteArray), 0, 0, 0, 0, (⟨#[]⟩ : ByteArray), 0⟩ : GEntry)).Mode (a0.getD (Int.toNat x_61) (⟨(⟨#[]⟩ : ByteArray), 0, 0, 0, 0, (⟨#[]⟩ : ByteArray), 0⟩ : GEntry)).Time (a0.getD (Int.toNat x_61) (⟨(⟨#[]⟩ : ByteArray), 0, 0, 0, 0, (⟨#[]⟩ : ByteArray), 0⟩ : GEntry)).Size (a0.getD (Int.toNat x_61) (⟨(⟨#[]⟩ : ByteArray), 0, 0, 0, 0, (⟨#[]⟩ : ByteArray), 0⟩ : GEntry)).Target (a0.getD (Int.toNat x_61) (⟨(⟨#[]⟩ : ByteArray), 0, 0, 0, 0, (⟨#[]⟩ : ByteArray), 0⟩ : GEntry)).Group) else none)) else (impl_entriesText.l0 k a0 ((x_60 ++ (r70 ++ r71)) ++ ((r82 ++ r83) ++ r84)) (IntKind.wrap .i64 (x_61 + 1)) (a0.getD (Int.toNat x_61) (⟨(⟨#[]⟩ : ByteArray), 0, 0, 0, 0, (⟨#[]⟩ : ByteArray), 0⟩ : GEntry)).Path (a0.getD (Int.toNat x_61) (⟨(⟨#[]⟩ : ByteArray), 0, 0, 0, 0, (⟨#[]⟩ : ByteArray), 0⟩ : GEntry)).Kind (a0.getD (Int.toNat x_61) (⟨(⟨#[]⟩ : ByteArray), 0, 0, 0, 0, (⟨#[]⟩ : ByteArray), 0⟩ : GEntry)).Mode (a0.getD (Int.toNat x_61) (⟨(⟨#[]⟩ : ByteArray), 0, 0, 0, 0, (⟨#[]⟩ : ByteArray), 0⟩ : GEntry)).Time (a0.getD (Int.toNat x_61) (⟨(⟨#[]⟩ : ByteArray), 0, 0, 0, 0, (⟨#[]⟩ : ByteArray), 0⟩ : GEntry)).Size (a0.getD (Int.toNat x_61) (⟨(⟨#[]⟩ : ByteArray), 0, 0, 0, 0, (⟨#[]⟩ : ByteArray), 0⟩ : GEntry)).Target (a0.getD (Int.toNat x_61) (⟨(⟨#[]⟩ : ByteArray), 0, 0, 0, 0, (⟨#[]⟩ : ByteArray), 0⟩ : GEntry)).Group))) else none) else none)) else none)))) else ((impl_varText.f k (a0.getD (Int.toNat x_61) (⟨(⟨#[]⟩ : ByteArray), 0, 0, 0, 0, (⟨#[]⟩ : ByteArray), 0⟩ : GEntry)).Kind).bind fun r88 => ((impl_varText.f k (a0.getD (Int.toNat x_61) (⟨(⟨#[]⟩ : ByteArray), 0, 0, 0, 0, (⟨#[]⟩ : ByteArray), 0⟩ : GEntry)).Mode).bind fun r89 => (if ((r88.size : Int) + (r89.size : Int)) ≤ 140737488351232 then ((impl_varText.f k (a0.getD (Int.toNat x_61) (⟨(⟨#[]⟩ : ByteArray), 0, 0, 0, 0, (⟨#[]⟩ : ByteArray), 0⟩ : GEntry)).Time).bind fun r90 => (if (((r88 ++ r89).size : Int) + (r90.size : Int)) ≤ 140737488351232 then (if (((x_60 ++ (r70 ++ r71)).size : Int) + (((r88 ++ r89) ++ r90).size : Int)) ≤ 140737488355328 then (if (a0.getD (Int.toNat x_61) (⟨(⟨#[]⟩ : ByteArray), 0, 0, 0, 0, (⟨#[]⟩ : ByteArray), 0⟩ : GEntry)).Kind = 1 then ((impl_varText.f k (a0.getD (Int.toNat x_61) (⟨(⟨#[]⟩ : ByteArray), 0, 0, 0, 0, (⟨#[]⟩ : ByteArray), 0⟩ : GEntry)).Size).bind fun r91 => ((impl_varText.f k (a0.getD (Int.toNat x_61) (⟨(⟨#[]⟩ : ByteArray), 0, 0, 0, 0, (⟨#[]⟩ : ByteArray), 0⟩ : GEntry)).Group).bind fun r92 => (if ((r91.size : Int) + (r92.size : Int)) ≤ 140737488351232 then (if ((((x_60 ++ (r70 ++ r71)) ++ ((r88 ++ r89) ++ r90)).size : Int) + ((r91 ++ r92).size : Int)) ≤ 140737488355328 then (impl_entriesText.l0 k a0 (((x_60 ++ (r70 ++ r71)) ++ ((r88 ++ r89) ++ r90)) ++ (r91 ++ r92)) (IntKind.wrap .i64 (x_61 + 1)) (a0.getD (Int.toNat x_61) (⟨(⟨#[]⟩ : ByteArray), 0, 0, 0, 0, (⟨#[]⟩ : ByteArray), 0⟩ : GEntry)).Path (a0.getD (Int.toNat x_61) (⟨(⟨#[]⟩ : ByteArray), 0, 0, 0, 0, (⟨#[]⟩ : ByteArray), 0⟩ : GEntry)).Kind (a0.getD (Int.toNat x_61) (⟨(⟨#[]⟩ : ByteArray), 0, 0, 0, 0, (⟨#[]⟩ : ByteArray), 0⟩ : GEntry)).Mode (a0.getD (Int.toNat x_61) (⟨(⟨#[]⟩ : ByteArray), 0, 0, 0, 0, (⟨#[]⟩ : ByteArray), 0⟩ : GEntry)).Time (a0.getD (Int.toNat x_61) (⟨(⟨#[]⟩ : ByteArray), 0, 0, 0, 0, (⟨#[]⟩ : ByteArray), 0⟩ : GEntry)).Size (a0.getD (Int.toNat x_61) (⟨(⟨#[]⟩ : ByteArray), 0, 0, 0, 0, (⟨#[]⟩ : ByteArray), 0⟩ : GEntry)).Target (a0.getD (Int.toNat x_61) (⟨(⟨#[]⟩ : ByteArray), 0, 0, 0, 0, (⟨#[]⟩ : ByteArray), 0⟩ : GEntry)).Group) else none) else none))) else (if (a0.getD (Int.toNat x_61) (⟨(⟨#[]⟩ : ByteArray), 0, 0, 0, 0, (⟨#[]⟩ : ByteArray), 0⟩ : GEntry)).Kind = 2 then ((impl_putText.f k (a0.getD (Int.toNat x_61) (⟨(⟨#[]⟩ : ByteArray), 0, 0, 0, 0, (⟨#[]⟩ : ByteArray), 0⟩ : GEntry)).Target).bind fun r93 => (if ((((x_60 ++ (r70 ++ r71)) ++ ((r88 ++ r89) ++ r90)).size : Int) + (r93.size : Int)) ≤ 140737488355328 then (impl_entriesText.l0 k a0 (((x_60 ++ (r70 ++ r71)) ++ ((r88 ++ r89) ++ r90)) ++ r93) (IntKind.wrap .i64 (x_61 + 1)) (a0.getD (Int.toNat x_61) (⟨(⟨#[]⟩ : ByteArray), 0, 0, 0, 0, (⟨#[]⟩ : ByteArray), 0⟩ : GEntry)).Path (a0.getD (Int.toNat x_61) (⟨(⟨#[]⟩ : ByteArray), 0, 0, 0, 0, (⟨#[]⟩ : ByteArray), 0⟩ : GEntry)).Kind (a0.getD (Int.toNat x_61) (⟨(⟨#[]⟩ : ByteArray), 0, 0, 0, 0, (⟨#[]⟩ : ByteArray), 0⟩ : GEntry)).Mode (a0.getD (Int.toNat x_61) (⟨(⟨#[]⟩ : ByteArray), 0, 0, 0, 0, (⟨#[]⟩ : ByteArray), 0⟩ : GEntry)).Time (a0.getD (Int.toNat x_61) (⟨(⟨#[]⟩ : ByteArray), 0, 0, 0, 0, (⟨#[]⟩ : ByteArray), 0⟩ : GEntry)).Size (a0.getD (Int.toNat x_61) (⟨(⟨#[]⟩ : ByteArray), 0, 0, 0, 0, (⟨#[]⟩ : ByteArray), 0⟩ : GEntry)).Target (a0.getD (Int.toNat x_61) (⟨(⟨#[]⟩ : ByteArray), 0, 0, 0, 0, (⟨#[]⟩ : ByteArray), 0⟩ : GEntry)).Group) else none)) else (impl_entriesText.l0 k a0 ((x_60 ++ (r70 ++ r71)) ++ ((r88 ++ r89) ++ r90)) (IntKind.wrap .i64 (x_61 + 1)) (a0.getD (Int.toNat x_61) (⟨(⟨#[]⟩ : ByteArray), 0, 0, 0, 0, (⟨#[]⟩ : ByteArray), 0⟩ : GEntry)).Path (a0.getD (Int.toNat x_61) (⟨(⟨#[]⟩ : ByteArray), 0, 0, 0, 0, (⟨#[]⟩ : ByteArray), 0⟩ : GEntry)).Kind (a0.getD (Int.toNat x_61) (⟨(⟨#[]⟩ : ByteArray), 0, 0, 0, 0, (⟨#[]⟩ : ByteArray), 0⟩ : GEntry)).Mode (a0.getD (Int.toNat x_61) (⟨(⟨#[]⟩ : ByteArray), 0, 0, 0, 0, (⟨#[]⟩ : ByteArray), 0⟩ : GEntry)).Time (a0.getD (Int.toNat x_61) (⟨(⟨#[]⟩ : ByteArray), 0, 0, 0, 0, (⟨#[]⟩ : ByteArray), 0⟩ : GEntry)).Size (a0.getD (Int.toNat x_61) (⟨(⟨#[]⟩ : ByteArray), 0, 0, 0, 0, (⟨#[]⟩ : ByteArray), 0⟩ : GEntry)).Target (a0.getD (Int.toNat x_61) (⟨(⟨#[]⟩ : ByteArray), 0, 0, 0, 0, (⟨#[]⟩ : ByteArray), 0⟩ : GEntry)).Group))) else none) else none)) else none)))) else none) else none))) else none) else none) else none)) else none) else none) else (some x_60))
def impl_entriesText.f (k : Nat) (a0 : List GEntry) : Option ByteArray := ((impl_varText.f k (a0.length : Int)).bind fun r0 => (if (((⟨#[]⟩ : ByteArray).size : Int) + (r0.size : Int)) ≤ 140737488355328 then (impl_entriesText.l0 k a0 ((⟨#[]⟩ : ByteArray) ++ r0) 0 (⟨#[]⟩ : ByteArray) 0 0 0 0 (⟨#[]⟩ : ByteArray) 0) else none))
theorem impl_entriesText.le (O : Prim) (hO : O = std) (k : Nat) (a0 : List GEntry) : Le F O M fi43.kills impl_entriesText.e (impl_entriesText.f k a0) (den O M fi43.kills fi43.fn fi43.body (tab.gives 43) (M 43) [.one (.imm 42 a0)] : Tr tab) := by
  refine Le.eqS 0 (by conv => lhs; cbv) ?_
  unfold impl_entriesText.f
  refine Le.callC 0 (fi := fi80) rfl (impl_varText.le O hO k (O.len a0)) (by subst hO; rfl) (by intro r0; conv => lhs; cbv) ?_
  intro r0
  refine Le.guardP 0 (by subst hO; rfl) (by conv => lhs; cbv) ?_
  refine Le.loopS (fun (n : Nat) (v : ByteArray × Int × ByteArray × Int × Int × Int × Int × ByteArray × Int) => impl_entriesText.l0 n a0 v.1 v.2.1 v.2.2.1 v.2.2.2.1 v.2.2.2.2.1 v.2.2.2.2.2.1 v.2.2.2.2.2.2.1 v.2.2.2.2.2.2.2.1 v.2.2.2.2.2.2.2.2) (fun (v : ByteArray × Int × ByteArray × Int × Int × Int × Int × ByteArray × Int) => match v with | (x_60, x_61, b_62, b_63, b_64, b_65, b_66, b_67, b_68) => (⟨[], [D_, D_, D_, .one (.bld x_60), .one (.ptr ⟨11, 0, []⟩), D_, D_, D_, D_, D_, D_, D_, D_, .one (.imm 42 a0), .one (.lit (.int .i64 (O.len a0))), .one (.lit (.int .i64 x_61)), D_, D_, D_, D_, D_, D_, D_, D_, D_, D_, D_, D_, D_, D_, D_, D_, D_, D_, D_, D_, D_, D_, D_, D_, D_, D_, D_, D_, D_, D_, D_, D_, D_, D_, D_, D_, D_, D_, D_, D_, D_, D_, D_, D_, D_, D_, D_, D_, D_, D_, D_, D_, D_, D_, D_, D_, D_, D_, D_, D_, D_, D_, D_, D_, D_, D_, D_, D_, D_, D_, D_, D_], [[], [], [], [], [.lit (.string b_62), .lit (.int .i64 b_63), .lit (.int .i64 b_64), .lit (.int .i64 b_65), .lit (.int .i64 b_66), .lit (.string b_67), .lit (.int .i64 b_68)], [], [], [], [], [], [], [], [], [], [], [], [], [], [], [], [], [], [], [], [], [], [], [], [], [], [], [], [], [], [], [], [], [], [], [], [], [], [], [], [], [], [], [], [], [], [], [], [], [], [], [], [], [], [], [], [], [], [], [], [], [], [], [], [], [], [], [], [], [], [], [], [], [], [], [], [], [], [], [], [], [], [], [], []], []⟩ : S tab)) k ((O.scat (⟨#[]⟩ : ByteArray) r0), 0, (⟨#[]⟩ : ByteArray), 0, 0, 0, 0, (⟨#[]⟩ : ByteArray), 0) (by subst hO; rfl) rfl (fun _ => rfl) ?_
  intro n0 hn0 ih0 v0
  obtain ⟨x_60, x_61, b_62, b_63, b_64, b_65, b_66, b_67, b_68⟩ := v0
  refine Le.eqS 0 (by conv => lhs; cbv) ?_
  show Le F O M _ _ (impl_entriesText.l0 (n0 + 1) a0 x_60 x_61 b_62 b_63 b_64 b_65 b_66 b_67 b_68) _
  rw [impl_entriesText.l0]
  refine Le.condP 0 0 (by subst hO; rfl) (by conv => lhs; cbv) (by conv => lhs; cbv) ?_ ?_
  · refine Le.guardP 0 (by subst hO; rfl) (by conv => lhs; cbv) ?_
    refine Le.guardP 0 (by subst hO; rfl) (by conv => lhs; cbv) ?_
    refine Le.callC 0 (fi := fi81) rfl (impl_common.le O hO n0 b_62 (O.get (⟨(⟨#[]⟩ : ByteArray), 0, 0, 0, 0, (⟨#[]⟩ : ByteArray), 0⟩ : GEntry) a0 x_61).Path) (by subst hO; rfl) (by intro r69; conv => lhs; cbv) ?_
    intro r69
    refine Le.guardP 0 (by subst hO; rfl) (by conv => lhs; cbv) ?_
    refine Le.guardP 0 (by subst hO; rfl) (by conv => lhs; cbv) ?_
    refine Le.guardP 0 (by subst hO; rfl) (by conv => lhs; cbv) ?_
    refine Le.callC 0 (fi := fi80) rfl (impl_varText.le O hO n0 r69) (by subst hO; rfl) (by intro r70; conv => lhs; cbv) ?_
    intro r70
    refine Le.callC 0 (fi := fi82) rfl (impl_putText.le O hO n0 (O.sext (O.get (⟨(⟨#[]⟩ : ByteArray), 0, 0, 0, 0, (⟨#[]⟩ : ByteArray), 0⟩ : GEntry) a0 x_61).Path r69 (O.ssize (O.get (⟨(⟨#[]⟩ : ByteArray), 0, 0, 0, 0, (⟨#[]⟩ : ByteArray), 0⟩ : GEntry) a0 x_61).Path))) (by subst hO; rfl) (by intro r71; conv => lhs; cbv) ?_
    intro r71
    refine Le.guardP 0 (by subst hO; rfl) (by conv => lhs; cbv) ?_
    refine Le.guardP 0 (by subst hO; rfl) (by conv => lhs; cbv) ?_
    refine Le.condP 5 12 (by subst hO; rfl) (by conv => lhs; cbv) (by conv => lhs; cbv) ?_ ?_
    · refine Le.condP 5 6 (by subst hO; rfl) (by conv => lhs; cbv) (by conv => lhs; cbv) ?_ ?_
      · refine Le.condP 0 0 (by subst hO; rfl) (by conv => lhs; cbv) (by conv => lhs; cbv) ?_ ?_
        · refine Le.callC 0 (fi := fi80) rfl (impl_varText.le O hO n0 (O.wrap .i64 (O.add (O.get (⟨(⟨#[]⟩ : ByteArray), 0, 0, 0, 0, (⟨#[]⟩ : ByteArray), 0⟩ : GEntry) a0 x_61).Kind 4))) (by subst hO; rfl) (by intro r72; conv => lhs; cbv) ?_
          intro r72
          refine Le.guardP 0 (by subst hO; rfl) (by conv => lhs; cbv) ?_
          refine Le.condP 0 0 (by subst hO; rfl) (by conv => lhs; cbv) (by conv => lhs; cbv) ?_ ?_
          · refine Le.callC 0 (fi := fi80) rfl (impl_varText.le O hO n0 (O.get (⟨(⟨#[]⟩ : ByteArray), 0, 0, 0, 0, (⟨#[]⟩ : ByteArray), 0⟩ : GEntry) a0 x_61).Size) (by subst hO; rfl) (by intro r73; conv => lhs; cbv) ?_
            intro r73
            refine Le.callC 0 (fi := fi80) rfl (impl_varText.le O hO n0 (O.get (⟨(⟨#[]⟩ : ByteArray), 0, 0, 0, 0, (⟨#[]⟩ : ByteArray), 0⟩ : GEntry) a0 x_61).Group) (by subst hO; rfl) (by intro r74; conv => lhs; cbv) ?_
            intro r74
            refine Le.guardP 0 (by subst hO; rfl) (by conv => lhs; cbv) ?_
            refine Le.guardP 0 (by subst hO; rfl) (by conv => lhs; cbv) ?_
            exact Le.again (ih0 n0 (by omega) ((O.scat (O.scat (O.scat x_60 (O.scat r70 r71)) r72) (O.scat r73 r74)), (O.wrap .i64 (O.add x_61 1)), (O.get (⟨(⟨#[]⟩ : ByteArray), 0, 0, 0, 0, (⟨#[]⟩ : ByteArray), 0⟩ : GEntry) a0 x_61).Path, (O.get (⟨(⟨#[]⟩ : ByteArray), 0, 0, 0, 0, (⟨#[]⟩ : ByteArray), 0⟩ : GEntry) a0 x_61).Kind, (O.get (⟨(⟨#[]⟩ : ByteArray), 0, 0, 0, 0, (⟨#[]⟩ : ByteArray), 0⟩ : GEntry) a0 x_61).Mode, (O.get (⟨(⟨#[]⟩ : ByteArray), 0, 0, 0, 0, (⟨#[]⟩ : ByteArray), 0⟩ : GEntry) a0 x_61).Time, (O.get (⟨(⟨#[]⟩ : ByteArray), 0, 0, 0, 0, (⟨#[]⟩ : ByteArray), 0⟩ : GEntry) a0 x_61).Size, (O.get (⟨(⟨#[]⟩ : ByteArray), 0, 0, 0, 0, (⟨#[]⟩ : ByteArray), 0⟩ : GEntry) a0 x_61).Target, (O.get (⟨(⟨#[]⟩ : ByteArray), 0, 0, 0, 0, (⟨#[]⟩ : ByteArray), 0⟩ : GEntry) a0 x_61).Group)) (by subst hO; rfl) rfl
          · refine Le.condP 0 0 (by subst hO; rfl) (by conv => lhs; cbv) (by conv => lhs; cbv) ?_ ?_
            · refine Le.callC 0 (fi := fi82) rfl (impl_putText.le O hO n0 (O.get (⟨(⟨#[]⟩ : ByteArray), 0, 0, 0, 0, (⟨#[]⟩ : ByteArray), 0⟩ : GEntry) a0 x_61).Target) (by subst hO; rfl) (by intro r75; conv => lhs; cbv) ?_
              intro r75
              refine Le.guardP 0 (by subst hO; rfl) (by conv => lhs; cbv) ?_
              exact Le.again (ih0 n0 (by omega) ((O.scat (O.scat (O.scat x_60 (O.scat r70 r71)) r72) r75), (O.wrap .i64 (O.add x_61 1)), (O.get (⟨(⟨#[]⟩ : ByteArray), 0, 0, 0, 0, (⟨#[]⟩ : ByteArray), 0⟩ : GEntry) a0 x_61).Path, (O.get (⟨(⟨#[]⟩ : ByteArray), 0, 0, 0, 0, (⟨#[]⟩ : ByteArray), 0⟩ : GEntry) a0 x_61).Kind, (O.get (⟨(⟨#[]⟩ : ByteArray), 0, 0, 0, 0, (⟨#[]⟩ : ByteArray), 0⟩ : GEntry) a0 x_61).Mode, (O.get (⟨(⟨#[]⟩ : ByteArray), 0, 0, 0, 0, (⟨#[]⟩ : ByteArray), 0⟩ : GEntry) a0 x_61).Time, (O.get (⟨(⟨#[]⟩ : ByteArray), 0, 0, 0, 0, (⟨#[]⟩ : ByteArray), 0⟩ : GEntry) a0 x_61).Size, (O.get (⟨(⟨#[]⟩ : ByteArray), 0, 0, 0, 0, (⟨#[]⟩ : ByteArray), 0⟩ : GEntry) a0 x_61).Target, (O.get (⟨(⟨#[]⟩ : ByteArray), 0, 0, 0, 0, (⟨#[]⟩ : ByteArray), 0⟩ : GEntry) a0 x_61).Group)) (by subst hO; rfl) rfl
            · exact Le.again (ih0 n0 (by omega) ((O.scat (O.scat x_60 (O.scat r70 r71)) r72), (O.wrap .i64 (O.add x_61 1)), (O.get (⟨(⟨#[]⟩ : ByteArray), 0, 0, 0, 0, (⟨#[]⟩ : ByteArray), 0⟩ : GEntry) a0 x_61).Path, (O.get (⟨(⟨#[]⟩ : ByteArray), 0, 0, 0, 0, (⟨#[]⟩ : ByteArray), 0⟩ : GEntry) a0 x_61).Kind, (O.get (⟨(⟨#[]⟩ : ByteArray), 0, 0, 0, 0, (⟨#[]⟩ : ByteArray), 0⟩ : GEntry) a0 x_61).Mode, (O.get (⟨(⟨#[]⟩ : ByteArray), 0, 0, 0, 0, (⟨#[]⟩ : ByteArray), 0⟩ : GEntry) a0 x_61).Time, (O.get (⟨(⟨#[]⟩ : ByteArray), 0, 0, 0, 0, (⟨#[]⟩ : ByteArray), 0⟩ : GEntry) a0 x_61).Size, (O.get (⟨(⟨#[]⟩ : ByteArray), 0, 0, 0, 0, (⟨#[]⟩ : ByteArray), 0⟩ : GEntry) a0 x_61).Target, (O.get (⟨(⟨#[]⟩ : ByteArray), 0, 0, 0, 0, (⟨#[]⟩ : ByteArray), 0⟩ : GEntry) a0 x_61).Group)) (by subst hO; rfl) rfl
        · refine Le.callC 0 (fi := fi80) rfl (impl_varText.le O hO n0 (O.get (⟨(⟨#[]⟩ : ByteArray), 0, 0, 0, 0, (⟨#[]⟩ : ByteArray), 0⟩ : GEntry) a0 x_61).Kind) (by subst hO; rfl) (by intro r76; conv => lhs; cbv) ?_
          intro r76
          refine Le.callC 0 (fi := fi80) rfl (impl_varText.le O hO n0 (O.get (⟨(⟨#[]⟩ : ByteArray), 0, 0, 0, 0, (⟨#[]⟩ : ByteArray), 0⟩ : GEntry) a0 x_61).Mode) (by subst hO; rfl) (by intro r77; conv => lhs; cbv) ?_
          intro r77
          refine Le.guardP 0 (by subst hO; rfl) (by conv => lhs; cbv) ?_
          refine Le.callC 0 (fi := fi80) rfl (impl_varText.le O hO n0 (O.get (⟨(⟨#[]⟩ : ByteArray), 0, 0, 0, 0, (⟨#[]⟩ : ByteArray), 0⟩ : GEntry) a0 x_61).Time) (by subst hO; rfl) (by intro r78; conv => lhs; cbv) ?_
          intro r78
          refine Le.guardP 0 (by subst hO; rfl) (by conv => lhs; cbv) ?_
          refine Le.guardP 0 (by subst hO; rfl) (by conv => lhs; cbv) ?_
          refine Le.condP 0 0 (by subst hO; rfl) (by conv => lhs; cbv) (by conv => lhs; cbv) ?_ ?_
          · refine Le.callC 0 (fi := fi80) rfl (impl_varText.le O hO n0 (O.get (⟨(⟨#[]⟩ : ByteArray), 0, 0, 0, 0, (⟨#[]⟩ : ByteArray), 0⟩ : GEntry) a0 x_61).Size) (by subst hO; rfl) (by intro r79; conv => lhs; cbv) ?_
            intro r79
            refine Le.callC 0 (fi := fi80) rfl (impl_varText.le O hO n0 (O.get (⟨(⟨#[]⟩ : ByteArray), 0, 0, 0, 0, (⟨#[]⟩ : ByteArray), 0⟩ : GEntry) a0 x_61).Group) (by subst hO; rfl) (by intro r80; conv => lhs; cbv) ?_
            intro r80
            refine Le.guardP 0 (by subst hO; rfl) (by conv => lhs; cbv) ?_
            refine Le.guardP 0 (by subst hO; rfl) (by conv => lhs; cbv) ?_
            exact Le.again (ih0 n0 (by omega) ((O.scat (O.scat (O.scat x_60 (O.scat r70 r71)) (O.scat (O.scat r76 r77) r78)) (O.scat r79 r80)), (O.wrap .i64 (O.add x_61 1)), (O.get (⟨(⟨#[]⟩ : ByteArray), 0, 0, 0, 0, (⟨#[]⟩ : ByteArray), 0⟩ : GEntry) a0 x_61).Path, (O.get (⟨(⟨#[]⟩ : ByteArray), 0, 0, 0, 0, (⟨#[]⟩ : ByteArray), 0⟩ : GEntry) a0 x_61).Kind, (O.get (⟨(⟨#[]⟩ : ByteArray), 0, 0, 0, 0, (⟨#[]⟩ : ByteArray), 0⟩ : GEntry) a0 x_61).Mode, (O.get (⟨(⟨#[]⟩ : ByteArray), 0, 0, 0, 0, (⟨#[]⟩ : ByteArray), 0⟩ : GEntry) a0 x_61).Time, (O.get (⟨(⟨#[]⟩ : ByteArray), 0, 0, 0, 0, (⟨#[]⟩ : ByteArray), 0⟩ : GEntry) a0 x_61).Size, (O.get (⟨(⟨#[]⟩ : ByteArray), 0, 0, 0, 0, (⟨#[]⟩ : ByteArray), 0⟩ : GEntry) a0 x_61).Target, (O.get (⟨(⟨#[]⟩ : ByteArray), 0, 0, 0, 0, (⟨#[]⟩ : ByteArray), 0⟩ : GEntry) a0 x_61).Group)) (by subst hO; rfl) rfl
          · refine Le.condP 0 0 (by subst hO; rfl) (by conv => lhs; cbv) (by conv => lhs; cbv) ?_ ?_
            · refine Le.callC 0 (fi := fi82) rfl (impl_putText.le O hO n0 (O.get (⟨(⟨#[]⟩ : ByteArray), 0, 0, 0, 0, (⟨#[]⟩ : ByteArray), 0⟩ : GEntry) a0 x_61).Target) (by subst hO; rfl) (by intro r81; conv => lhs; cbv) ?_
              intro r81
              refine Le.guardP 0 (by subst hO; rfl) (by conv => lhs; cbv) ?_
              exact Le.again (ih0 n0 (by omega) ((O.scat (O.scat (O.scat x_60 (O.scat r70 r71)) (O.scat (O.scat r76 r77) r78)) r81), (O.wrap .i64 (O.add x_61 1)), (O.get (⟨(⟨#[]⟩ : ByteArray), 0, 0, 0, 0, (⟨#[]⟩ : ByteArray), 0⟩ : GEntry) a0 x_61).Path, (O.get (⟨(⟨#[]⟩ : ByteArray), 0, 0, 0, 0, (⟨#[]⟩ : ByteArray), 0⟩ : GEntry) a0 x_61).Kind, (O.get (⟨(⟨#[]⟩ : ByteArray), 0, 0, 0, 0, (⟨#[]⟩ : ByteArray), 0⟩ : GEntry) a0 x_61).Mode, (O.get (⟨(⟨#[]⟩ : ByteArray), 0, 0, 0, 0, (⟨#[]⟩ : ByteArray), 0⟩ : GEntry) a0 x_61).Time, (O.get (⟨(⟨#[]⟩ : ByteArray), 0, 0, 0, 0, (⟨#[]⟩ : ByteArray), 0⟩ : GEntry) a0 x_61).Size, (O.get (⟨(⟨#[]⟩ : ByteArray), 0, 0, 0, 0, (⟨#[]⟩ : ByteArray), 0⟩ : GEntry) a0 x_61).Target, (O.get (⟨(⟨#[]⟩ : ByteArray), 0, 0, 0, 0, (⟨#[]⟩ : ByteArray), 0⟩ : GEntry) a0 x_61).Group)) (by subst hO; rfl) rfl
            · exact Le.again (ih0 n0 (by omega) ((O.scat (O.scat x_60 (O.scat r70 r71)) (O.scat (O.scat r76 r77) r78)), (O.wrap .i64 (O.add x_61 1)), (O.get (⟨(⟨#[]⟩ : ByteArray), 0, 0, 0, 0, (⟨#[]⟩ : ByteArray), 0⟩ : GEntry) a0 x_61).Path, (O.get (⟨(⟨#[]⟩ : ByteArray), 0, 0, 0, 0, (⟨#[]⟩ : ByteArray), 0⟩ : GEntry) a0 x_61).Kind, (O.get (⟨(⟨#[]⟩ : ByteArray), 0, 0, 0, 0, (⟨#[]⟩ : ByteArray), 0⟩ : GEntry) a0 x_61).Mode, (O.get (⟨(⟨#[]⟩ : ByteArray), 0, 0, 0, 0, (⟨#[]⟩ : ByteArray), 0⟩ : GEntry) a0 x_61).Time, (O.get (⟨(⟨#[]⟩ : ByteArray), 0, 0, 0, 0, (⟨#[]⟩ : ByteArray), 0⟩ : GEntry) a0 x_61).Size, (O.get (⟨(⟨#[]⟩ : ByteArray), 0, 0, 0, 0, (⟨#[]⟩ : ByteArray), 0⟩ : GEntry) a0 x_61).Target, (O.get (⟨(⟨#[]⟩ : ByteArray), 0, 0, 0, 0, (⟨#[]⟩ : ByteArray), 0⟩ : GEntry) a0 x_61).Group)) (by subst hO; rfl) rfl
      · refine Le.callC 0 (fi := fi80) rfl (impl_varText.le O hO n0 (O.get (⟨(⟨#[]⟩ : ByteArray), 0, 0, 0, 0, (⟨#[]⟩ : ByteArray), 0⟩ : GEntry) a0 x_61).Kind) (by subst hO; rfl) (by intro r82; conv => lhs; cbv) ?_
        intro r82
        refine Le.callC 0 (fi := fi80) rfl (impl_varText.le O hO n0 (O.get (⟨(⟨#[]⟩ : ByteArray), 0, 0, 0, 0, (⟨#[]⟩ : ByteArray), 0⟩ : GEntry) a0 x_61).Mode) (by subst hO; rfl) (by intro r83; conv => lhs; cbv) ?_
        intro r83
        refine Le.guardP 0 (by subst hO; rfl) (by conv => lhs; cbv) ?_
        refine Le.callC 0 (fi := fi80) rfl (impl_varText.le O hO n0 (O.get (⟨(⟨#[]⟩ : ByteArray), 0, 0, 0, 0, (⟨#[]⟩ : ByteArray), 0⟩ : GEntry) a0 x_61).Time) (by subst hO; rfl) (by intro r84; conv => lhs; cbv) ?_
        intro r84
        refine Le.guardP 0 (by subst hO; rfl) (by conv => lhs; cbv) ?_
        refine Le.guardP 0 (by subst hO; rfl) (by conv => lhs; cbv) ?_
        refine Le.condP 0 0 (by subst hO; rfl) (by conv => lhs; cbv) (by conv => lhs; cbv) ?_ ?_
        · refine Le.callC 0 (fi := fi80) rfl (impl_varText.le O hO n0 (O.get (⟨(⟨#[]⟩ : ByteArray), 0, 0, 0, 0, (⟨#[]⟩ : ByteArray), 0⟩ : GEntry) a0 x_61).Size) (by subst hO; rfl) (by intro r85; conv => lhs; cbv) ?_
          intro r85
          refine Le.callC 0 (fi := fi80) rfl (impl_varText.le O hO n0 (O.get (⟨(⟨#[]⟩ : ByteArray), 0, 0, 0, 0, (⟨#[]⟩ : ByteArray), 0⟩ : GEntry) a0 x_61).Group) (by subst hO; rfl) (by intro r86; conv => lhs; cbv) ?_
          intro r86
          refine Le.guardP 0 (by subst hO; rfl) (by conv => lhs; cbv) ?_
          refine Le.guardP 0 (by subst hO; rfl) (by conv => lhs; cbv) ?_
          exact Le.again (ih0 n0 (by omega) ((O.scat (O.scat (O.scat x_60 (O.scat r70 r71)) (O.scat (O.scat r82 r83) r84)) (O.scat r85 r86)), (O.wrap .i64 (O.add x_61 1)), (O.get (⟨(⟨#[]⟩ : ByteArray), 0, 0, 0, 0, (⟨#[]⟩ : ByteArray), 0⟩ : GEntry) a0 x_61).Path, (O.get (⟨(⟨#[]⟩ : ByteArray), 0, 0, 0, 0, (⟨#[]⟩ : ByteArray), 0⟩ : GEntry) a0 x_61).Kind, (O.get (⟨(⟨#[]⟩ : ByteArray), 0, 0, 0, 0, (⟨#[]⟩ : ByteArray), 0⟩ : GEntry) a0 x_61).Mode, (O.get (⟨(⟨#[]⟩ : ByteArray), 0, 0, 0, 0, (⟨#[]⟩ : ByteArray), 0⟩ : GEntry) a0 x_61).Time, (O.get (⟨(⟨#[]⟩ : ByteArray), 0, 0, 0, 0, (⟨#[]⟩ : ByteArray), 0⟩ : GEntry) a0 x_61).Size, (O.get (⟨(⟨#[]⟩ : ByteArray), 0, 0, 0, 0, (⟨#[]⟩ : ByteArray), 0⟩ : GEntry) a0 x_61).Target, (O.get (⟨(⟨#[]⟩ : ByteArray), 0, 0, 0, 0, (⟨#[]⟩ : ByteArray), 0⟩ : GEntry) a0 x_61).Group)) (by subst hO; rfl) rfl
        · refine Le.condP 0 0 (by subst hO; rfl) (by conv => lhs; cbv) (by conv => lhs; cbv) ?_ ?_
          · refine Le.callC 0 (fi := fi82) rfl (impl_putText.le O hO n0 (O.get (⟨(⟨#[]⟩ : ByteArray), 0, 0, 0, 0, (⟨#[]⟩ : ByteArray), 0⟩ : GEntry) a0 x_61).Target) (by subst hO; rfl) (by intro r87; conv => lhs; cbv) ?_
            intro r87
            refine Le.guardP 0 (by subst hO; rfl) (by conv => lhs; cbv) ?_
            exact Le.again (ih0 n0 (by omega) ((O.scat (O.scat (O.scat x_60 (O.scat r70 r71)) (O.scat (O.scat r82 r83) r84)) r87), (O.wrap .i64 (O.add x_61 1)), (O.get (⟨(⟨#[]⟩ : ByteArray), 0, 0, 0, 0, (⟨#[]⟩ : ByteArray), 0⟩ : GEntry) a0 x_61).Path, (O.get (⟨(⟨#[]⟩ : ByteArray), 0, 0, 0, 0, (⟨#[]⟩ : ByteArray), 0⟩ : GEntry) a0 x_61).Kind, (O.get (⟨(⟨#[]⟩ : ByteArray), 0, 0, 0, 0, (⟨#[]⟩ : ByteArray), 0⟩ : GEntry) a0 x_61).Mode, (O.get (⟨(⟨#[]⟩ : ByteArray), 0, 0, 0, 0, (⟨#[]⟩ : ByteArray), 0⟩ : GEntry) a0 x_61).Time, (O.get (⟨(⟨#[]⟩ : ByteArray), 0, 0, 0, 0, (⟨#[]⟩ : ByteArray), 0⟩ : GEntry) a0 x_61).Size, (O.get (⟨(⟨#[]⟩ : ByteArray), 0, 0, 0, 0, (⟨#[]⟩ : ByteArray), 0⟩ : GEntry) a0 x_61).Target, (O.get (⟨(⟨#[]⟩ : ByteArray), 0, 0, 0, 0, (⟨#[]⟩ : ByteArray), 0⟩ : GEntry) a0 x_61).Group)) (by subst hO; rfl) rfl
          · exact Le.again (ih0 n0 (by omega) ((O.scat (O.scat x_60 (O.scat r70 r71)) (O.scat (O.scat r82 r83) r84)), (O.wrap .i64 (O.add x_61 1)), (O.get (⟨(⟨#[]⟩ : ByteArray), 0, 0, 0, 0, (⟨#[]⟩ : ByteArray), 0⟩ : GEntry) a0 x_61).Path, (O.get (⟨(⟨#[]⟩ : ByteArray), 0, 0, 0, 0, (⟨#[]⟩ : ByteArray), 0⟩ : GEntry) a0 x_61).Kind, (O.get (⟨(⟨#[]⟩ : ByteArray), 0, 0, 0, 0, (⟨#[]⟩ : ByteArray), 0⟩ : GEntry) a0 x_61).Mode, (O.get (⟨(⟨#[]⟩ : ByteArray), 0, 0, 0, 0, (⟨#[]⟩ : ByteArray), 0⟩ : GEntry) a0 x_61).Time, (O.get (⟨(⟨#[]⟩ : ByteArray), 0, 0, 0, 0, (⟨#[]⟩ : ByteArray), 0⟩ : GEntry) a0 x_61).Size, (O.get (⟨(⟨#[]⟩ : ByteArray), 0, 0, 0, 0, (⟨#[]⟩ : ByteArray), 0⟩ : GEntry) a0 x_61).Target, (O.get (⟨(⟨#[]⟩ : ByteArray), 0, 0, 0, 0, (⟨#[]⟩ : ByteArray), 0⟩ : GEntry) a0 x_61).Group)) (by subst hO; rfl) rfl
    · refine Le.callC 0 (fi := fi80) rfl (impl_varText.le O hO n0 (O.get (⟨(⟨#[]⟩ : ByteArray), 0, 0, 0, 0, (⟨#[]⟩ : ByteArray), 0⟩ : GEntry) a0 x_61).Kind) (by subst hO; rfl) (by intro r88; conv => lhs; cbv) ?_
      intro r88
      refine Le.callC 0 (fi := fi80) rfl (impl_varText.le O hO n0 (O.get (⟨(⟨#[]⟩ : ByteArray), 0, 0, 0, 0, (⟨#[]⟩ : ByteArray), 0⟩ : GEntry) a0 x_61).Mode) (by subst hO; rfl) (by intro r89; conv => lhs; cbv) ?_
      intro r89
      refine Le.guardP 0 (by subst hO; rfl) (by conv => lhs; cbv) ?_
      refine Le.callC 0 (fi := fi80) rfl (impl_varText.le O hO n0 (O.get (⟨(⟨#[]⟩ : ByteArray), 0, 0, 0, 0, (⟨#[]⟩ : ByteArray), 0⟩ : GEntry) a0 x_61).Time) (by subst hO; rfl) (by intro r90; conv => lhs; cbv) ?_
      intro r90
      refine Le.guardP 0 (by subst hO; rfl) (by conv => lhs; cbv) ?_
      refine Le.guardP 0 (by subst hO; rfl) (by conv => lhs; cbv) ?_
      refine Le.condP 0 0 (by subst hO; rfl) (by conv => lhs; cbv) (by conv => lhs; cbv) ?_ ?_
      · refine Le.callC 0 (fi := fi80) rfl (impl_varText.le O hO n0 (O.get (⟨(⟨#[]⟩ : ByteArray), 0, 0, 0, 0, (⟨#[]⟩ : ByteArray), 0⟩ : GEntry) a0 x_61).Size) (by subst hO; rfl) (by intro r91; conv => lhs; cbv) ?_
        intro r91
        refine Le.callC 0 (fi := fi80) rfl (impl_varText.le O hO n0 (O.get (⟨(⟨#[]⟩ : ByteArray), 0, 0, 0, 0, (⟨#[]⟩ : ByteArray), 0⟩ : GEntry) a0 x_61).Group) (by subst hO; rfl) (by intro r92; conv => lhs; cbv) ?_
        intro r92
        refine Le.guardP 0 (by subst hO; rfl) (by conv => lhs; cbv) ?_
        refine Le.guardP 0 (by subst hO; rfl) (by conv => lhs; cbv) ?_
        exact Le.again (ih0 n0 (by omega) ((O.scat (O.scat (O.scat x_60 (O.scat r70 r71)) (O.scat (O.scat r88 r89) r90)) (O.scat r91 r92)), (O.wrap .i64 (O.add x_61 1)), (O.get (⟨(⟨#[]⟩ : ByteArray), 0, 0, 0, 0, (⟨#[]⟩ : ByteArray), 0⟩ : GEntry) a0 x_61).Path, (O.get (⟨(⟨#[]⟩ : ByteArray), 0, 0, 0, 0, (⟨#[]⟩ : ByteArray), 0⟩ : GEntry) a0 x_61).Kind, (O.get (⟨(⟨#[]⟩ : ByteArray), 0, 0, 0, 0, (⟨#[]⟩ : ByteArray), 0⟩ : GEntry) a0 x_61).Mode, (O.get (⟨(⟨#[]⟩ : ByteArray), 0, 0, 0, 0, (⟨#[]⟩ : ByteArray), 0⟩ : GEntry) a0 x_61).Time, (O.get (⟨(⟨#[]⟩ : ByteArray), 0, 0, 0, 0, (⟨#[]⟩ : ByteArray), 0⟩ : GEntry) a0 x_61).Size, (O.get (⟨(⟨#[]⟩ : ByteArray), 0, 0, 0, 0, (⟨#[]⟩ : ByteArray), 0⟩ : GEntry) a0 x_61).Target, (O.get (⟨(⟨#[]⟩ : ByteArray), 0, 0, 0, 0, (⟨#[]⟩ : ByteArray), 0⟩ : GEntry) a0 x_61).Group)) (by subst hO; rfl) rfl
      · refine Le.condP 0 0 (by subst hO; rfl) (by conv => lhs; cbv) (by conv => lhs; cbv) ?_ ?_
        · refine Le.callC 0 (fi := fi82) rfl (impl_putText.le O hO n0 (O.get (⟨(⟨#[]⟩ : ByteArray), 0, 0, 0, 0, (⟨#[]⟩ : ByteArray), 0⟩ : GEntry) a0 x_61).Target) (by subst hO; rfl) (by intro r93; conv => lhs; cbv) ?_
          intro r93
          refine Le.guardP 0 (by subst hO; rfl) (by conv => lhs; cbv) ?_
          exact Le.again (ih0 n0 (by omega) ((O.scat (O.scat (O.scat x_60 (O.scat r70 r71)) (O.scat (O.scat r88 r89) r90)) r93), (O.wrap .i64 (O.add x_61 1)), (O.get (⟨(⟨#[]⟩ : ByteArray), 0, 0, 0, 0, (⟨#[]⟩ : ByteArray), 0⟩ : GEntry) a0 x_61).Path, (O.get (⟨(⟨#[]⟩ : ByteArray), 0, 0, 0, 0, (⟨#[]⟩ : ByteArray), 0⟩ : GEntry) a0 x_61).Kind, (O.get (⟨(⟨#[]⟩ : ByteArray), 0, 0, 0, 0, (⟨#[]⟩ : ByteArray), 0⟩ : GEntry) a0 x_61).Mode, (O.get (⟨(⟨#[]⟩ : ByteArray), 0, 0, 0, 0, (⟨#[]⟩ : ByteArray), 0⟩ : GEntry) a0 x_61).Time, (O.get (⟨(⟨#[]⟩ : ByteArray), 0, 0, 0, 0, (⟨#[]⟩ : ByteArray), 0⟩ : GEntry) a0 x_61).Size, (O.get (⟨(⟨#[]⟩ : ByteArray), 0, 0, 0, 0, (⟨#[]⟩ : ByteArray), 0⟩ : GEntry) a0 x_61).Target, (O.get (⟨(⟨#[]⟩ : ByteArray), 0, 0, 0, 0, (⟨#[]⟩ : ByteArray), 0⟩ : GEntry) a0 x_61).Group)) (by subst hO; rfl) rfl
        · exact Le.again (ih0 n0 (by omega) ((O.scat (O.scat x_60 (O.scat r70 r71)) (O.scat (O.scat r88 r89) r90)), (O.wrap .i64 (O.add x_61 1)), (O.get (⟨(⟨#[]⟩ : ByteArray), 0, 0, 0, 0, (⟨#[]⟩ : ByteArray), 0⟩ : GEntry) a0 x_61).Path, (O.get (⟨(⟨#[]⟩ : ByteArray), 0, 0, 0, 0, (⟨#[]⟩ : ByteArray), 0⟩ : GEntry) a0 x_61).Kind, (O.get (⟨(⟨#[]⟩ : ByteArray), 0, 0, 0, 0, (⟨#[]⟩ : ByteArray), 0⟩ : GEntry) a0 x_61).Mode, (O.get (⟨(⟨#[]⟩ : ByteArray), 0, 0, 0, 0, (⟨#[]⟩ : ByteArray), 0⟩ : GEntry) a0 x_61).Time, (O.get (⟨(⟨#[]⟩ : ByteArray), 0, 0, 0, 0, (⟨#[]⟩ : ByteArray), 0⟩ : GEntry) a0 x_61).Size, (O.get (⟨(⟨#[]⟩ : ByteArray), 0, 0, 0, 0, (⟨#[]⟩ : ByteArray), 0⟩ : GEntry) a0 x_61).Target, (O.get (⟨(⟨#[]⟩ : ByteArray), 0, 0, 0, 0, (⟨#[]⟩ : ByteArray), 0⟩ : GEntry) a0 x_61).Group)) (by subst hO; rfl) rfl
  · exact Le.ret2 (by subst hO; rfl)
/-! ### loop.example/g00100/impl.GetEntries -/
def impl_GetEntries.e (r : List GEntry × Bool) : Res tab := (([], []), .tup [(false, [.own 42 r.1]), (false, [.lit (.bool r.2)])])
def impl_GetEntries.l0 : Nat → (List Int) → (Int × GReader) → (List GEntry) → Int → ByteArray → Int → Int → Int → Int → ByteArray → Int → ByteArray → Bool → Option (List GEntry × Bool)
  | 0, _, _, _, _, _, _, _, _, _, _, _, _, _ => none
  | k + 1, a0, r0, x_14, x_15, b_16, b_17, b_18, b_19, b_20, b_21, b_22, b_23, b_24 => (if x_15 < r0.1 then (if x_15 ≤ 200 then (if b_24 = true then (if b_24 = true then (some (([] : List GEntry), false)) else ((impl_EntriesOk.f k x_14).bind fun r26 => (if r26 = true then ((impl_entriesText.f k x_14).bind fun r27 => (if r27 = (std.strOf a0) then (some (x_14, true)) else (some (([] : List GEntry), false)))) else (some (([] : List GEntry), false))))) else ((impl_reader_entry.f k (⟨b_23, b_24⟩ : GReader) (⟨b_16, b_17, b_18, b_19, b_20, b_21, b_22⟩ : GEntry)).bind fun r25 => (if (((x_14.length : Int) + ([r25.1].length : Int)) * 72) ≤ 140737488351232 then (impl_GetEntries.l0 k a0 r0 (x_14 ++ [r25.1]) (IntKind.wrap .i64 (x_15 + 1)) r25.1.Path r25.1.Kind r25.1.Mode r25.1.Time r25.1.Size r25.1.Target r25.1.Group r25.2.Text r25.2.Bad) else none))) else (if b_24 = true then (some (([] : List GEntry), false)) else ((impl_EntriesOk.f k x_14).bind fun r28 => (if r28 = true then ((impl_entriesText.f k x_14).bind fun r29 => (if r29 = (std.strOf a0) then (some (x_14, true)) else (some (([] : List GEntry), false)))) else (some (([] : List GEntry), false)))))) else (if b_24 = true then (some (([] : List GEntry), false)) else ((impl_EntriesOk.f k x_14).bind fun r30 => (if r30 = true then ((impl_entriesText.f k x_14).bind fun r31 => (if r31 = (std.strOf a0) then (some (x_14, true)) else (some (([] : List GEntry), false)))) else (some (([] : List GEntry), false))))))
def impl_GetEntries.f (k : Nat) (a0 : List Int) : Option (List GEntry × Bool) := ((impl_reader_number.f k (⟨(std.strOf a0), false⟩ : GReader)).bind fun r0 => (impl_GetEntries.l0 k a0 r0 ([] : List GEntry) 0 (⟨#[]⟩ : ByteArray) 0 0 0 0 (⟨#[]⟩ : ByteArray) 0 r0.2.Text r0.2.Bad))
theorem impl_GetEntries.le (O : Prim) (hO : O = std) (k : Nat) (a0 : List Int) : Le F O M fi14.kills impl_GetEntries.e (impl_GetEntries.f k a0) (den O M fi14.kills fi14.fn fi14.body (tab.gives 14) (M 14) [.one (.imm 5 a0)] : Tr tab) := by
  refine Le.eqS 0 (by conv => lhs; cbv) ?_
  unfold impl_GetEntries.f
  refine Le.callC 0 (fi := fi41) rfl (impl_reader_number.le O hO k (⟨(O.strOf a0), false⟩ : GReader)) (by subst hO; rfl) (by intro r0; conv => lhs; cbv) ?_
  intro r0
  refine Le.loopS (fun (n : Nat) (v : List GEntry × Int × ByteArray × Int × Int × Int × Int × ByteArray × Int × ByteArray × Bool) => impl_GetEntries.l0 n a0 r0 v.1 v.2.1 v.2.2.1 v.2.2.2.1 v.2.2.2.2.1 v.2.2.2.2.2.1 v.2.2.2.2.2.2.1 v.2.2.2.2.2.2.2.1 v.2.2.2.2.2.2.2.2.1 v.2.2.2.2.2.2.2.2.2.1 v.2.2.2.2.2.2.2.2.2.2) (fun (v : List GEntry × Int × ByteArray × Int × Int × Int × Int × ByteArray × Int × ByteArray × Bool) => match v with | (x_14, x_15, b_16, b_17, b_18, b_19, b_20, b_21, b_22, b_23, b_24) => (⟨[], [.one (.imm 5 a0), D_, D_, D_, .one (.ptr ⟨27, 0, []⟩), .one (.lit (.int .i64 r0.1)), .one (.own 42 x_14), .one (.ptr ⟨17, 0, []⟩), .one (.lit (.int .i64 x_15)), D_, D_, D_, D_, D_, D_, D_, D_, D_, D_, D_, D_, D_, D_, D_, D_, D_, D_, D_, D_, D_, D_, D_, D_, D_, D_, D_, D_, D_, D_, D_, D_, D_, D_, D_, D_, D_, D_, D_, D_, D_, D_, D_, D_, D_, D_, D_], [[], [], [], [], [], [], [], [.lit (.string b_16), .lit (.int .i64 b_17), .lit (.int .i64 b_18), .lit (.int .i64 b_19), .lit (.int .i64 b_20), .lit (.string b_21), .lit (.int .i64 b_22)], [], [], [], [], [.lit (.string b_23), .lit (.bool b_24)], [], [], [], [], [], [], [], [], [], [], [], [], [], [], [], [], [], [], [], [], [], [], [], [], [], [], [], [], [], [], [], [], [], [], [], [], [], [], [], [], [], [], [], []], []⟩ : S tab)) k (([] : List GEntry), 0, (⟨#[]⟩ : ByteArray), 0, 0, 0, 0, (⟨#[]⟩ : ByteArray), 0, r0.2.Text, r0.2.Bad) (by subst hO; rfl) rfl (fun _ => rfl) ?_
  intro n0 hn0 ih0 v0
  obtain ⟨x_14, x_15, b_16, b_17, b_18, b_19, b_20, b_21, b_22, b_23, b_24⟩ := v0
  refine Le.eqS 0 (by conv => lhs; cbv) ?_
  show Le F O M _ _ (impl_GetEntries.l0 (n0 + 1) a0 r0 x_14 x_15 b_16 b_17 b_18 b_19 b_20 b_21 b_22 b_23 b_24) _
  rw [impl_GetEntries.l0]
  refine Le.condP 2 9 (by subst hO; rfl) (by conv => lhs; cbv) (by conv => lhs; cbv) ?_ ?_
  · refine Le.condP 5 6 (by subst hO; rfl) (by conv => lhs; cbv) (by conv => lhs; cbv) ?_ ?_
    · refine Le.condN 0 0 (by subst hO; exact Bool.decide_eq_true.trans (Bool.not_not _).symm) (by conv => lhs; cbv) (by conv => lhs; cbv) ?_ ?_
      · refine Le.callC 0 (fi := fi42) rfl (impl_reader_entry.le O hO n0 (⟨b_23, b_24⟩ : GReader) (⟨b_16, b_17, b_18, b_19, b_20, b_21, b_22⟩ : GEntry)) (by subst hO; rfl) (by intro r25; conv => lhs; cbv) ?_
        intro r25
        refine Le.guardP 0 (by subst hO; rfl) (by conv => lhs; cbv) ?_
        exact Le.again (ih0 n0 (by omega) ((O.app x_14 [r25.1]), (O.wrap .i64 (O.add x_15 1)), r25.1.Path, r25.1.Kind, r25.1.Mode, r25.1.Time, r25.1.Size, r25.1.Target, r25.1.Group, r25.2.Text, r25.2.Bad)) (by subst hO; rfl) rfl
      · refine Le.condP 10 1 (by subst hO; exact Bool.decide_eq_true) (by conv => lhs; cbv) (by conv => lhs; cbv) ?_ ?_
        · exact Le.ret2 (by subst hO; rfl)
        · refine Le.callC 2 (fi := fi24) rfl (impl_EntriesOk.le O hO n0 x_14) (by subst hO; rfl) (by intro r26; conv => lhs; cbv) ?_
          intro r26
          refine Le.condN 6 3 (by subst hO; exact Bool.decide_eq_true.trans (Bool.not_not _).symm) (by conv => lhs; cbv) (by conv => lhs; cbv) ?_ ?_
          · exact Le.ret2 (by subst hO; rfl)
          · refine Le.callC 2 (fi := fi43) rfl (impl_entriesText.le O hO n0 x_14) (by subst hO; rfl) (by intro r27; conv => lhs; cbv) ?_
            intro r27
            refine Le.condN 0 0 (by subst hO; exact (seq_dec _ _).trans (Bool.not_not _).symm) (by conv => lhs; cbv) (by conv => lhs; cbv) ?_ ?_
            · exact Le.ret2 (by subst hO; rfl)
            · exact Le.ret2 (by subst hO; rfl)
    · refine Le.condP 10 1 (by subst hO; exact Bool.decide_eq_true) (by conv => lhs; cbv) (by conv => lhs; cbv) ?_ ?_
      · exact Le.ret2 (by subst hO; rfl)
      · refine Le.callC 2 (fi := fi24) rfl (impl_EntriesOk.le O hO n0 x_14) (by subst hO; rfl) (by intro r28; conv => lhs; cbv) ?_
        intro r28
        refine Le.condN 6 3 (by subst hO; exact Bool.decide_eq_true.trans (Bool.not_not _).symm) (by conv => lhs; cbv) (by conv => lhs; cbv) ?_ ?_
        · exact Le.ret2 (by subst hO; rfl)
        · refine Le.callC 2 (fi := fi43) rfl (impl_entriesText.le O hO n0 x_14) (by subst hO; rfl) (by intro r29; conv => lhs; cbv) ?_
          intro r29
          refine Le.condN 0 0 (by subst hO; exact (seq_dec _ _).trans (Bool.not_not _).symm) (by conv => lhs; cbv) (by conv => lhs; cbv) ?_ ?_
          · exact Le.ret2 (by subst hO; rfl)
          · exact Le.ret2 (by subst hO; rfl)
  · refine Le.condP 10 1 (by subst hO; exact Bool.decide_eq_true) (by conv => lhs; cbv) (by conv => lhs; cbv) ?_ ?_
    · exact Le.ret2 (by subst hO; rfl)
    · refine Le.callC 2 (fi := fi24) rfl (impl_EntriesOk.le O hO n0 x_14) (by subst hO; rfl) (by intro r30; conv => lhs; cbv) ?_
      intro r30
      refine Le.condN 6 3 (by subst hO; exact Bool.decide_eq_true.trans (Bool.not_not _).symm) (by conv => lhs; cbv) (by conv => lhs; cbv) ?_ ?_
      · exact Le.ret2 (by subst hO; rfl)
      · refine Le.callC 2 (fi := fi43) rfl (impl_entriesText.le O hO n0 x_14) (by subst hO; rfl) (by intro r31; conv => lhs; cbv) ?_
        intro r31
        refine Le.condN 0 0 (by subst hO; exact (seq_dec _ _).trans (Bool.not_not _).symm) (by conv => lhs; cbv) (by conv => lhs; cbv) ?_ ?_
        · exact Le.ret2 (by subst hO; rfl)
        · exact Le.ret2 (by subst hO; rfl)
/-! ### loop.example/g00100/laws.eqEntry -/
def laws_eqEntry.e (r : Bool) : Res tab := (([], []), .one (.lit (.bool r)))
def laws_eqEntry.f (a0 : GEntry) (a1 : GEntry) : Option Bool := (if a0.Path = a1.Path then (if a0.Kind = a1.Kind then (if a0.Mode = a1.Mode then (if a0.Time = a1.Time then (if a0.Size = a1.Size then (if a0.Target = a1.Target then (if a0.Group = a1.Group then (some true) else (some false)) else (some false)) else (some false)) else (some false)) else (some false)) else (some false)) else (some false))
theorem laws_eqEntry.le (O : Prim) (hO : O = std) (a0 : GEntry) (a1 : GEntry) : Le F O M fi44.kills laws_eqEntry.e (laws_eqEntry.f a0 a1) (den O M fi44.kills fi44.fn fi44.body (tab.gives 44) (M 44) [.agg [.lit (.string a0.Path), .lit (.int .i64 a0.Kind), .lit (.int .i64 a0.Mode), .lit (.int .i64 a0.Time), .lit (.int .i64 a0.Size), .lit (.string a0.Target), .lit (.int .i64 a0.Group)], .agg [.lit (.string a1.Path), .lit (.int .i64 a1.Kind), .lit (.int .i64 a1.Mode), .lit (.int .i64 a1.Time), .lit (.int .i64 a1.Size), .lit (.string a1.Target), .lit (.int .i64 a1.Group)]] : Tr tab) := by
  refine Le.eqS 0 (by conv => lhs; cbv) ?_
  unfold laws_eqEntry.f
  refine Le.condN 0 0 (by subst hO; exact (seq_dec _ _).trans (Bool.not_not _).symm) (by conv => lhs; cbv) (by conv => lhs; cbv) ?_ ?_
  · exact Le.ret2 (by subst hO; rfl)
  · refine Le.condN 0 0 (by subst hO; exact (Bool.not_not _).symm) (by conv => lhs; cbv) (by conv => lhs; cbv) ?_ ?_
    · exact Le.ret2 (by subst hO; rfl)
    · refine Le.condN 0 0 (by subst hO; exact (Bool.not_not _).symm) (by conv => lhs; cbv) (by conv => lhs; cbv) ?_ ?_
      · exact Le.ret2 (by subst hO; rfl)
      · refine Le.condN 0 0 (by subst hO; exact (Bool.not_not _).symm) (by conv => lhs; cbv) (by conv => lhs; cbv) ?_ ?_
        · exact Le.ret2 (by subst hO; rfl)
        · refine Le.condN 0 0 (by subst hO; exact (Bool.not_not _).symm) (by conv => lhs; cbv) (by conv => lhs; cbv) ?_ ?_
          · exact Le.ret2 (by subst hO; rfl)
          · refine Le.condN 0 0 (by subst hO; exact (seq_dec _ _).trans (Bool.not_not _).symm) (by conv => lhs; cbv) (by conv => lhs; cbv) ?_ ?_
            · exact Le.ret2 (by subst hO; rfl)
            · refine Le.condN 0 0 (by subst hO; exact (Bool.not_not _).symm) (by conv => lhs; cbv) (by conv => lhs; cbv) ?_ ?_
              · exact Le.ret2 (by subst hO; rfl)
              · exact Le.ret2 (by subst hO; rfl)
/-! ### loop.example/g00100/laws.eqEntryS -/
def laws_eqEntryS.e (r : Bool) : Res tab := (([], []), .one (.lit (.bool r)))
def laws_eqEntryS.l0 : Nat → (List GEntry) → (List GEntry) → Int → Option Bool
  | 0, _, _, _ => none
  | k + 1, a0, a1, x_3 => (if x_3 < (a0.length : Int) then (if 0 ≤ x_3 then (if x_3 < (a0.length : Int) then (if 0 ≤ x_3 then (if x_3 < (a1.length : Int) then ((laws_eqEntry.f (a0.getD (Int.toNat x_3) (⟨(⟨#[]⟩ : ByteArray), 0, 0, 0, 0, (⟨#[]⟩ : ByteArray), 0⟩ : GEntry)) (a1.getD (Int.toNat x_3) (⟨(⟨#[]⟩ : ByteArray), 0, 0, 0, 0, (⟨#[]⟩ : ByteArray), 0⟩ : GEntry))).bind fun r4 => (if r4 = true then (laws_eqEntryS.l0 k a0 a1 (IntKind.wrap .i64 (x_3 + 1))) else (some false))) else none) else none) else none) else none) else (some true))
def laws_eqEntryS.f (k : Nat) (a0 : List GEntry) (a1 : List GEntry) : Option Bool := (if (a0.length : Int) = (a1.length : Int) then (laws_eqEntryS.l0 k a0 a1 0) else (some false))
theorem laws_eqEntryS.le (O : Prim) (hO : O = std) (k : Nat) (a0 : List GEntry) (a1 : List GEntry) : Le F O M fi15.kills laws_eqEntryS.e (laws_eqEntryS.f k a0 a1) (den O M fi15.kills fi15.fn fi15.body (tab.gives 15) (M 15) [.one (.imm 42 a0), .one (.imm 42 a1)] : Tr tab) := by
  refine Le.eqS 0 (by conv => lhs; cbv) ?_
  unfold laws_eqEntryS.f
  refine Le.condN 0 0 (by subst hO; exact (Bool.not_not _).symm) (by conv => lhs; cbv) (by conv => lhs; cbv) ?_ ?_
  · exact Le.ret2 (by subst hO; rfl)
  · refine Le.loopS (fun (n : Nat) (v : Int) => laws_eqEntryS.l0 n a0 a1 v) (fun (x_3 : Int) => (⟨[], [.one (.imm 42 a0), .one (.imm 42 a1), D_, D_, D_, .one (.lit (.int .i64 x_3)), D_, D_, D_, D_, D_, D_, D_, D_, D_, D_, D_, D_, D_, D_, D_, D_, D_, D_, D_, D_, D_], [[], [], [], [], [], [], [], [], [], [], [], [], [], [], [], [], [], [], [], [], [], [], [], [], [], [], [], [], []], []⟩ : S tab)) k 0 (by subst hO; rfl) rfl (fun _ => rfl) ?_
    intro n0 hn0 ih0 x_3
    refine Le.eqS 0 (by conv => lhs; cbv) ?_
    show Le F O M _ _ (laws_eqEntryS.l0 (n0 + 1) a0 a1 x_3) _
    rw [laws_eqEntryS.l0]
    refine Le.condP 0 0 (by subst hO; rfl) (by conv => lhs; cbv) (by conv => lhs; cbv) ?_ ?_
    · refine Le.guardP 0 (by subst hO; rfl) (by conv => lhs; cbv) ?_
      refine Le.guardP 0 (by subst hO; rfl) (by conv => lhs; cbv) ?_
      refine Le.guardP 0 (by subst hO; rfl) (by conv => lhs; cbv) ?_
      refine Le.guardP 0 (by subst hO; rfl) (by conv => lhs; cbv) ?_
      refine Le.callC 0 (fi := fi44) rfl (laws_eqEntry.le O hO (O.get (⟨(⟨#[]⟩ : ByteArray), 0, 0, 0, 0, (⟨#[]⟩ : ByteArray), 0⟩ : GEntry) a0 x_3) (O.get (⟨(⟨#[]⟩ : ByteArray), 0, 0, 0, 0, (⟨#[]⟩ : ByteArray), 0⟩ : GEntry) a1 x_3)) (by subst hO; rfl) (by intro r4; conv => lhs; cbv) ?_
      intro r4
      refine Le.condN 0 0 (by subst hO; exact Bool.decide_eq_true.trans (Bool.not_not _).symm) (by conv => lhs; cbv) (by conv => lhs; cbv) ?_ ?_
      · exact Le.ret2 (by subst hO; rfl)
      · exact Le.again (ih0 n0 (by omega) (O.wrap .i64 (O.add x_3 1))) (by subst hO; rfl) rfl
    · exact Le.ret2 (by subst hO; rfl)
/-! ### loop.example/g00100/laws.eqByteS -/
def laws_eqByteS.e (r : Bool) : Res tab := (([], []), .one (.lit (.bool r)))
def laws_eqByteS.l0 : Nat → (List Int) → (List Int) → Int → Option Bool
  | 0, _, _, _ => none
  | k + 1, a0, a1, x_1 => (if x_1 < (a0.length : Int) then (if 0 ≤ x_1 then (if x_1 < (a0.length : Int) then (if 0 ≤ x_1 then (if x_1 < (a1.length : Int) then (if (a0.getD (Int.toNat x_1) 0) = (a1.getD (Int.toNat x_1) 0) then (laws_eqByteS.l0 k a0 a1 (IntKind.wrap .i64 (x_1 + 1))) else (some false)) else none) else none) else none) else none) else (some true))
def laws_eqByteS.f (k : Nat) (a0 : List Int) (a1 : List Int) : Option Bool := (if (a0.length : Int) = (a1.length : Int) then (laws_eqByteS.l0 k a0 a1 0) else (some false))
theorem laws_eqByteS.le (O : Prim) (hO : O = std) (k : Nat) (a0 : List Int) (a1 : List Int) : Le F O M fi16.kills laws_eqByteS.e (laws_eqByteS.f k a0 a1) (den O M fi16.kills fi16.fn fi16.body (tab.gives 16) (M 16) [.one (.imm 5 a0), .one (.imm 5 a1)] : Tr tab) := by
  refine Le.eqS 0 (by conv => lhs; cbv) ?_
  unfold laws_eqByteS.f
  refine Le.condN 0 0 (by subst hO; exact (Bool.not_not _).symm) (by conv => lhs; cbv) (by conv => lhs; cbv) ?_ ?_
  · exact Le.ret2 (by subst hO; rfl)
  · refine Le.loopS (fun (n : Nat) (v : Int) => laws_eqByteS.l0 n a0 a1 v) (fun (x_1 : Int) => (⟨[], [.one (.imm 5 a0), .one (.imm 5 a1), D_, D_, D_, .one (.lit (.int .i64 x_1)), D_, D_, D_, D_, D_, D_, D_, D_, D_, D_, D_, D_, D_, D_, D_, D_, D_, D_, D_, D_], [[], [], [], [], [], [], [], [], [], [], [], [], [], [], [], [], [], [], [], [], [], [], [], [], [], [], [], []], []⟩ : S tab)) k 0 (by subst hO; rfl) rfl (fun _ => rfl) ?_
    intro n0 hn0 ih0 x_1
    refine Le.eqS 0 (by conv => lhs; cbv) ?_
    show Le F O M _ _ (laws_eqByteS.l0 (n0 + 1) a0 a1 x_1) _
    rw [laws_eqByteS.l0]
    refine Le.condP 0 0 (by subst hO; rfl) (by conv => lhs; cbv) (by conv => lhs; cbv) ?_ ?_
    · refine Le.guardP 0 (by subst hO; rfl) (by conv => lhs; cbv) ?_
      refine Le.guardP 0 (by subst hO; rfl) (by conv => lhs; cbv) ?_
      refine Le.guardP 0 (by subst hO; rfl) (by conv => lhs; cbv) ?_
      refine Le.guardP 0 (by subst hO; rfl) (by conv => lhs; cbv) ?_
      refine Le.condN 0 0 (by subst hO; exact (Bool.not_not _).symm) (by conv => lhs; cbv) (by conv => lhs; cbv) ?_ ?_
      · exact Le.ret2 (by subst hO; rfl)
      · exact Le.again (ih0 n0 (by omega) (O.wrap .i64 (O.add x_1 1))) (by subst hO; rfl) rfl
    · exact Le.ret2 (by subst hO; rfl)
/-! ### loop.example/g00100/laws.markByteS -/
def laws_markByteS.e (r : Int × List Int) : Res tab := (([.own 5 r.2], []), .one (.lit (.int .i64 r.1)))
def laws_markByteS.l0 : Nat → Int → Int → (List Int) → Option (Int × List Int)
  | 0, _, _, _ => none
  | k + 1, x_3, x_4, b_5 => (if x_4 < (b_5.length : Int) then (if 0 ≤ x_4 then (if x_4 < (b_5.length : Int) then (laws_markByteS.l0 k (IntKind.wrap .i64 (x_3 + 1)) (IntKind.wrap .i64 (x_4 + 1)) (b_5.set (Int.toNat x_4) (IntKind.wrap .u8 x_3))) else none) else none) else (some (x_3, b_5)))
def laws_markByteS.f (k : Nat) (a0 : List Int) (a1 : Int) : Option (Int × List Int) := (laws_markByteS.l0 k a1 0 a0)
theorem laws_markByteS.le (O : Prim) (hO : O = std) (k : Nat) (a0 : List Int) (a1 : Int) : Le F O M fi17.kills laws_markByteS.e (laws_markByteS.f k a0 a1) (den O M fi17.kills fi17.fn fi17.body (tab.gives 17) (M 17) [.one (.own 5 a0), .one (.lit (.int .i64 a1))] : Tr tab) := by
  refine Le.eqS 0 (by conv => lhs; cbv) ?_
  unfold laws_markByteS.f
  refine Le.loopS (fun (n : Nat) (v : Int × Int × List Int) => laws_markByteS.l0 n v.1 v.2.1 v.2.2) (fun (v : Int × Int × List Int) => match v with | (x_3, x_4, b_5) => (⟨[], [.one (.at ⟨1, 0, []⟩), .one (.lit (.int .i64 x_3)), D_, D_, D_, .one (.lit (.int .i64 x_4)), D_, D_, D_, D_, D_, D_, D_, D_, D_, D_, D_, D_, D_, D_], [[], [], [], [], [], [], [], [], [], [], [], [], [], [], [], [], [], [], [], [], [], []], [.own 5 b_5]⟩ : S tab)) k (a1, 0, a0) (by subst hO; rfl) rfl (fun _ => rfl) ?_
  intro n0 hn0 ih0 v0
  obtain ⟨x_3, x_4, b_5⟩ := v0
  refine Le.eqS 0 (by conv => lhs; cbv) ?_
  show Le F O M _ _ (laws_markByteS.l0 (n0 + 1) x_3 x_4 b_5) _
  rw [laws_markByteS.l0]
  refine Le.condP 0 0 (by subst hO; rfl) (by conv => lhs; cbv) (by conv => lhs; cbv) ?_ ?_
  · refine Le.guardP 0 (by subst hO; rfl) (by conv => lhs; cbv) ?_
    refine Le.guardP 0 (by subst hO; rfl) (by conv => lhs; cbv) ?_
    exact Le.again (ih0 n0 (by omega) ((O.wrap .i64 (O.add x_3 1)), (O.wrap .i64 (O.add x_4 1)), (O.set b_5 x_4 (O.wrap .u8 x_3)))) (by subst hO; rfl) rfl
  · exact Le.ret2 (by subst hO; rfl)
/-! ### loop.example/g00100/laws.markText -/
def laws_markText.e (r : ByteArray) : Res tab := (([], []), .one (.lit (.string r)))
def laws_markText.l0 : Nat → Int → ByteArray → Option ByteArray
  | 0, _, _ => none
  | k + 1, x_2, x_3 => (if 0 < x_2 then (if 10 = 0 then none else (if (((std.strOf [(IntKind.wrap .u8 (IntKind.wrap .i64 (48 + (Int.tmod x_2 10))))]).size : Int) + (x_3.size : Int)) ≤ 140737488351232 then (if 10 = 0 then none else (laws_markText.l0 k (IntKind.wrap .i64 (Int.tdiv x_2 10)) ((std.strOf [(IntKind.wrap .u8 (IntKind.wrap .i64 (48 + (Int.tmod x_2 10))))]) ++ x_3))) else none)) else (if (((⟨#[109]⟩ : ByteArray).size : Int) + (x_3.size : Int)) ≤ 140737488351232 then (some ((⟨#[109]⟩ : ByteArray) ++ x_3)) else none))
def laws_markText.f (k : Nat) (a0 : Int) : Option ByteArray := (if a0 ≤ 0 then (some (⟨#[109, 48]⟩ : ByteArray)) else (laws_markText.l0 k a0 (⟨#[]⟩ : ByteArray)))
theorem laws_markText.le (O : Prim) (hO : O = std) (k : Nat) (a0 : Int) : Le F O M fi45.kills laws_markText.e (laws_markText.f k a0) (den O M fi45.kills fi45.fn fi45.body (tab.gives 45) (M 45) [.one (.lit (.int .i64 a0))] : Tr tab) := by
  refine Le.eqS 0 (by conv => lhs; cbv) ?_
  unfold laws_markText.f
  refine Le.condP 0 0 (by subst hO; rfl) (by conv => lhs; cbv) (by conv => lhs; cbv) ?_ ?_
  · exact Le.ret2 (by subst hO; rfl)
  · refine Le.loopS (fun (n : Nat) (v : Int × ByteArray) => laws_markText.l0 n v.1 v.2) (fun (v : Int × ByteArray) => match v with | (x_2, x_3) => (⟨[], [.one (.lit (.int .i64 x_2)), D_, D_, .one (.lit (.string x_3)), D_, D_, D_, D_, D_, D_, D_, D_, D_, D_, D_, D_, D_, D_, D_, D_], [[], [], [], [], [], [], [], [], [], [], [], [], [], [], [], [], [], [], [], [], []], []⟩ : S tab)) k (a0, (⟨#[]⟩ : ByteArray)) (by subst hO; rfl) rfl (fun _ => rfl) ?_
    intro n0 hn0 ih0 v0
    obtain ⟨x_2, x_3⟩ := v0
    refine Le.eqS 0 (by conv => lhs; cbv) ?_
    show Le F O M _ _ (laws_markText.l0 (n0 + 1) x_2 x_3) _
    rw [laws_markText.l0]
    refine Le.condP 0 0 (by subst hO; rfl) (by conv => lhs; cbv) (by conv => lhs; cbv) ?_ ?_
    · refine Le.guardN 0 (by subst hO; rfl) (by conv => lhs; cbv) ?_
      refine Le.guardP 0 (by subst hO; rfl) (by conv => lhs; cbv) ?_
      refine Le.guardN 0 (by subst hO; rfl) (by conv => lhs; cbv) ?_
      exact Le.again (ih0 n0 (by omega) ((O.wrap .i64 (O.quo x_2 10)), (O.scat (O.strOf [(O.wrap .u8 (O.wrap .i64 (O.add 48 (O.rem x_2 10))))]) x_3))) (by subst hO; rfl) rfl
    · refine Le.guardP 0 (by subst hO; rfl) (by conv => lhs; cbv) ?_
      exact Le.ret2 (by subst hO; rfl)
/-! ### loop.example/g00100/laws.markEntryS -/
def laws_markEntryS.e (r : Int × List GEntry) : Res tab := (([.own 42 r.2], []), .one (.lit (.int .i64 r.1)))
def laws_markEntryS.l0 : Nat → Int → Int → (List GEntry) → Option (Int × List GEntry)
  | 0, _, _, _ => none
  | k + 1, x_7, x_8, b_9 => (if x_8 < (b_9.length : Int) then ((laws_markText.f k x_7).bind fun r10 => (if 0 ≤ x_8 then (if x_8 < (b_9.length : Int) then (if 0 ≤ x_8 then (if x_8 < ((b_9.modify (Int.toNat x_8) (fun (z : GEntry) => (⟨r10, z.Kind, z.Mode, z.Time, z.Size, z.Target, z.Group⟩ : GEntry))).length : Int) then (if 0 ≤ x_8 then (if x_8 < (((b_9.modify (Int.toNat x_8) (fun (z : GEntry) => (⟨r10, z.Kind, z.Mode, z.Time, z.Size, z.Target, z.Group⟩ : GEntry))).modify (Int.toNat x_8) (fun (z : GEntry) => (⟨z.Path, (IntKind.wrap .i64 (x_7 + 1)), z.Mode, z.Time, z.Size, z.Target, z.Group⟩ : GEntry))).length : Int) then (if 0 ≤ x_8 then (if x_8 < ((((b_9.modify (Int.toNat x_8) (fun (z : GEntry) => (⟨r10, z.Kind, z.Mode, z.Time, z.Size, z.Target, z.Group⟩ : GEntry))).modify (Int.toNat x_8) (fun (z : GEntry) => (⟨z.Path, (IntKind.wrap .i64 (x_7 + 1)), z.Mode, z.Time, z.Size, z.Target, z.Group⟩ : GEntry))).modify (Int.toNat x_8) (fun (z : GEntry) => (⟨z.Path, z.Kind, (IntKind.wrap .i64 ((IntKind.wrap .i64 (x_7 + 1)) + 1)), z.Time, z.Size, z.Target, z.Group⟩ : GEntry))).length : Int) then (if 0 ≤ x_8 then (if x_8 < (((((b_9.modify (Int.toNat x_8) (fun (z : GEntry) => (⟨r10, z.Kind, z.Mode, z.Time, z.Size, z.Target, z.Group⟩ : GEntry))).modify (Int.toNat x_8) (fun (z : GEntry) => (⟨z.Path, (IntKind.wrap .i64 (x_7 + 1)), z.Mode, z.Time, z.Size, z.Target, z.Group⟩ : GEntry))).modify (Int.toNat x_8) (fun (z : GEntry) => (⟨z.Path, z.Kind, (IntKind.wrap .i64 ((IntKind.wrap .i64 (x_7 + 1)) + 1)), z.Time, z.Size, z.Target, z.Group⟩ : GEntry))).modify (Int.toNat x_8) (fun (z : GEntry) => (⟨z.Path, z.Kind, z.Mode, (IntKind.wrap .i64 ((IntKind.wrap .i64 ((IntKind.wrap .i64 (x_7 + 1)) + 1)) + 1)), z.Size, z.Target, z.Group⟩ : GEntry))).length : Int) then ((laws_markText.f k (IntKind.wrap .i64 ((IntKind.wrap .i64 ((IntKind.wrap .i64 ((IntKind.wrap .i64 ((IntKind.wrap .i64 (x_7 + 1)) + 1)) + 1)) + 1)) + 1))).bind fun r11 => (if 0 ≤ x_8 then (if x_8 < ((((((b_9.modify (Int.toNat x_8) (fun (z : GEntry) => (⟨r10, z.Kind, z.Mode, z.Time, z.Size, z.Target, z.Group⟩ : GEntry))).modify (Int.toNat x_8) (fun (z : GEntry) => (⟨z.Path, (IntKind.wrap .i64 (x_7 + 1)), z.Mode, z.Time, z.Size, z.Target, z.Group⟩ : GEntry))).modify (Int.toNat x_8) (fun (z : GEntry) => (⟨z.Path, z.Kind, (IntKind.wrap .i64 ((IntKind.wrap .i64 (x_7 + 1)) + 1)), z.Time, z.Size, z.Target, z.Group⟩ : GEntry))).modify (Int.toNat x_8) (fun (z : GEntry) => (⟨z.Path, z.Kind, z.Mode, (IntKind.wrap .i64 ((IntKind.wrap .i64 ((IntKind.wrap .i64 (x_7 + 1)) + 1)) + 1)), z.Size, z.Target, z.Group⟩ : GEntry))).modify (Int.toNat x_8) (fun (z : GEntry) => (⟨z.Path, z.Kind, z.Mode, z.Time, (IntKind.wrap .i64 ((IntKind.wrap .i64 ((IntKind.wrap .i64 ((IntKind.wrap .i64 (x_7 + 1)) + 1)) + 1)) + 1)), z.Target, z.Group⟩ : GEntry))).length : Int) then (if 0 ≤ x_8 then (if x_8 < (((((((b_9.modify (Int.toNat x_8) (fun (z : GEntry) => (⟨r10, z.Kind, z.Mode, z.Time, z.Size, z.Target, z.Group⟩ : GEntry))).modify (Int.toNat x_8) (fun (z : GEntry) => (⟨z.Path, (IntKind.wrap .i64 (x_7 + 1)), z.Mode, z.Time, z.Size, z.Target, z.Group⟩ : GEntry))).modify (Int.toNat x_8) (fun (z : GEntry) => (⟨z.Path, z.Kind, (IntKind.wrap .i64 ((IntKind.wrap .i64 (x_7 + 1)) + 1)), z.Time, z.Size, z.Target, z.Group⟩ : GEntry))).modify (Int.toNat x_8) (fun (z : GEntry) => (⟨z.Path, z.Kind, z.Mode, (IntKind.wrap .i64 ((IntKind.wrap .i64 ((IntKind.wrap .i64 (x_7 + 1)) + 1)) + 1)), z.Size, z.Target, z.Group⟩ : GEntry))).modify (Int.toNat x_8) (fun (z : GEntry) => (⟨z.Path, z.Kind, z.Mode, z.Time, (IntKind.wrap .i64 ((IntKind.wrap .i64 ((IntKind.wrap .i64 ((IntKind.wrap .i64 (x_7 + 1)) + 1)) + 1)) + 1)), z.Target, z.Group⟩ : GEntry))).modify (Int.toNat x_8) (fun (z : GEntry) => (⟨z.Path, z.Kind, z.Mode, z.Time, z.Size, r11, z.Group⟩ : GEntry))).length : Int) then (laws_markEntryS.l0 k (IntKind.wrap .i64 ((IntKind.wrap .i64 ((IntKind.wrap .i64 ((IntKind.wrap .i64 ((IntKind.wrap .i64 ((IntKind.wrap .i64 ((IntKind.wrap .i64 (x_7 + 1)) + 1)) + 1)) + 1)) + 1)) + 1)) + 1)) (IntKind.wrap .i64 (x_8 + 1)) (((((((b_9.modify (Int.toNat x_8) (fun (z : GEntry) => (⟨r10, z.Kind, z.Mode, z.Time, z.Size, z.Target, z.Group⟩ : GEntry))).modify (Int.toNat x_8) (fun (z : GEntry) => (⟨z.Path, (IntKind.wrap .i64 (x_7 + 1)), z.Mode, z.Time, z.Size, z.Target, z.Group⟩ : GEntry))).modify (Int.toNat x_8) (fun (z : GEntry) => (⟨z.Path, z.Kind, (IntKind.wrap .i64 ((IntKind.wrap .i64 (x_7 + 1)) + 1)), z.Time, z.Size, z.Target, z.Group⟩ : GEntry))).modify (Int.toNat x_8) (fun (z : GEntry) => (⟨z.Path, z.Kind, z.Mode, (IntKind.wrap .i64 ((IntKind.wrap .i64 ((IntKind.wrap .i64 (x_7 + 1)) + 1)) + 1)), z.Size, z.Target, z.Group⟩ : GEntry))).modify (Int.toNat x_8) (fun (z : GEntry) => (⟨z.Path, z.Kind, z.Mode, z.Time, (IntKind.wrap .i64 ((IntKind.wrap .i64 ((IntKind.wrap .i64 ((IntKind.wrap .i64 (x_7 + 1)) + 1)) + 1)) + 1)), z.Target, z.Group⟩ : GEntry))).modify (Int.toNat x_8) (fun (z : GEntry) => (⟨z.Path, z.Kind, z.Mode, z.Time, z.Size, r11, z.Group⟩ : GEntry))).modify (Int.toNat x_8) (fun (z : GEntry) => (⟨z.Path, z.Kind, z.Mode, z.Time, z.Size, z.Target, (IntKind.wrap .i64 ((IntKind.wrap .i64 ((IntKind.wrap .i64 ((IntKind.wrap .i64 ((IntKind.wrap .i64 ((IntKind.wrap .i64 (x_7 + 1)) + 1)) + 1)) + 1)) + 1)) + 1))⟩ : GEntry)))) else none) else none) else none) else none)) else none) else none) else none) else none) else none) else none) else none) else none) else none) else none)) else (some (x_7, b_9)))
def laws_markEntryS.f (k : Nat) (a0 : List GEntry) (a1 : Int) : Option (Int × List GEntry) := (laws_markEntryS.l0 k a1 0 a0)
theorem laws_markEntryS.le (O : Prim) (hO : O = std) (k : Nat) (a0 : List GEntry) (a1 : Int) : Le F O M fi18.kills laws_markEntryS.e (laws_markEntryS.f k a0 a1) (den O M fi18.kills fi18.fn fi18.body (tab.gives 18) (M 18) [.one (.own 42 a0), .one (.lit (.int .i64 a1))] : Tr tab) := by
  refine Le.eqS 0 (by conv => lhs; cbv) ?_
  unfold laws_markEntryS.f
  refine Le.loopS (fun (n : Nat) (v : Int × Int × List GEntry) => laws_markEntryS.l0 n v.1 v.2.1 v.2.2) (fun (v : Int × Int × List GEntry) => match v with | (x_7, x_8, b_9) => (⟨[], [.one (.at ⟨1, 0, []⟩), .one (.lit (.int .i64 x_7)), D_, D_, D_, .one (.lit (.int .i64 x_8)), D_, D_, D_, D_, D_, D_, D_, D_, D_, D_, D_, D_, D_, D_, D_, D_, D_, D_, D_, D_, D_, D_, D_, D_, D_, D_, D_, D_, D_, D_, D_, D_, D_, D_, D_, D_, D_, D_, D_, D_, D_, D_, D_, D_, D_, D_, D_, D_, D_, D_, D_, D_, D_, D_, D_, D_, D_, D_], [[], [], [], [], [], [], [], [], [], [], [], [], [], [], [], [], [], [], [], [], [], [], [], [], [], [], [], [], [], [], [], [], [], [], [], [], [], [], [], [], [], [], [], [], [], [], [], [], [], [], [], [], [], [], [], [], [], [], [], [], [], [], [], [], [], []], [.own 42 b_9]⟩ : S tab)) k (a1, 0, a0) (by subst hO; rfl) rfl (fun _ => rfl) ?_
  intro n0 hn0 ih0 v0
  obtain ⟨x_7, x_8, b_9⟩ := v0
  refine Le.eqS 0 (by conv => lhs; cbv) ?_
  show Le F O M _ _ (laws_markEntryS.l0 (n0 + 1) x_7 x_8 b_9) _
  rw [laws_markEntryS.l0]
  refine Le.condP 0 0 (by subst hO; rfl) (by conv => lhs; cbv) (by conv => lhs; cbv) ?_ ?_
  · refine Le.callC 0 (fi := fi45) rfl (laws_markText.le O hO n0 x_7) (by subst hO; rfl) (by intro r10; conv => lhs; cbv) ?_
    intro r10
    refine Le.guardP 0 (by subst hO; rfl) (by conv => lhs; cbv) ?_
    refine Le.guardP 0 (by subst hO; rfl) (by conv => lhs; cbv) ?_
    refine Le.guardP 0 (by subst hO; rfl) (by conv => lhs; cbv) ?_
    refine Le.guardP 0 (by subst hO; rfl) (by conv => lhs; cbv) ?_
    refine Le.guardP 0 (by subst hO; rfl) (by conv => lhs; cbv) ?_
    refine Le.guardP 0 (by subst hO; rfl) (by conv => lhs; cbv) ?_
    refine Le.guardP 0 (by subst hO; rfl) (by conv => lhs; cbv) ?_
    refine Le.guardP 0 (by subst hO; rfl) (by conv => lhs; cbv) ?_
    refine Le.guardP 0 (by subst hO; rfl) (by conv => lhs; cbv) ?_
    refine Le.guardP 0 (by subst hO; rfl) (by conv => lhs; cbv) ?_
    refine Le.callC 0 (fi := fi45) rfl (laws_markText.le O hO n0 (O.wrap .i64 (O.add (O.wrap .i64 (O.add (O.wrap .i64 (O.add (O.wrap .i64 (O.add (O.wrap .i64 (O.add x_7 1)) 1)) 1)) 1)) 1))) (by subst hO; rfl) (by intro r11; conv => lhs; cbv) ?_
    intro r11
    refine Le.guardP 0 (by subst hO; rfl) (by conv => lhs; cbv) ?_
    refine Le.guardP 0 (by subst hO; rfl) (by conv => lhs; cbv) ?_
    refine Le.guardP 0 (by subst hO; rfl) (by conv => lhs; cbv) ?_
    refine Le.guardP 0 (by subst hO; rfl) (by conv => lhs; cbv) ?_
    exact Le.again (ih0 n0 (by omega) ((O.wrap .i64 (O.add (O.wrap .i64 (O.add (O.wrap .i64 (O.add (O.wrap .i64 (O.add (O.wrap .i64 (O.add (O.wrap .i64 (O.add (O.wrap .i64 (O.add x_7 1)) 1)) 1)) 1)) 1)) 1)) 1)), (O.wrap .i64 (O.add x_8 1)), (O.modf (O.modf (O.modf (O.modf (O.modf (O.modf (O.modf b_9 x_8 (fun (z : GEntry) => (⟨r10, z.Kind, z.Mode, z.Time, z.Size, z.Target, z.Group⟩ : GEntry))) x_8 (fun (z : GEntry) => (⟨z.Path, (O.wrap .i64 (O.add x_7 1)), z.Mode, z.Time, z.Size, z.Target, z.Group⟩ : GEntry))) x_8 (fun (z : GEntry) => (⟨z.Path, z.Kind, (O.wrap .i64 (O.add (O.wrap .i64 (O.add x_7 1)) 1)), z.Time, z.Size, z.Target, z.Group⟩ : GEntry))) x_8 (fun (z : GEntry) => (⟨z.Path, z.Kind, z.Mode, (O.wrap .i64 (O.add (O.wrap .i64 (O.add (O.wrap .i64 (O.add x_7 1)) 1)) 1)), z.Size, z.Target, z.Group⟩ : GEntry))) x_8 (fun (z : GEntry) => (⟨z.Path, z.Kind, z.Mode, z.Time, (O.wrap .i64 (O.add (O.wrap .i64 (O.add (O.wrap .i64 (O.add (O.wrap .i64 (O.add x_7 1)) 1)) 1)) 1)), z.Target, z.Group⟩ : GEntry))) x_8 (fun (z : GEntry) => (⟨z.Path, z.Kind, z.Mode, z.Time, z.Size, r11, z.Group⟩ : GEntry))) x_8 (fun (z : GEntry) => (⟨z.Path, z.Kind, z.Mode, z.Time, z.Size, z.Target, (O.wrap .i64 (O.add (O.wrap .i64 (O.add (O.wrap .i64 (O.add (O.wrap .i64 (O.add (O.wrap .i64 (O.add (O.wrap .i64 (O.add x_7 1)) 1)) 1)) 1)) 1)) 1))⟩ : GEntry))))) (by subst hO; rfl) rfl
  · exact Le.ret2 (by subst hO; rfl)
/-! ### loop.example/g00100/laws.heldEntryS -/
def laws_heldEntryS.e (r : Int) : Res tab := (([], []), .one (.lit (.int .i64 r)))
def laws_heldEntryS.l0 : Nat → (List GEntry) → Int → Int → Option Int
  | 0, _, _, _ => none
  | k + 1, a0, x_6, x_7 => (if x_7 < (a0.length : Int) then (if 0 ≤ x_7 then (if x_7 < (a0.length : Int) then ((laws_markText.f k x_6).bind fun r8 => (if (a0.getD (Int.toNat x_7) (⟨(⟨#[]⟩ : ByteArray), 0, 0, 0, 0, (⟨#[]⟩ : ByteArray), 0⟩ : GEntry)).Path = r8 then (if 0 ≤ x_7 then (if x_7 < (a0.length : Int) then (if (a0.getD (Int.toNat x_7) (⟨(⟨#[]⟩ : ByteArray), 0, 0, 0, 0, (⟨#[]⟩ : ByteArray), 0⟩ : GEntry)).Kind = (IntKind.wrap .i64 (x_6 + 1)) then (if 0 ≤ x_7 then (if x_7 < (a0.length : Int) then (if (a0.getD (Int.toNat x_7) (⟨(⟨#[]⟩ : ByteArray), 0, 0, 0, 0, (⟨#[]⟩ : ByteArray), 0⟩ : GEntry)).Mode = (IntKind.wrap .i64 ((IntKind.wrap .i64 (x_6 + 1)) + 1)) then (if 0 ≤ x_7 then (if x_7 < (a0.length : Int) then (if (a0.getD (Int.toNat x_7) (⟨(⟨#[]⟩ : ByteArray), 0, 0, 0, 0, (⟨#[]⟩ : ByteArray), 0⟩ : GEntry)).Time = (IntKind.wrap .i64 ((IntKind.wrap .i64 ((IntKind.wrap .i64 (x_6 + 1)) + 1)) + 1)) then (if 0 ≤ x_7 then (if x_7 < (a0.length : Int) then (if (a0.getD (Int.toNat x_7) (⟨(⟨#[]⟩ : ByteArray), 0, 0, 0, 0, (⟨#[]⟩ : ByteArray), 0⟩ : GEntry)).Size = (IntKind.wrap .i64 ((IntKind.wrap .i64 ((IntKind.wrap .i64 ((IntKind.wrap .i64 (x_6 + 1)) + 1)) + 1)) + 1)) then (if 0 ≤ x_7 then (if x_7 < (a0.length : Int) then ((laws_markText.f k (IntKind.wrap .i64 ((IntKind.wrap .i64 ((IntKind.wrap .i64 ((IntKind.wrap .i64 ((IntKind.wrap .i64 (x_6 + 1)) + 1)) + 1)) + 1)) + 1))).bind fun r9 => (if (a0.getD (Int.toNat x_7) (⟨(⟨#[]⟩ : ByteArray), 0, 0, 0, 0, (⟨#[]⟩ : ByteArray), 0⟩ : GEntry)).Target = r9 then (if 0 ≤ x_7 then (if x_7 < (a0.length : Int) then (if (a0.getD (Int.toNat x_7) (⟨(⟨#[]⟩ : ByteArray), 0, 0, 0, 0, (⟨#[]⟩ : ByteArray), 0⟩ : GEntry)).Group = (IntKind.wrap .i64 ((IntKind.wrap .i64 ((IntKind.wrap .i64 ((IntKind.wrap .i64 ((IntKind.wrap .i64 ((IntKind.wrap .i64 (x_6 + 1)) + 1)) + 1)) + 1)) + 1)) + 1)) then (laws_heldEntryS.l0 k a0 (IntKind.wrap .i64 ((IntKind.wrap .i64 ((IntKind.wrap .i64 ((IntKind.wrap .i64 ((IntKind.wrap .i64 ((IntKind.wrap .i64 ((IntKind.wrap .i64 (x_6 + 1)) + 1)) + 1)) + 1)) + 1)) + 1)) + 1)) (IntKind.wrap .i64 (x_7 + 1))) else (some (-1))) else none) else none) else (some (-1)))) else none) else none) else (some (-1))) else none) else none) else (some (-1))) else none) else none) else (some (-1))) else none) else none) else (some (-1))) else none) else none) else (some (-1)))) else none) else none) else (some x_6))
def laws_heldEntryS.f (k : Nat) (a0 : List GEntry) (a1 : Int) : Option Int := (laws_heldEntryS.l0 k a0 a1 0)
theorem laws_heldEntryS.le (O : Prim) (hO : O = std) (k : Nat) (a0 : List GEntry) (a1 : Int) : Le F O M fi19.kills laws_heldEntryS.e (laws_heldEntryS.f k a0 a1) (den O M fi19.kills fi19.fn fi19.body (tab.gives 19) (M 19) [.one (.imm 42 a0), .one (.lit (.int .i64 a1))] : Tr tab) := by
  refine Le.eqS 0 (by conv => lhs; cbv) ?_
  unfold laws_heldEntryS.f
  refine Le.loopS (fun (n : Nat) (v : Int × Int) => laws_heldEntryS.l0 n a0 v.1 v.2) (fun (v : Int × Int) => match v with | (x_6, x_7) => (⟨[], [.one (.imm 42 a0), .one (.lit (.int .i64 x_6)), D_, D_, D_, .one (.lit (.int .i64 x_7)), D_, D_, D_, D_, D_, D_, D_, D_, D_, D_, D_, D_, D_, D_, D_, D_, D_, D_, D_, D_, D_, D_, D_, D_, D_, D_, D_, D_, D_, D_, D_, D_, D_, D_, D_, D_, D_, D_, D_, D_, D_, D_, D_, D_, D_, D_, D_, D_, D_, D_, D_, D_, D_, D_, D_, D_, D_, D_, D_, D_, D_, D_, D_, D_, D_, D_, D_, D_, D_, D_, D_, D_], [[], [], [], [], [], [], [], [], [], [], [], [], [], [], [], [], [], [], [], [], [], [], [], [], [], [], [], [], [], [], [], [], [], [], [], [], [], [], [], [], [], [], [], [], [], [], [], [], [], [], [], [], [], [], [], [], [], [], [], [], [], [], [], [], [], [], [], [], [], [], [], [], [], [], [], [], [], [], [], []], []⟩ : S tab)) k (a1, 0) (by subst hO; rfl) rfl (fun _ => rfl) ?_
  intro n0 hn0 ih0 v0
  obtain ⟨x_6, x_7⟩ := v0
  refine Le.eqS 0 (by conv => lhs; cbv) ?_
  show Le F O M _ _ (laws_heldEntryS.l0 (n0 + 1) a0 x_6 x_7) _
  rw [laws_heldEntryS.l0]
  refine Le.condP 0 0 (by subst hO; rfl) (by conv => lhs; cbv) (by conv => lhs; cbv) ?_ ?_
  · refine Le.guardP 0 (by subst hO; rfl) (by conv => lhs; cbv) ?_
    refine Le.guardP 0 (by subst hO; rfl) (by conv => lhs; cbv) ?_
    refine Le.callC 0 (fi := fi45) rfl (laws_markText.le O hO n0 x_6) (by subst hO; rfl) (by intro r8; conv => lhs; cbv) ?_
    intro r8
    refine Le.condN 0 0 (by subst hO; exact (seq_dec _ _).trans (Bool.not_not _).symm) (by conv => lhs; cbv) (by conv => lhs; cbv) ?_ ?_
    · exact Le.ret2 (by subst hO; rfl)
    · refine Le.guardP 0 (by subst hO; rfl) (by conv => lhs; cbv) ?_
      refine Le.guardP 0 (by subst hO; rfl) (by conv => lhs; cbv) ?_
      refine Le.condN 0 0 (by subst hO; exact (Bool.not_not _).symm) (by conv => lhs; cbv) (by conv => lhs; cbv) ?_ ?_
      · exact Le.ret2 (by subst hO; rfl)
      · refine Le.guardP 0 (by subst hO; rfl) (by conv => lhs; cbv) ?_
        refine Le.guardP 0 (by subst hO; rfl) (by conv => lhs; cbv) ?_
        refine Le.condN 0 0 (by subst hO; exact (Bool.not_not _).symm) (by conv => lhs; cbv) (by conv => lhs; cbv) ?_ ?_
        · exact Le.ret2 (by subst hO; rfl)
        · refine Le.guardP 0 (by subst hO; rfl) (by conv => lhs; cbv) ?_
          refine Le.guardP 0 (by subst hO; rfl) (by conv => lhs; cbv) ?_
          refine Le.condN 0 0 (by subst hO; exact (Bool.not_not _).symm) (by conv => lhs; cbv) (by conv => lhs; cbv) ?_ ?_
          · exact Le.ret2 (by subst hO; rfl)
          · refine Le.guardP 0 (by subst hO; rfl) (by conv => lhs; cbv) ?_
            refine Le.guardP 0 (by subst hO; rfl) (by conv => lhs; cbv) ?_
            refine Le.condN 0 0 (by subst hO; exact (Bool.not_not _).symm) (by conv => lhs; cbv) (by conv => lhs; cbv) ?_ ?_
            · exact Le.ret2 (by subst hO; rfl)
            · refine Le.guardP 0 (by subst hO; rfl) (by conv => lhs; cbv) ?_
              refine Le.guardP 0 (by subst hO; rfl) (by conv => lhs; cbv) ?_
              refine Le.callC 0 (fi := fi45) rfl (laws_markText.le O hO n0 (O.wrap .i64 (O.add (O.wrap .i64 (O.add (O.wrap .i64 (O.add (O.wrap .i64 (O.add (O.wrap .i64 (O.add x_6 1)) 1)) 1)) 1)) 1))) (by subst hO; rfl) (by intro r9; conv => lhs; cbv) ?_
              intro r9
              refine Le.condN 0 0 (by subst hO; exact (seq_dec _ _).trans (Bool.not_not _).symm) (by conv => lhs; cbv) (by conv => lhs; cbv) ?_ ?_
              · exact Le.ret2 (by subst hO; rfl)
              · refine Le.guardP 0 (by subst hO; rfl) (by conv => lhs; cbv) ?_
                refine Le.guardP 0 (by subst hO; rfl) (by conv => lhs; cbv) ?_
                refine Le.condN 0 0 (by subst hO; exact (Bool.not_not _).symm) (by conv => lhs; cbv) (by conv => lhs; cbv) ?_ ?_
                · exact Le.ret2 (by subst hO; rfl)
                · exact Le.again (ih0 n0 (by omega) ((O.wrap .i64 (O.add (O.wrap .i64 (O.add (O.wrap .i64 (O.add (O.wrap .i64 (O.add (O.wrap .i64 (O.add (O.wrap .i64 (O.add (O.wrap .i64 (O.add x_6 1)) 1)) 1)) 1)) 1)) 1)) 1)), (O.wrap .i64 (O.add x_7 1)))) (by subst hO; rfl) rfl
  · exact Le.ret2 (by subst hO; rfl)
/-! ### loop.example/g00100/laws.FnExactGetEntries -/
def laws_FnExactGetEntries.e (r : Bool) : Res tab := (([], []), .one (.lit (.bool r)))
def laws_FnExactGetEntries.f (k : Nat) (a0 : List Int) : Option Bool := (if 1048576 < (a0.length : Int) then (some true) else ((laws_toByteS.f k a0).bind fun r0 => ((spec_GetEntries.f k r0).bind fun r1 => ((laws_toByteS.f k a0).bind fun r2 => ((impl_GetEntries.f k r2).bind fun r3 => ((laws_eqEntryS.f k r3.1 r1.1).bind fun r4 => (if r4 = true then (if (r3.2 == r1.2) = true then ((laws_toByteS.f k a0).bind fun r5 => ((laws_eqByteS.f k r2 r5).bind fun r6 => (if r6 = true then ((laws_markByteS.f k r2 1).bind fun r7 => (if r7.1 < 0 then (some false) else ((laws_eqEntryS.f k r3.1 r1.1).bind fun r8 => (if r8 = true then (if (r3.2 == r1.2) = true then ((laws_markEntryS.f k r3.1 1).bind fun r9 => ((laws_heldEntryS.f k r9.2 1).bind fun r10 => (if r10 < 0 then (some false) else (if r10 = r9.1 then ((laws_toByteS.f k a0).bind fun r11 => ((impl_GetEntries.f k r11).bind fun r12 => ((laws_eqEntryS.f k r12.1 r1.1).bind fun r13 => (if r13 = true then (if (r12.2 == r1.2) = true then ((laws_heldEntryS.f k r9.2 1).bind fun r14 => (if r14 < 0 then (some false) else (if r14 = r9.1 then (some true) else (some false)))) else (some false)) else (some false))))) else (some false))))) else (some false)) else (some false))))) else (some false)))) else (some false)) else (some false))))))))
theorem laws_FnExactGetEntries.le (O : Prim) (hO : O = std) (k : Nat) (a0 : List Int) : Le F O M fi4.kills laws_FnExactGetEntries.e (laws_FnExactGetEntries.f k a0) (den O M fi4.kills fi4.fn fi4.body (tab.gives 4) (M 4) [.one (.imm 5 a0)] : Tr tab) := by
  refine Le.eqS 0 (by conv => lhs; cbv) ?_
  unfold laws_FnExactGetEntries.f
  refine Le.condP 0 0 (by subst hO; rfl) (by conv => lhs; cbv) (by conv => lhs; cbv) ?_ ?_
  · exact Le.ret2 (by subst hO; rfl)
  · refine Le.callC 0 (fi := fi13) rfl (laws_toByteS.le O hO k a0) (by subst hO; rfl) (by intro r0; conv => lhs; cbv) ?_
    intro r0
    refine Le.callC 0 (fi := fi12) rfl (spec_GetEntries.le O hO k r0) (by subst hO; rfl) (by intro r1; conv => lhs; cbv) ?_
    intro r1
    refine Le.callC 0 (fi := fi13) rfl (laws_toByteS.le O hO k a0) (by subst hO; rfl) (by intro r2; conv => lhs; cbv) ?_
    intro r2
    refine Le.callC 0 (fi := fi14) rfl (impl_GetEntries.le O hO k r2) (by subst hO; rfl) (by intro r3; conv => lhs; cbv) ?_
    intro r3
    refine Le.callC 0 (fi := fi15) rfl (laws_eqEntryS.le O hO k r3.1 r1.1) (by subst hO; rfl) (by intro r4; conv => lhs; cbv) ?_
    intro r4
    refine Le.condN 4 3 (by subst hO; exact Bool.decide_eq_true.trans (Bool.not_not _).symm) (by conv => lhs; cbv) (by conv => lhs; cbv) ?_ ?_
    · exact Le.ret2 (by subst hO; rfl)
    · refine Le.condN 0 0 (by subst hO; exact Bool.decide_eq_true.trans (Bool.not_not _).symm) (by conv => lhs; cbv) (by conv => lhs; cbv) ?_ ?_
      · exact Le.ret2 (by subst hO; rfl)
      · refine Le.callC 0 (fi := fi13) rfl (laws_toByteS.le O hO k a0) (by subst hO; rfl) (by intro r5; conv => lhs; cbv) ?_
        intro r5
        refine Le.callC 0 (fi := fi16) rfl (laws_eqByteS.le O hO k r2 r5) (by subst hO; rfl) (by intro r6; conv => lhs; cbv) ?_
        intro r6
        refine Le.condN 0 0 (by subst hO; exact Bool.decide_eq_true.trans (Bool.not_not _).symm) (by conv => lhs; cbv) (by conv => lhs; cbv) ?_ ?_
        · exact Le.ret2 (by subst hO; rfl)
        · refine Le.callC 0 (fi := fi17) rfl (laws_markByteS.le O hO k r2 1) (by subst hO; rfl) (by intro r7; conv => lhs; cbv) ?_
          intro r7
          refine Le.condP 9 2 (by subst hO; rfl) (by conv => lhs; cbv) (by conv => lhs; cbv) ?_ ?_
          · exact Le.ret2 (by subst hO; rfl)
          · refine Le.callC 2 (fi := fi15) rfl (laws_eqEntryS.le O hO k r3.1 r1.1) (by subst hO; rfl) (by intro r8; conv => lhs; cbv) ?_
            intro r8
            refine Le.condN 4 3 (by subst hO; exact Bool.decide_eq_true.trans (Bool.not_not _).symm) (by conv => lhs; cbv) (by conv => lhs; cbv) ?_ ?_
            · exact Le.ret2 (by subst hO; rfl)
            · refine Le.condN 0 0 (by subst hO; exact Bool.decide_eq_true.trans (Bool.not_not _).symm) (by conv => lhs; cbv) (by conv => lhs; cbv) ?_ ?_
              · exact Le.ret2 (by subst hO; rfl)
              · refine Le.callC 0 (fi := fi18) rfl (laws_markEntryS.le O hO k r3.1 1) (by subst hO; rfl) (by intro r9; conv => lhs; cbv) ?_
                intro r9
                refine Le.callC 0 (fi := fi19) rfl (laws_heldEntryS.le O hO k r9.2 1) (by subst hO; rfl) (by intro r10; conv => lhs; cbv) ?_
                intro r10
                refine Le.condP 0 0 (by subst hO; rfl) (by conv => lhs; cbv) (by conv => lhs; cbv) ?_ ?_
                · exact Le.ret2 (by subst hO; rfl)
                · refine Le.condN 0 0 (by subst hO; exact (Bool.not_not _).symm) (by conv => lhs; cbv) (by conv => lhs; cbv) ?_ ?_
                  · exact Le.ret2 (by subst hO; rfl)
                  · refine Le.callC 0 (fi := fi13) rfl (laws_toByteS.le O hO k a0) (by subst hO; rfl) (by intro r11; conv => lhs; cbv) ?_
                    intro r11
                    refine Le.callC 0 (fi := fi14) rfl (impl_GetEntries.le O hO k r11) (by subst hO; rfl) (by intro r12; conv => lhs; cbv) ?_
                    intro r12
                    refine Le.callC 0 (fi := fi15) rfl (laws_eqEntryS.le O hO k r12.1 r1.1) (by subst hO; rfl) (by intro r13; conv => lhs; cbv) ?_
                    intro r13
                    refine Le.condN 4 3 (by subst hO; exact Bool.decide_eq_true.trans (Bool.not_not _).symm) (by conv => lhs; cbv) (by conv => lhs; cbv) ?_ ?_
                    · exact Le.ret2 (by subst hO; rfl)
                    · refine Le.condN 0 0 (by subst hO; exact Bool.decide_eq_true.trans (Bool.not_not _).symm) (by conv => lhs; cbv) (by conv => lhs; cbv) ?_ ?_
                      · exact Le.ret2 (by subst hO; rfl)
                      · refine Le.callC 0 (fi := fi19) rfl (laws_heldEntryS.le O hO k r9.2 1) (by subst hO; rfl) (by intro r14; conv => lhs; cbv) ?_
                        intro r14
                        refine Le.condP 0 0 (by subst hO; rfl) (by conv => lhs; cbv) (by conv => lhs; cbv) ?_ ?_
                        · exact Le.ret2 (by subst hO; rfl)
                        · refine Le.condN 0 0 (by subst hO; exact (Bool.not_not _).symm) (by conv => lhs; cbv) (by conv => lhs; cbv) ?_ ?_
                          · exact Le.ret2 (by subst hO; rfl)
                          · exact Le.ret2 (by subst hO; rfl)
end Go.I
