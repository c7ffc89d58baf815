/- What each function that the law reaches answers, by the interpreter. No condition. -/
import Derived.Test.YtjebhkpabdogcabKD
set_option linter.unusedVariables false
set_option linter.unusedSimpArgs false
set_option maxRecDepth 100000
set_option maxHeartbeats 4000000
namespace Go.I
open Go
/-! ### loop.example/g00100/laws.toByteS -/
def laws_toByteS.e (r : List Int) : Res tab := (([], []), .one (.own 5 r))
def laws_toByteS.l0 : Nat → (List Int) → (List Int) → Int → Option (List Int)
  | 0, _, _, _ => none
  | k + 1, a0, x_2, x_3 => (if x_3 < (a0.length : Int) then (if 0 ≤ x_3 then (if x_3 < (a0.length : Int) then (if 0 ≤ x_3 then (if x_3 < (x_2.length : Int) then (laws_toByteS.l0 k a0 (x_2.set (Int.toNat x_3) (a0.getD (Int.toNat x_3) 0)) (IntKind.wrap .i64 (x_3 + 1))) else none) else none) else none) else none) else (some x_2))
def laws_toByteS.f (k : Nat) (a0 : List Int) : Option (List Int) := (if 0 ≤ (a0.length : Int) then (if (a0.length : Int) ≤ (a0.length : Int) then (if ((a0.length : Int) * 1) ≤ 281474976710656 then (laws_toByteS.l0 k a0 (List.replicate (Int.toNat (a0.length : Int)) 0) 0) else none) else none) else none)
theorem laws_toByteS.le (O : Prim) (hO : O = std) (k : Nat) (a0 : List Int) : Le F O M fi5.kills laws_toByteS.e (laws_toByteS.f k a0) (den O M fi5.kills fi5.fn fi5.body (tab.gives 5) (M 5) [.one (.imm 5 a0)] : Tr tab) := by
  refine Le.eqS 0 (by conv => lhs; cbv) ?_
  unfold laws_toByteS.f
  refine Le.guardP 0 (by subst hO; rfl) (by conv => lhs; cbv) ?_
  refine Le.guardP 0 (by subst hO; rfl) (by conv => lhs; cbv) ?_
  refine Le.guardP 0 (by subst hO; rfl) (by conv => lhs; cbv) ?_
  refine Le.loopS (fun (n : Nat) (v : List Int × Int) => laws_toByteS.l0 n a0 v.1 v.2) (fun (v : List Int × Int) => match v with | (x_2, x_3) => (⟨[], [.one (.imm 5 a0), D_, D_, .one (.own 5 x_2), .one (.lit (.int .i64 x_3)), D_, D_, D_, D_, D_, D_, D_, D_, D_, D_, D_, D_, D_, D_, D_, D_, D_], [[], [], [], [], [], [], [], [], [], [], [], [], [], [], [], [], [], [], [], [], [], [], []], []⟩ : S tab)) k ((O.rep 0 (O.len a0)), 0) (by subst hO; rfl) rfl (fun _ => rfl) ?_
  intro n0 hn0 ih0 v0
  obtain ⟨x_2, x_3⟩ := v0
  refine Le.eqS 0 (by conv => lhs; cbv) ?_
  show Le F O M _ _ (laws_toByteS.l0 (n0 + 1) a0 x_2 x_3) _
  rw [laws_toByteS.l0]
  refine Le.condP 0 0 (by subst hO; rfl) (by conv => lhs; cbv) (by conv => lhs; cbv) ?_ ?_
  · refine Le.guardP 0 (by subst hO; rfl) (by conv => lhs; cbv) ?_
    refine Le.guardP 0 (by subst hO; rfl) (by conv => lhs; cbv) ?_
    refine Le.guardP 0 (by subst hO; rfl) (by conv => lhs; cbv) ?_
    refine Le.guardP 0 (by subst hO; rfl) (by conv => lhs; cbv) ?_
    exact Le.again (ih0 n0 (by omega) ((O.set x_2 x_3 (O.get 0 a0 x_3)), (O.wrap .i64 (O.add x_3 1)))) (by subst hO; rfl) rfl
  · exact Le.ret2 (by subst hO; rfl)
/-! ### loop.example/g00100/spec.PutVar -/
def spec_PutVar.e (r : List Int) : Res tab := (([], []), .one (.own 5 r))
def spec_PutVar.l0 : Nat → Int → (List Int) → Option (List Int)
  | 0, _, _ => none
  | k + 1, x_2, x_3 => (if 128 ≤ x_2 then (if 128 = 0 then none else (if (((x_3.length : Int) + ([(IntKind.wrap .u8 (IntKind.wrap .i64 (128 + (Int.tmod x_2 128))))].length : Int)) * 1) ≤ 140737488351232 then (if 128 = 0 then none else (spec_PutVar.l0 k (IntKind.wrap .i64 (Int.tdiv x_2 128)) (x_3 ++ [(IntKind.wrap .u8 (IntKind.wrap .i64 (128 + (Int.tmod x_2 128))))]))) else none)) else (if (((x_3.length : Int) + ([(IntKind.wrap .u8 x_2)].length : Int)) * 1) ≤ 140737488351232 then (some (x_3 ++ [(IntKind.wrap .u8 x_2)])) else none))
def spec_PutVar.f (k : Nat) (a0 : Int) : Option (List Int) := (if a0 < 0 then (some ([] : List Int)) else (spec_PutVar.l0 k a0 ([] : List Int)))
theorem spec_PutVar.le (O : Prim) (hO : O = std) (k : Nat) (a0 : Int) : Le F O M fi28.kills spec_PutVar.e (spec_PutVar.f k a0) (den O M fi28.kills fi28.fn fi28.body (tab.gives 28) (M 28) [.one (.lit (.int .i64 a0))] : Tr tab) := by
  refine Le.eqS 0 (by conv => lhs; cbv) ?_
  unfold spec_PutVar.f
  refine Le.condP 0 0 (by subst hO; rfl) (by conv => lhs; cbv) (by conv => lhs; cbv) ?_ ?_
  · exact Le.ret2 (by subst hO; rfl)
  · refine Le.loopS (fun (n : Nat) (v : Int × List Int) => spec_PutVar.l0 n v.1 v.2) (fun (v : Int × List Int) => match v with | (x_2, x_3) => (⟨[], [.one (.lit (.int .i64 x_2)), D_, D_, .one (.own 5 x_3), D_, D_, D_, D_, D_, D_, D_, D_, D_, D_, D_, D_, D_, D_, D_, D_, D_, D_, D_, D_], [[], [], [], [], [], [], [], [], [], [], [], [], [], [], [], [], [], [], [], [], [], [], [], [], []], []⟩ : S tab)) k (a0, ([] : List Int)) (by subst hO; rfl) rfl (fun _ => rfl) ?_
    intro n0 hn0 ih0 v0
    obtain ⟨x_2, x_3⟩ := v0
    refine Le.eqS 0 (by conv => lhs; cbv) ?_
    show Le F O M _ _ (spec_PutVar.l0 (n0 + 1) x_2 x_3) _
    rw [spec_PutVar.l0]
    refine Le.condP 0 0 (by subst hO; rfl) (by conv => lhs; cbv) (by conv => lhs; cbv) ?_ ?_
    · refine Le.guardN 0 (by subst hO; rfl) (by conv => lhs; cbv) ?_
      refine Le.guardP 0 (by subst hO; rfl) (by conv => lhs; cbv) ?_
      refine Le.guardN 0 (by subst hO; rfl) (by conv => lhs; cbv) ?_
      exact Le.again (ih0 n0 (by omega) ((O.wrap .i64 (O.quo x_2 128)), (O.app x_3 [(O.wrap .u8 (O.wrap .i64 (O.add 128 (O.rem x_2 128))))]))) (by subst hO; rfl) rfl
    · refine Le.guardP 0 (by subst hO; rfl) (by conv => lhs; cbv) ?_
      exact Le.ret2 (by subst hO; rfl)
/-! ### loop.example/g00100/spec.GetVar -/
def spec_GetVar.e (r : Int × Int) : Res tab := (([], []), .tup [(false, [.lit (.int .i64 r.1)]), (false, [.lit (.int .i64 r.2)])])
def spec_GetVar.l2 : Nat → (List Int) → Int → Int → Int → Option (Int × Int)
  | 0, _, _, _, _ => none
  | k + 1, a0, x_1, x_4, x_5 => (if 0 ≤ x_5 then (if 0 ≤ x_5 then (if x_5 < (a0.length : Int) then (if 128 = 0 then none else (spec_GetVar.l2 k a0 x_1 (IntKind.wrap .i64 ((IntKind.wrap .i64 (x_4 * 128)) + (Int.tmod (IntKind.wrap .i64 (a0.getD (Int.toNat x_5) 0)) 128))) (IntKind.wrap .i64 (x_5 - 1)))) else none) else none) else ((spec_PutVar.f k x_4).bind fun r6 => (if (r6.length : Int) = (IntKind.wrap .i64 (x_1 + 1)) then (some (x_4, (IntKind.wrap .i64 (x_1 + 1)))) else (some (0, 0)))))
def spec_GetVar.l2v1 : Nat → (List Int) → Int → Int → Int → Option (Int × Int)
  | 0, _, _, _, _ => none
  | k + 1, a0, x_1, x_9, x_10 => (if 0 ≤ x_10 then (if 0 ≤ x_10 then (if x_10 < (a0.length : Int) then (if 128 = 0 then none else (spec_GetVar.l2v1 k a0 x_1 (IntKind.wrap .i64 ((IntKind.wrap .i64 (x_9 * 128)) + (Int.tmod (IntKind.wrap .i64 (a0.getD (Int.toNat x_10) 0)) 128))) (IntKind.wrap .i64 (x_10 - 1)))) else none) else none) else ((spec_PutVar.f k x_9).bind fun r11 => (if (r11.length : Int) = (IntKind.wrap .i64 (x_1 + 1)) then (some (x_9, (IntKind.wrap .i64 (x_1 + 1)))) else (some (0, 0)))))
def spec_GetVar.l2v2 : Nat → (List Int) → Int → Int → Int → Option (Int × Int)
  | 0, _, _, _, _ => none
  | k + 1, a0, x_1, x_14, x_15 => (if 0 ≤ x_15 then (if 0 ≤ x_15 then (if x_15 < (a0.length : Int) then (if 128 = 0 then none else (spec_GetVar.l2v2 k a0 x_1 (IntKind.wrap .i64 ((IntKind.wrap .i64 (x_14 * 128)) + (Int.tmod (IntKind.wrap .i64 (a0.getD (Int.toNat x_15) 0)) 128))) (IntKind.wrap .i64 (x_15 - 1)))) else none) else none) else ((spec_PutVar.f k x_14).bind fun r16 => (if (r16.length : Int) = (IntKind.wrap .i64 (x_1 + 1)) then (some (x_14, (IntKind.wrap .i64 (x_1 + 1)))) else (some (0, 0)))))
def spec_GetVar.l0 : Nat → (List Int) → Int → Option (Int × Int)
  | 0, _, _ => none
  | k + 1, a0, x_1 => (if x_1 < (a0.length : Int) then (if x_1 < 9 then (if 0 ≤ x_1 then (if x_1 < (a0.length : Int) then (if 128 ≤ (a0.getD (Int.toNat x_1) 0) then (spec_GetVar.l0 k a0 (IntKind.wrap .i64 (x_1 + 1))) else (if (a0.length : Int) ≤ x_1 then (some (0, 0)) else (if 9 ≤ x_1 then (some (0, 0)) else (spec_GetVar.l2 k a0 x_1 0 x_1)))) else none) else none) else (if (a0.length : Int) ≤ x_1 then (some (0, 0)) else (if 9 ≤ x_1 then (some (0, 0)) else (spec_GetVar.l2v1 k a0 x_1 0 x_1)))) else (if (a0.length : Int) ≤ x_1 then (some (0, 0)) else (if 9 ≤ x_1 then (some (0, 0)) else (spec_GetVar.l2v2 k a0 x_1 0 x_1))))
def spec_GetVar.f (k : Nat) (a0 : List Int) : Option (Int × Int) := (spec_GetVar.l0 k a0 0)
theorem spec_GetVar.le (O : Prim) (hO : O = std) (k : Nat) (a0 : List Int) : Le F O M fi12.kills spec_GetVar.e (spec_GetVar.f k a0) (den O M fi12.kills fi12.fn fi12.body (tab.gives 12) (M 12) [.one (.imm 5 a0)] : Tr tab) := by
  refine Le.eqS 0 (by conv => lhs; cbv) ?_
  unfold spec_GetVar.f
  refine Le.loopS (fun (n : Nat) (v : Int) => spec_GetVar.l0 n a0 v) (fun (x_1 : Int) => (⟨[], [.one (.imm 5 a0), D_, D_, D_, .one (.lit (.int .i64 x_1)), D_, D_, D_, D_, D_, D_, D_, D_, D_, D_, D_, D_, D_, D_, D_, D_, D_, D_, D_, D_, D_, D_, D_, D_, D_, D_, D_, D_, D_, D_, D_, D_, D_, D_, D_, D_, D_, D_, D_, D_, D_, D_, D_, D_, D_, D_, D_, D_, D_, D_], [[], [], [], [], [], [], [], [], [], [], [], [], [], [], [], [], [], [], [], [], [], [], [], [], [], [], [], [], [], [], [], [], [], [], [], [], [], [], [], [], [], [], [], [], [], [], [], [], [], [], [], [], [], [], [], []], []⟩ : S tab)) k 0 (by subst hO; rfl) rfl (fun _ => rfl) ?_
  intro n0 hn0 ih0 x_1
  refine Le.eqS 0 (by conv => lhs; cbv) ?_
  show Le F O M _ _ (spec_GetVar.l0 (n0 + 1) a0 x_1) _
  rw [spec_GetVar.l0]
  refine Le.condP 2 9 (by subst hO; rfl) (by conv => lhs; cbv) (by conv => lhs; cbv) ?_ ?_
  · refine Le.condP 2 6 (by subst hO; rfl) (by conv => lhs; cbv) (by conv => lhs; cbv) ?_ ?_
    · refine Le.guardP 0 (by subst hO; rfl) (by conv => lhs; cbv) ?_
      refine Le.guardP 3 (by subst hO; rfl) (by conv => lhs; cbv) ?_
      refine Le.condP 0 0 (by subst hO; rfl) (by conv => lhs; cbv) (by conv => lhs; cbv) ?_ ?_
      · exact Le.again (ih0 n0 (by omega) (O.wrap .i64 (O.add x_1 1))) (by subst hO; rfl) rfl
      · refine Le.condP 3 2 (by subst hO; rfl) (by conv => lhs; cbv) (by conv => lhs; cbv) ?_ ?_
        · exact Le.ret2 (by subst hO; rfl)
        · refine Le.condP 0 0 (by subst hO; rfl) (by conv => lhs; cbv) (by conv => lhs; cbv) ?_ ?_
          · exact Le.ret2 (by subst hO; rfl)
          · refine Le.loopS (fun (n : Nat) (v : Int × Int) => spec_GetVar.l2 n a0 x_1 v.1 v.2) (fun (v : Int × Int) => match v with | (x_4, x_5) => (⟨[], [.one (.imm 5 a0), D_, D_, D_, .one (.lit (.int .i64 x_1)), .one (.lit (.int .i64 x_4)), .one (.lit (.int .i64 x_5)), D_, D_, D_, D_, D_, D_, D_, D_, D_, D_, D_, D_, D_, D_, D_, D_, D_, D_, D_, D_, D_, D_, D_, D_, D_, D_, D_, D_, D_, D_, D_, D_, D_, D_, D_, D_, D_, D_, D_, D_, D_, D_, D_, D_, D_, D_, D_, D_], [[], [], [], [], [], [], [], [], [], [], [], [], [], [], [], [], [], [], [], [], [], [], [], [], [], [], [], [], [], [], [], [], [], [], [], [], [], [], [], [], [], [], [], [], [], [], [], [], [], [], [], [], [], [], [], []], []⟩ : S tab)) n0 (0, x_1) (by subst hO; rfl) rfl (fun _ => rfl) ?_
            intro n2 hn2 ih2 v2
            obtain ⟨x_4, x_5⟩ := v2
            refine Le.eqS 0 (by conv => lhs; cbv) ?_
            show Le F O M _ _ (spec_GetVar.l2 (n2 + 1) a0 x_1 x_4 x_5) _
            rw [spec_GetVar.l2]
            refine Le.condP 0 0 (by subst hO; rfl) (by conv => lhs; cbv) (by conv => lhs; cbv) ?_ ?_
            · refine Le.guardP 0 (by subst hO; rfl) (by conv => lhs; cbv) ?_
              refine Le.guardP 0 (by subst hO; rfl) (by conv => lhs; cbv) ?_
              refine Le.guardN 0 (by subst hO; rfl) (by conv => lhs; cbv) ?_
              exact Le.again (ih2 n2 (by omega) ((O.wrap .i64 (O.add (O.wrap .i64 (O.mul x_4 128)) (O.rem (O.wrap .i64 (O.get 0 a0 x_5)) 128))), (O.wrap .i64 (O.sub x_5 1)))) (by subst hO; rfl) rfl
            · refine Le.callC 0 (fi := fi28) rfl (spec_PutVar.le O hO n2 x_4) (by subst hO; rfl) (by intro r6; conv => lhs; cbv) ?_
              intro r6
              refine Le.condN 0 0 (by subst hO; exact (Bool.not_not _).symm) (by conv => lhs; cbv) (by conv => lhs; cbv) ?_ ?_
              · exact Le.ret2 (by subst hO; rfl)
              · exact Le.ret2 (by subst hO; rfl)
    · refine Le.condP 3 2 (by subst hO; rfl) (by conv => lhs; cbv) (by conv => lhs; cbv) ?_ ?_
      · exact Le.ret2 (by subst hO; rfl)
      · refine Le.condP 0 0 (by subst hO; rfl) (by conv => lhs; cbv) (by conv => lhs; cbv) ?_ ?_
        · exact Le.ret2 (by subst hO; rfl)
        · refine Le.loopS (fun (n : Nat) (v : Int × Int) => spec_GetVar.l2v1 n a0 x_1 v.1 v.2) (fun (v : Int × Int) => match v with | (x_9, x_10) => (⟨[], [.one (.imm 5 a0), D_, D_, D_, .one (.lit (.int .i64 x_1)), .one (.lit (.int .i64 x_9)), .one (.lit (.int .i64 x_10)), D_, D_, D_, D_, D_, D_, D_, D_, D_, D_, D_, D_, D_, D_, D_, D_, D_, D_, D_, D_, D_, D_, D_, D_, D_, D_, D_, D_, D_, D_, D_, D_, D_, D_, D_, D_, D_, D_, D_, D_, D_, D_, D_, D_, D_, D_, D_, D_], [[], [], [], [], [], [], [], [], [], [], [], [], [], [], [], [], [], [], [], [], [], [], [], [], [], [], [], [], [], [], [], [], [], [], [], [], [], [], [], [], [], [], [], [], [], [], [], [], [], [], [], [], [], [], [], []], []⟩ : S tab)) n0 (0, x_1) (by subst hO; rfl) rfl (fun _ => rfl) ?_
          intro n2 hn2 ih2 v2
          obtain ⟨x_9, x_10⟩ := v2
          refine Le.eqS 0 (by conv => lhs; cbv) ?_
          show Le F O M _ _ (spec_GetVar.l2v1 (n2 + 1) a0 x_1 x_9 x_10) _
          rw [spec_GetVar.l2v1]
          refine Le.condP 0 0 (by subst hO; rfl) (by conv => lhs; cbv) (by conv => lhs; cbv) ?_ ?_
          · refine Le.guardP 0 (by subst hO; rfl) (by conv => lhs; cbv) ?_
            refine Le.guardP 0 (by subst hO; rfl) (by conv => lhs; cbv) ?_
            refine Le.guardN 0 (by subst hO; rfl) (by conv => lhs; cbv) ?_
            exact Le.again (ih2 n2 (by omega) ((O.wrap .i64 (O.add (O.wrap .i64 (O.mul x_9 128)) (O.rem (O.wrap .i64 (O.get 0 a0 x_10)) 128))), (O.wrap .i64 (O.sub x_10 1)))) (by subst hO; rfl) rfl
          · refine Le.callC 0 (fi := fi28) rfl (spec_PutVar.le O hO n2 x_9) (by subst hO; rfl) (by intro r11; conv => lhs; cbv) ?_
            intro r11
            refine Le.condN 0 0 (by subst hO; exact (Bool.not_not _).symm) (by conv => lhs; cbv) (by conv => lhs; cbv) ?_ ?_
            · exact Le.ret2 (by subst hO; rfl)
            · exact Le.ret2 (by subst hO; rfl)
  · refine Le.condP 3 2 (by subst hO; rfl) (by conv => lhs; cbv) (by conv => lhs; cbv) ?_ ?_
    · exact Le.ret2 (by subst hO; rfl)
    · refine Le.condP 0 0 (by subst hO; rfl) (by conv => lhs; cbv) (by conv => lhs; cbv) ?_ ?_
      · exact Le.ret2 (by subst hO; rfl)
      · refine Le.loopS (fun (n : Nat) (v : Int × Int) => spec_GetVar.l2v2 n a0 x_1 v.1 v.2) (fun (v : Int × Int) => match v with | (x_14, x_15) => (⟨[], [.one (.imm 5 a0), D_, D_, D_, .one (.lit (.int .i64 x_1)), .one (.lit (.int .i64 x_14)), .one (.lit (.int .i64 x_15)), D_, D_, D_, D_, D_, D_, D_, D_, D_, D_, D_, D_, D_, D_, D_, D_, D_, D_, D_, D_, D_, D_, D_, D_, D_, D_, D_, D_, D_, D_, D_, D_, D_, D_, D_, D_, D_, D_, D_, D_, D_, D_, D_, D_, D_, D_, D_, D_], [[], [], [], [], [], [], [], [], [], [], [], [], [], [], [], [], [], [], [], [], [], [], [], [], [], [], [], [], [], [], [], [], [], [], [], [], [], [], [], [], [], [], [], [], [], [], [], [], [], [], [], [], [], [], [], []], []⟩ : S tab)) n0 (0, x_1) (by subst hO; rfl) rfl (fun _ => rfl) ?_
        intro n2 hn2 ih2 v2
        obtain ⟨x_14, x_15⟩ := v2
        refine Le.eqS 0 (by conv => lhs; cbv) ?_
        show Le F O M _ _ (spec_GetVar.l2v2 (n2 + 1) a0 x_1 x_14 x_15) _
        rw [spec_GetVar.l2v2]
        refine Le.condP 0 0 (by subst hO; rfl) (by conv => lhs; cbv) (by conv => lhs; cbv) ?_ ?_
        · refine Le.guardP 0 (by subst hO; rfl) (by conv => lhs; cbv) ?_
          refine Le.guardP 0 (by subst hO; rfl) (by conv => lhs; cbv) ?_
          refine Le.guardN 0 (by subst hO; rfl) (by conv => lhs; cbv) ?_
          exact Le.again (ih2 n2 (by omega) ((O.wrap .i64 (O.add (O.wrap .i64 (O.mul x_14 128)) (O.rem (O.wrap .i64 (O.get 0 a0 x_15)) 128))), (O.wrap .i64 (O.sub x_15 1)))) (by subst hO; rfl) rfl
        · refine Le.callC 0 (fi := fi28) rfl (spec_PutVar.le O hO n2 x_14) (by subst hO; rfl) (by intro r16; conv => lhs; cbv) ?_
          intro r16
          refine Le.condN 0 0 (by subst hO; exact (Bool.not_not _).symm) (by conv => lhs; cbv) (by conv => lhs; cbv) ?_ ?_
          · exact Le.ret2 (by subst hO; rfl)
          · exact Le.ret2 (by subst hO; rfl)
/-! ### loop.example/g00100/spec.GetWord -/
def spec_GetWord.e (r : Int × Bool) : Res tab := (([], []), .tup [(false, [.lit (.int .u32 r.1)]), (false, [.lit (.bool r.2)])])
def spec_GetWord.f (a0 : List Int) : Option (Int × Bool) := (if (a0.length : Int) = 4 then (if 0 ≤ 0 then (if 0 < (a0.length : Int) then (if 0 ≤ 1 then (if 1 < (a0.length : Int) then (if 0 ≤ 2 then (if 2 < (a0.length : Int) then (if 0 ≤ 3 then (if 3 < (a0.length : Int) then (some ((IntKind.wrap .u32 (IntKind.wrap .i64 ((IntKind.wrap .i64 ((IntKind.wrap .i64 ((IntKind.wrap .i64 (a0.getD (Int.toNat 0) 0)) + (IntKind.wrap .i64 (256 * (IntKind.wrap .i64 (a0.getD (Int.toNat 1) 0)))))) + (IntKind.wrap .i64 (65536 * (IntKind.wrap .i64 (a0.getD (Int.toNat 2) 0)))))) + (IntKind.wrap .i64 (16777216 * (IntKind.wrap .i64 (a0.getD (Int.toNat 3) 0))))))), true)) else none) else none) else none) else none) else none) else none) else none) else none) else (some (0, false)))
theorem spec_GetWord.le (O : Prim) (hO : O = std) (a0 : List Int) : Le F O M fi29.kills spec_GetWord.e (spec_GetWord.f a0) (den O M fi29.kills fi29.fn fi29.body (tab.gives 29) (M 29) [.one (.imm 5 a0)] : Tr tab) := by
  refine Le.eqS 0 (by conv => lhs; cbv) ?_
  unfold spec_GetWord.f
  refine Le.condN 0 0 (by subst hO; exact (Bool.not_not _).symm) (by conv => lhs; cbv) (by conv => lhs; cbv) ?_ ?_
  · exact Le.ret2 (by subst hO; rfl)
  · refine Le.guardP 0 (by subst hO; rfl) (by conv => lhs; cbv) ?_
    refine Le.guardP 0 (by subst hO; rfl) (by conv => lhs; cbv) ?_
    refine Le.guardP 0 (by subst hO; rfl) (by conv => lhs; cbv) ?_
    refine Le.guardP 0 (by subst hO; rfl) (by conv => lhs; cbv) ?_
    refine Le.guardP 0 (by subst hO; rfl) (by conv => lhs; cbv) ?_
    refine Le.guardP 0 (by subst hO; rfl) (by conv => lhs; cbv) ?_
    refine Le.guardP 0 (by subst hO; rfl) (by conv => lhs; cbv) ?_
    refine Le.guardP 0 (by subst hO; rfl) (by conv => lhs; cbv) ?_
    exact Le.ret2 (by subst hO; rfl)
/-! ### loop.example/g00100/spec.l01In -/
def spec_l01In.e (r : Bool) : Res tab := (([], []), .one (.lit (.bool r)))
def spec_l01In.f (a0 : Int) (a1 : Int) (a2 : Int) : Option Bool := (if a1 ≤ a0 then (some (decide (a0 ≤ a2))) else (some false))
theorem spec_l01In.le (O : Prim) (hO : O = std) (a0 : Int) (a1 : Int) (a2 : Int) : Le F O M fi32.kills spec_l01In.e (spec_l01In.f a0 a1 a2) (den O M fi32.kills fi32.fn fi32.body (tab.gives 32) (M 32) [.one (.lit (.int .i64 a0)), .one (.lit (.int .i64 a1)), .one (.lit (.int .i64 a2))] : Tr tab) := by
  refine Le.eqS 0 (by conv => lhs; cbv) ?_
  unfold spec_l01In.f
  refine Le.condP 3 3 (by subst hO; rfl) (by conv => lhs; cbv) (by conv => lhs; cbv) ?_ ?_
  · exact Le.ret2 (by subst hO; rfl)
  · exact Le.ret2 (by subst hO; rfl)
/-! ### loop.example/g00100/spec.SigLen -/
def spec_SigLen.e (r : Int) : Res tab := (([], []), .one (.lit (.int .i64 r)))
def spec_SigLen.f (a0 : GSig) : Option Int := ((spec_l01In.f a0.Size 1 256).bind fun r0 => (if r0 = true then ((spec_l01In.f a0.Rest 0 (IntKind.wrap .i64 (a0.Size - 1))).bind fun r1 => (if r1 = true then (if 2500 < (a0.Weak.length : Int) then (some 0) else (if 0 < a0.Rest then (if 0 < (IntKind.wrap .i64 (a0.Size * (a0.Weak.length : Int))) then (some (IntKind.wrap .i64 ((IntKind.wrap .i64 ((IntKind.wrap .i64 (a0.Size * (a0.Weak.length : Int))) - a0.Size)) + a0.Rest))) else (some (IntKind.wrap .i64 (a0.Size * (a0.Weak.length : Int))))) else (some (IntKind.wrap .i64 (a0.Size * (a0.Weak.length : Int)))))) else (some 0))) else (some 0)))
theorem spec_SigLen.le (O : Prim) (hO : O = std) (a0 : GSig) : Le F O M fi51.kills spec_SigLen.e (spec_SigLen.f a0) (den O M fi51.kills fi51.fn fi51.body (tab.gives 51) (M 51) [.agg [.lit (.int .i64 a0.Size), .lit (.int .i64 a0.Rest), .imm 59 a0.Weak, .imm 9 a0.Strong]] : Tr tab) := by
  refine Le.eqS 0 (by conv => lhs; cbv) ?_
  unfold spec_SigLen.f
  refine Le.callC 0 (fi := fi32) rfl (spec_l01In.le O hO a0.Size 1 256) (by subst hO; rfl) (by intro r0; conv => lhs; cbv) ?_
  intro r0
  refine Le.condN 13 5 (by subst hO; exact Bool.decide_eq_true.trans (Bool.not_not _).symm) (by conv => lhs; cbv) (by conv => lhs; cbv) ?_ ?_
  · exact Le.ret2 (by subst hO; rfl)
  · refine Le.callC 2 (fi := fi32) rfl (spec_l01In.le O hO a0.Rest 0 (O.wrap .i64 (O.sub a0.Size 1))) (by subst hO; rfl) (by intro r1; conv => lhs; cbv) ?_
    intro r1
    refine Le.condN 5 4 (by subst hO; exact Bool.decide_eq_true.trans (Bool.not_not _).symm) (by conv => lhs; cbv) (by conv => lhs; cbv) ?_ ?_
    · exact Le.ret2 (by subst hO; rfl)
    · refine Le.condP 0 0 (by subst hO; rfl) (by conv => lhs; cbv) (by conv => lhs; cbv) ?_ ?_
      · exact Le.ret2 (by subst hO; rfl)
      · refine Le.condP 2 3 (by subst hO; rfl) (by conv => lhs; cbv) (by conv => lhs; cbv) ?_ ?_
        · refine Le.condP 0 0 (by subst hO; rfl) (by conv => lhs; cbv) (by conv => lhs; cbv) ?_ ?_
          · exact Le.ret2 (by subst hO; rfl)
          · exact Le.ret2 (by subst hO; rfl)
        · exact Le.ret2 (by subst hO; rfl)
/-! ### loop.example/g00100/spec.SigOk -/
def spec_SigOk.e (r : Bool) : Res tab := (([], []), .one (.lit (.bool r)))
def spec_SigOk.l0 : Nat → GSig → Int → Option Bool
  | 0, _, _ => none
  | k + 1, a0, x_3 => (if x_3 < (a0.Strong.length : Int) then (if 0 ≤ x_3 then (if x_3 < (a0.Strong.length : Int) then (if ((a0.Strong.getD (Int.toNat x_3) (⟨#[]⟩ : ByteArray)).size : Int) = 4 then (spec_SigOk.l0 k a0 (IntKind.wrap .i64 (x_3 + 1))) else (some false)) else none) else none) else (if a0.Rest = 0 then ((spec_SigLen.f a0).bind fun r4 => (some (decide (r4 ≤ 20000)))) else (if 0 < (a0.Weak.length : Int) then ((spec_SigLen.f a0).bind fun r5 => (some (decide (r5 ≤ 20000)))) else (some false))))
def spec_SigOk.f (k : Nat) (a0 : GSig) : Option Bool := ((spec_l01In.f a0.Size 1 256).bind fun r0 => (if r0 = true then ((spec_l01In.f a0.Rest 0 (IntKind.wrap .i64 (a0.Size - 1))).bind fun r1 => (if r1 = true then (if 2500 < (a0.Weak.length : Int) then (some false) else (if (a0.Weak.length : Int) = (a0.Strong.length : Int) then (spec_SigOk.l0 k a0 0) else (some false))) else (some false))) else (some false)))
theorem spec_SigOk.le (O : Prim) (hO : O = std) (k : Nat) (a0 : GSig) : Le F O M fi30.kills spec_SigOk.e (spec_SigOk.f k a0) (den O M fi30.kills fi30.fn fi30.body (tab.gives 30) (M 30) [.agg [.lit (.int .i64 a0.Size), .lit (.int .i64 a0.Rest), .imm 59 a0.Weak, .imm 9 a0.Strong]] : Tr tab) := by
  refine Le.eqS 0 (by conv => lhs; cbv) ?_
  unfold spec_SigOk.f
  refine Le.callC 0 (fi := fi32) rfl (spec_l01In.le O hO a0.Size 1 256) (by subst hO; rfl) (by intro r0; conv => lhs; cbv) ?_
  intro r0
  refine Le.condN 21 5 (by subst hO; exact Bool.decide_eq_true.trans (Bool.not_not _).symm) (by conv => lhs; cbv) (by conv => lhs; cbv) ?_ ?_
  · exact Le.ret2 (by subst hO; rfl)
  · refine Le.callC 2 (fi := fi32) rfl (spec_l01In.le O hO a0.Rest 0 (O.wrap .i64 (O.sub a0.Size 1))) (by subst hO; rfl) (by intro r1; conv => lhs; cbv) ?_
    intro r1
    refine Le.condN 13 4 (by subst hO; exact Bool.decide_eq_true.trans (Bool.not_not _).symm) (by conv => lhs; cbv) (by conv => lhs; cbv) ?_ ?_
    · exact Le.ret2 (by subst hO; rfl)
    · refine Le.condP 8 7 (by subst hO; rfl) (by conv => lhs; cbv) (by conv => lhs; cbv) ?_ ?_
      · exact Le.ret2 (by subst hO; rfl)
      · refine Le.condN 0 0 (by subst hO; exact (Bool.not_not _).symm) (by conv => lhs; cbv) (by conv => lhs; cbv) ?_ ?_
        · exact Le.ret2 (by subst hO; rfl)
        · refine Le.loopS (fun (n : Nat) (v : Int) => spec_SigOk.l0 n a0 v) (fun (x_3 : Int) => (⟨[], [D_, .one (.ptr ⟨5, 0, []⟩), D_, .one (.lit (.int .i64 x_3)), D_, D_, D_, D_, D_, D_, D_, D_, D_, D_, D_, D_, D_, D_, D_, D_, D_, D_, D_, D_, D_, D_, D_, D_, D_, D_, D_, D_, D_, D_, D_, D_, D_, D_, D_, D_, D_, D_, D_, D_, D_, D_, D_, D_, D_, D_, D_, D_, D_, D_, D_, D_, D_, D_, D_, D_], [[], [.lit (.int .i64 a0.Size), .lit (.int .i64 a0.Rest), .imm 59 a0.Weak, .imm 9 a0.Strong], [], [], [], [], [], [], [], [], [], [], [], [], [], [], [], [], [], [], [], [], [], [], [], [], [], [], [], [], [], [], [], [], [], [], [], [], [], [], [], [], [], [], [], [], [], [], [], [], [], [], [], [], [], [], [], [], [], [], []], []⟩ : S tab)) k 0 (by subst hO; rfl) rfl (fun _ => rfl) ?_
          intro n0 hn0 ih0 x_3
          refine Le.eqS 0 (by conv => lhs; cbv) ?_
          show Le F O M _ _ (spec_SigOk.l0 (n0 + 1) a0 x_3) _
          rw [spec_SigOk.l0]
          refine Le.condP 0 0 (by subst hO; rfl) (by conv => lhs; cbv) (by conv => lhs; cbv) ?_ ?_
          · refine Le.guardP 0 (by subst hO; rfl) (by conv => lhs; cbv) ?_
            refine Le.guardP 0 (by subst hO; rfl) (by conv => lhs; cbv) ?_
            refine Le.condN 0 0 (by subst hO; exact (Bool.not_not _).symm) (by conv => lhs; cbv) (by conv => lhs; cbv) ?_ ?_
            · exact Le.ret2 (by subst hO; rfl)
            · exact Le.again (ih0 n0 (by omega) (O.wrap .i64 (O.add x_3 1))) (by subst hO; rfl) rfl
          · refine Le.condP 6 4 (by subst hO; rfl) (by conv => lhs; cbv) (by conv => lhs; cbv) ?_ ?_
            · refine Le.callC 2 (fi := fi51) rfl (spec_SigLen.le O hO a0) (by subst hO; rfl) (by intro r4; conv => lhs; cbv) ?_
              intro r4
              exact Le.ret2 (by subst hO; rfl)
            · refine Le.condP 1 3 (by subst hO; rfl) (by conv => lhs; cbv) (by conv => lhs; cbv) ?_ ?_
              · refine Le.callC 2 (fi := fi51) rfl (spec_SigLen.le O hO a0) (by subst hO; rfl) (by intro r5; conv => lhs; cbv) ?_
                intro r5
                exact Le.ret2 (by subst hO; rfl)
              · exact Le.ret2 (by subst hO; rfl)
/-! ### loop.example/g00100/spec.GetSig -/
def spec_GetSig.e (r : GSig × Bool) : Res tab := (([], []), .tup [(true, [.lit (.int .i64 r.1.Size), .lit (.int .i64 r.1.Rest), .own 59 r.1.Weak, .own 9 r.1.Strong]), (false, [.lit (.bool r.2)])])
def spec_GetSig.l2 : Nat → (List Int) → (List Int) → Int → (List Int) → (List ByteArray) → Option (GSig × Bool)
  | 0, _, _, _, _, _ => none
  | k + 1, x4, x_5, x_12, b_13, b_14 => (if x_12 < (x4.length : Int) then (if 0 ≤ x_12 then (if x_12 ≤ (IntKind.wrap .i64 (x_12 + 4)) then (if (IntKind.wrap .i64 (x_12 + 4)) ≤ (x4.length : Int) then ((spec_GetWord.f (std.ext x4 x_12 (IntKind.wrap .i64 (x_12 + 4)))).bind fun r15 => (if (((b_13.length : Int) + ([r15.1].length : Int)) * 4) ≤ 140737488351232 then (if 0 ≤ (IntKind.wrap .i64 (x_12 + 4)) then (if (IntKind.wrap .i64 (x_12 + 4)) ≤ (IntKind.wrap .i64 (x_12 + 8)) then (if (IntKind.wrap .i64 (x_12 + 8)) ≤ (x4.length : Int) then (if (((b_14.length : Int) + ([(std.strOf (std.ext x4 (IntKind.wrap .i64 (x_12 + 4)) (IntKind.wrap .i64 (x_12 + 8))))].length : Int)) * 16) ≤ 140737488351232 then (spec_GetSig.l2 k x4 x_5 (IntKind.wrap .i64 (x_12 + 8)) (b_13 ++ [r15.1]) (b_14 ++ [(std.strOf (std.ext x4 (IntKind.wrap .i64 (x_12 + 4)) (IntKind.wrap .i64 (x_12 + 8))))])) else none) else none) else none) else none) else none)) else none) else none) else none) else ((spec_SigOk.f k (⟨(x_5.getD (Int.toNat 0) 0), (x_5.getD (Int.toNat 1) 0), b_13, b_14⟩ : GSig)).bind fun r16 => (if r16 = true then (some ((⟨(x_5.getD (Int.toNat 0) 0), (x_5.getD (Int.toNat 1) 0), b_13, b_14⟩ : GSig), true)) else (some ((⟨0, 0, ([] : List Int), ([] : List ByteArray)⟩ : GSig), false)))))
def spec_GetSig.l0 : Nat → (List Int) → (List Int) → Option (GSig × Bool)
  | 0, _, _ => none
  | k + 1, x4, x_5 => (if (x_5.length : Int) < 3 then ((spec_GetVar.f k x4).bind fun r6 => (if r6.2 = 0 then (some ((⟨0, 0, ([] : List Int), ([] : List ByteArray)⟩ : GSig), false)) else (if (((x_5.length : Int) + ([r6.1].length : Int)) * 8) ≤ 140737488351232 then (if 0 ≤ r6.2 then (if r6.2 ≤ (x4.length : Int) then (if (x4.length : Int) ≤ (x4.length : Int) then (spec_GetSig.l0 k (std.ext x4 r6.2 (x4.length : Int)) (x_5 ++ [r6.1])) else none) else none) else none) else none))) else (if 0 ≤ 2 then (if 2 < (x_5.length : Int) then (if 2500 < (x_5.getD (Int.toNat 2) 0) then (some ((⟨0, 0, ([] : List Int), ([] : List ByteArray)⟩ : GSig), false)) else (if 0 ≤ 2 then (if 2 < (x_5.length : Int) then (if (x4.length : Int) = (IntKind.wrap .i64 (8 * (x_5.getD (Int.toNat 2) 0))) then (if 0 ≤ 0 then (if 0 < (x_5.length : Int) then (if 0 ≤ 1 then (if 1 < (x_5.length : Int) then (spec_GetSig.l2 k x4 x_5 0 ([] : List Int) ([] : List ByteArray)) else none) else none) else none) else none) else (some ((⟨0, 0, ([] : List Int), ([] : List ByteArray)⟩ : GSig), false))) else none) else none)) else none) else none))
def spec_GetSig.f (k : Nat) (a0 : List Int) : Option (GSig × Bool) := (spec_GetSig.l0 k a0 ([] : List Int))
theorem spec_GetSig.le (O : Prim) (hO : O = std) (k : Nat) (a0 : List Int) : Le F O M fi13.kills spec_GetSig.e (spec_GetSig.f k a0) (den O M fi13.kills fi13.fn fi13.body (tab.gives 13) (M 13) [.one (.imm 5 a0)] : Tr tab) := by
  refine Le.eqS 0 (by conv => lhs; cbv) ?_
  unfold spec_GetSig.f
  refine Le.loopS (fun (n : Nat) (v : List Int × List Int) => spec_GetSig.l0 n v.1 v.2) (fun (v : List Int × List Int) => match v with | (x4, x_5) => (⟨[], [.one (.imm 5 x4), D_, .one (.ptr ⟨7, 0, []⟩), D_, .one (.ptr ⟨11, 0, []⟩), .one (.own 3 x_5), D_, D_, D_, D_, D_, D_, D_, D_, D_, D_, D_, D_, D_, D_, D_, D_, D_, D_, D_, D_, D_, D_, D_, D_, D_, D_, D_, D_, D_, D_, D_, D_, D_, D_, D_, D_, D_, D_, D_, D_, D_, D_, D_, D_, D_, D_, D_, D_, D_, D_, D_, D_, D_, D_, D_, D_, D_, D_, D_, D_, D_, D_, D_, D_, D_, D_, D_, D_, D_, D_, D_, D_, D_, D_, D_, D_, D_, D_, D_, D_, D_, D_, D_, D_, D_], [[], [], [.lit (.int .i64 0), .lit (.int .i64 0), .own 59 ([] : List Int), .own 9 ([] : List ByteArray)], [], [.lit (.int .i64 0), .lit (.int .i64 0), .own 59 ([] : List Int), .own 9 ([] : List ByteArray)], [], [], [], [], [], [], [], [], [], [], [], [], [], [], [], [], [], [], [], [], [], [], [], [], [], [], [], [], [], [], [], [], [], [], [], [], [], [], [], [], [], [], [], [], [], [], [], [], [], [], [], [], [], [], [], [], [], [], [], [], [], [], [], [], [], [], [], [], [], [], [], [], [], [], [], [], [], [], [], [], [], [], [], [], [], [], []], []⟩ : S tab)) k (a0, ([] : List Int)) (by subst hO; rfl) rfl (fun _ => rfl) ?_
  intro n0 hn0 ih0 v0
  obtain ⟨x4, x_5⟩ := v0
  refine Le.eqS 0 (by conv => lhs; cbv) ?_
  show Le F O M _ _ (spec_GetSig.l0 (n0 + 1) x4 x_5) _
  rw [spec_GetSig.l0]
  refine Le.condP 0 0 (by subst hO; rfl) (by conv => lhs; cbv) (by conv => lhs; cbv) ?_ ?_
  · refine Le.callC 0 (fi := fi12) rfl (spec_GetVar.le O hO n0 x4) (by subst hO; rfl) (by intro r6; conv => lhs; cbv) ?_
    intro r6
    refine Le.condP 0 0 (by subst hO; rfl) (by conv => lhs; cbv) (by conv => lhs; cbv) ?_ ?_
    · exact Le.ret2 (by subst hO; rfl)
    · refine Le.guardP 0 (by subst hO; rfl) (by conv => lhs; cbv) ?_
      refine Le.guardP 0 (by subst hO; rfl) (by conv => lhs; cbv) ?_
      refine Le.guardP 0 (by subst hO; rfl) (by conv => lhs; cbv) ?_
      refine Le.guardP 0 (by subst hO; rfl) (by conv => lhs; cbv) ?_
      exact Le.again (ih0 n0 (by omega) ((O.ext x4 r6.2 (O.len x4)), (O.app x_5 [r6.1]))) (by subst hO; rfl) rfl
  · refine Le.guardP 0 (by subst hO; rfl) (by conv => lhs; cbv) ?_
    refine Le.guardP 0 (by subst hO; rfl) (by conv => lhs; cbv) ?_
    refine Le.condP 8 3 (by subst hO; rfl) (by conv => lhs; cbv) (by conv => lhs; cbv) ?_ ?_
    · exact Le.ret2 (by subst hO; rfl)
    · refine Le.guardP 0 (by subst hO; rfl) (by conv => lhs; cbv) ?_
      refine Le.guardP 4 (by subst hO; rfl) (by conv => lhs; cbv) ?_
      refine Le.condN 0 0 (by subst hO; exact (Bool.not_not _).symm) (by conv => lhs; cbv) (by conv => lhs; cbv) ?_ ?_
      · exact Le.ret2 (by subst hO; rfl)
      · refine Le.guardP 0 (by subst hO; rfl) (by conv => lhs; cbv) ?_
        refine Le.guardP 0 (by subst hO; rfl) (by conv => lhs; cbv) ?_
        refine Le.guardP 0 (by subst hO; rfl) (by conv => lhs; cbv) ?_
        refine Le.guardP 0 (by subst hO; rfl) (by conv => lhs; cbv) ?_
        refine Le.loopS (fun (n : Nat) (v : Int × List Int × List ByteArray) => spec_GetSig.l2 n x4 x_5 v.1 v.2.1 v.2.2) (fun (v : Int × List Int × List ByteArray) => match v with | (x_12, b_13, b_14) => (⟨[], [.one (.imm 5 x4), D_, .one (.ptr ⟨7, 0, []⟩), D_, .one (.ptr ⟨11, 0, []⟩), D_, D_, D_, .one (.lit (.int .i64 x_12)), D_, D_, D_, D_, D_, D_, D_, D_, D_, D_, D_, D_, D_, D_, D_, D_, D_, D_, D_, D_, D_, D_, D_, D_, D_, D_, D_, D_, D_, D_, D_, D_, D_, D_, D_, D_, D_, D_, D_, D_, D_, D_, D_, D_, D_, D_, D_, D_, D_, D_, D_, D_, D_, D_, D_, D_, D_, D_, D_, D_, D_, D_, D_, D_, D_, D_, D_, D_, D_, D_, D_, D_, D_, D_, D_, D_, D_, D_, D_, D_, D_, D_], [[], [], [.lit (.int .i64 0), .lit (.int .i64 0), .own 59 ([] : List Int), .own 9 ([] : List ByteArray)], [], [.lit (.int .i64 (O.get 0 x_5 0)), .lit (.int .i64 (O.get 0 x_5 1)), .own 59 b_13, .own 9 b_14], [], [], [], [], [], [], [], [], [], [], [], [], [], [], [], [], [], [], [], [], [], [], [], [], [], [], [], [], [], [], [], [], [], [], [], [], [], [], [], [], [], [], [], [], [], [], [], [], [], [], [], [], [], [], [], [], [], [], [], [], [], [], [], [], [], [], [], [], [], [], [], [], [], [], [], [], [], [], [], [], [], [], [], [], [], [], []], []⟩ : S tab)) n0 (0, ([] : List Int), ([] : List ByteArray)) (by subst hO; rfl) rfl (fun _ => rfl) ?_
        intro n2 hn2 ih2 v2
        obtain ⟨x_12, b_13, b_14⟩ := v2
        refine Le.eqS 0 (by conv => lhs; cbv) ?_
        show Le F O M _ _ (spec_GetSig.l2 (n2 + 1) x4 x_5 x_12 b_13 b_14) _
        rw [spec_GetSig.l2]
        refine Le.condP 0 0 (by subst hO; rfl) (by conv => lhs; cbv) (by conv => lhs; cbv) ?_ ?_
        · refine Le.guardP 0 (by subst hO; rfl) (by conv => lhs; cbv) ?_
          refine Le.guardP 0 (by subst hO; rfl) (by conv => lhs; cbv) ?_
          refine Le.guardP 0 (by subst hO; rfl) (by conv => lhs; cbv) ?_
          refine Le.callC 0 (fi := fi29) rfl (spec_GetWord.le O hO (O.ext x4 x_12 (O.wrap .i64 (O.add x_12 4)))) (by subst hO; rfl) (by intro r15; conv => lhs; cbv) ?_
          intro r15
          refine Le.guardP 0 (by subst hO; rfl) (by conv => lhs; cbv) ?_
          refine Le.guardP 0 (by subst hO; rfl) (by conv => lhs; cbv) ?_
          refine Le.guardP 0 (by subst hO; rfl) (by conv => lhs; cbv) ?_
          refine Le.guardP 0 (by subst hO; rfl) (by conv => lhs; cbv) ?_
          refine Le.guardP 0 (by subst hO; rfl) (by conv => lhs; cbv) ?_
          exact Le.again (ih2 n2 (by omega) ((O.wrap .i64 (O.add x_12 8)), (O.app b_13 [r15.1]), (O.app b_14 [(O.strOf (O.ext x4 (O.wrap .i64 (O.add x_12 4)) (O.wrap .i64 (O.add x_12 8))))]))) (by subst hO; rfl) rfl
        · refine Le.callC 0 (fi := fi30) rfl (spec_SigOk.le O hO n2 (⟨(O.get 0 x_5 0), (O.get 0 x_5 1), b_13, b_14⟩ : GSig)) (by subst hO; rfl) (by intro r16; conv => lhs; cbv) ?_
          intro r16
          refine Le.condN 0 0 (by subst hO; exact Bool.decide_eq_true.trans (Bool.not_not _).symm) (by conv => lhs; cbv) (by conv => lhs; cbv) ?_ ?_
          · exact Le.ret2 (by subst hO; rfl)
          · exact Le.ret2 (by subst hO; rfl)
/-! ### loop.example/g00100/spec.l18NoSig -/
def spec_l18NoSig.e (r : Bool) : Res tab := (([], []), .one (.lit (.bool r)))
def spec_l18NoSig.f (a0 : GSig) : Option Bool := (if a0.Size = 0 then (if a0.Rest = 0 then (if (a0.Weak.length : Int) = 0 then (some (decide ((a0.Strong.length : Int) = 0))) else (some false)) else (some false)) else (some false))
theorem spec_l18NoSig.le (O : Prim) (hO : O = std) (a0 : GSig) : Le F O M fi33.kills spec_l18NoSig.e (spec_l18NoSig.f a0) (den O M fi33.kills fi33.fn fi33.body (tab.gives 33) (M 33) [.agg [.lit (.int .i64 a0.Size), .lit (.int .i64 a0.Rest), .imm 59 a0.Weak, .imm 9 a0.Strong]] : Tr tab) := by
  refine Le.eqS 0 (by conv => lhs; cbv) ?_
  unfold spec_l18NoSig.f
  refine Le.condP 3 13 (by subst hO; rfl) (by conv => lhs; cbv) (by conv => lhs; cbv) ?_ ?_
  · refine Le.condP 4 9 (by subst hO; rfl) (by conv => lhs; cbv) (by conv => lhs; cbv) ?_ ?_
    · refine Le.condP 4 4 (by subst hO; rfl) (by conv => lhs; cbv) (by conv => lhs; cbv) ?_ ?_
      · exact Le.ret2 (by subst hO; rfl)
      · exact Le.ret2 (by subst hO; rfl)
    · exact Le.ret2 (by subst hO; rfl)
  · exact Le.ret2 (by subst hO; rfl)
/-! ### loop.example/g00100/spec.TokenOk -/
def spec_TokenOk.e (r : Bool) : Res tab := (([], []), .one (.lit (.bool r)))
def spec_TokenOk.f (a0 : GToken) : Option Bool := (if a0.Kind = 0 then ((spec_l01In.f (a0.Data.size : Int) 1 100).bind fun r0 => (if r0 = true then (if a0.From = 0 then (some (decide (a0.Count = 0))) else (some false)) else (some false))) else (if a0.Kind = 1 then (if a0.Data = (⟨#[]⟩ : ByteArray) then (if 0 ≤ a0.From then (some (decide (1 ≤ a0.Count))) else (some false)) else (some false)) else (some false)))
theorem spec_TokenOk.le (O : Prim) (hO : O = std) (a0 : GToken) : Le F O M fi31.kills spec_TokenOk.e (spec_TokenOk.f a0) (den O M fi31.kills fi31.fn fi31.body (tab.gives 31) (M 31) [.agg [.lit (.int .i64 a0.Kind), .lit (.string a0.Data), .lit (.int .i64 a0.From), .lit (.int .i64 a0.Count)]] : Tr tab) := by
  refine Le.eqS 0 (by conv => lhs; cbv) ?_
  unfold spec_TokenOk.f
  refine Le.condP 0 0 (by subst hO; rfl) (by conv => lhs; cbv) (by conv => lhs; cbv) ?_ ?_
  · refine Le.callC 0 (fi := fi32) rfl (spec_l01In.le O hO (O.ssize a0.Data) 1 100) (by subst hO; rfl) (by intro r0; conv => lhs; cbv) ?_
    intro r0
    refine Le.condP 3 7 (by subst hO; exact Bool.decide_eq_true) (by conv => lhs; cbv) (by conv => lhs; cbv) ?_ ?_
    · refine Le.condP 3 3 (by subst hO; rfl) (by conv => lhs; cbv) (by conv => lhs; cbv) ?_ ?_
      · exact Le.ret2 (by subst hO; rfl)
      · exact Le.ret2 (by subst hO; rfl)
    · exact Le.ret2 (by subst hO; rfl)
  · refine Le.condP 0 0 (by subst hO; rfl) (by conv => lhs; cbv) (by conv => lhs; cbv) ?_ ?_
    · refine Le.condP 3 7 (by subst hO; exact seq_dec _ _) (by conv => lhs; cbv) (by conv => lhs; cbv) ?_ ?_
      · refine Le.condP 3 3 (by subst hO; rfl) (by conv => lhs; cbv) (by conv => lhs; cbv) ?_ ?_
        · exact Le.ret2 (by subst hO; rfl)
        · exact Le.ret2 (by subst hO; rfl)
      · exact Le.ret2 (by subst hO; rfl)
    · exact Le.ret2 (by subst hO; rfl)
/-! ### loop.example/g00100/spec.PutTokens -/
def spec_PutTokens.e (r : List Int) : Res tab := (([], []), .one (.own 5 r))
def spec_PutTokens.l0 : Nat → (List GToken) → (List Int) → Int → Option (List Int)
  | 0, _, _, _ => none
  | k + 1, a0, x_10, x_11 => (if x_11 < (a0.length : Int) then (if 0 ≤ x_11 then (if x_11 < (a0.length : Int) then ((spec_TokenOk.f (a0.getD (Int.toNat x_11) (⟨0, (⟨#[]⟩ : ByteArray), 0, 0⟩ : GToken))).bind fun r12 => (if r12 = true then (if 1000000 < (a0.getD (Int.toNat x_11) (⟨0, (⟨#[]⟩ : ByteArray), 0, 0⟩ : GToken)).From then (some ([] : List Int)) else (if 1000000 < (a0.getD (Int.toNat x_11) (⟨0, (⟨#[]⟩ : ByteArray), 0, 0⟩ : GToken)).Count then (some ([] : List Int)) else (if (a0.getD (Int.toNat x_11) (⟨0, (⟨#[]⟩ : ByteArray), 0, 0⟩ : GToken)).Kind = 0 then ((spec_PutVar.f k (IntKind.wrap .i64 (2 * ((a0.getD (Int.toNat x_11) (⟨0, (⟨#[]⟩ : ByteArray), 0, 0⟩ : GToken)).Data.size : Int)))).bind fun r13 => (if (((x_10.length : Int) + (r13.length : Int)) * 1) ≤ 140737488351232 then (if ((a0.getD (Int.toNat x_11) (⟨0, (⟨#[]⟩ : ByteArray), 0, 0⟩ : GToken)).Data.size : Int) ≤ 140737488351232 then (if ((((x_10 ++ r13).length : Int) + ((std.bytesOf (a0.getD (Int.toNat x_11) (⟨0, (⟨#[]⟩ : ByteArray), 0, 0⟩ : GToken)).Data).length : Int)) * 1) ≤ 140737488351232 then (spec_PutTokens.l0 k a0 ((x_10 ++ r13) ++ (std.bytesOf (a0.getD (Int.toNat x_11) (⟨0, (⟨#[]⟩ : ByteArray), 0, 0⟩ : GToken)).Data)) (IntKind.wrap .i64 (x_11 + 1))) else none) else none) else none)) else ((spec_PutVar.f k (IntKind.wrap .i64 ((IntKind.wrap .i64 (2 * (a0.getD (Int.toNat x_11) (⟨0, (⟨#[]⟩ : ByteArray), 0, 0⟩ : GToken)).Count)) + 1))).bind fun r14 => (if (((x_10.length : Int) + (r14.length : Int)) * 1) ≤ 140737488351232 then ((spec_PutVar.f k (a0.getD (Int.toNat x_11) (⟨0, (⟨#[]⟩ : ByteArray), 0, 0⟩ : GToken)).From).bind fun r15 => (if ((((x_10 ++ r14).length : Int) + (r15.length : Int)) * 1) ≤ 140737488351232 then (spec_PutTokens.l0 k a0 ((x_10 ++ r14) ++ r15) (IntKind.wrap .i64 (x_11 + 1))) else none)) else none))))) else (some ([] : List Int)))) else none) else none) else (if (((x_10.length : Int) + ([0].length : Int)) * 1) ≤ 140737488351232 then (some (x_10 ++ [0])) else none))
def spec_PutTokens.f (k : Nat) (a0 : List GToken) : Option (List Int) := (if 20000 < (a0.length : Int) then (some ([] : List Int)) else (spec_PutTokens.l0 k a0 ([] : List Int) 0))
theorem spec_PutTokens.le (O : Prim) (hO : O = std) (k : Nat) (a0 : List GToken) : Le F O M fi34.kills spec_PutTokens.e (spec_PutTokens.f k a0) (den O M fi34.kills fi34.fn fi34.body (tab.gives 34) (M 34) [.one (.imm 64 a0)] : Tr tab) := by
  refine Le.eqS 0 (by conv => lhs; cbv) ?_
  unfold spec_PutTokens.f
  refine Le.condP 0 0 (by subst hO; rfl) (by conv => lhs; cbv) (by conv => lhs; cbv) ?_ ?_
  · exact Le.ret2 (by subst hO; rfl)
  · refine Le.loopS (fun (n : Nat) (v : List Int × Int) => spec_PutTokens.l0 n a0 v.1 v.2) (fun (v : List Int × Int) => match v with | (x_10, x_11) => (⟨[], [.one (.imm 64 a0), D_, D_, .one (.own 5 x_10), .one (.lit (.int .i64 x_11)), D_, D_, D_, D_, D_, D_, D_, D_, D_, D_, D_, D_, D_, D_, D_, D_, D_, D_, D_, D_, D_, D_, D_, D_, D_, D_, D_, D_, D_, D_, D_, D_, D_, D_, D_, D_, D_, D_, D_, D_, D_, D_, D_, D_, D_, D_, D_, D_, D_, D_, D_, D_, D_, D_, D_, D_, D_, D_, D_, D_], [[], [], [], [], [], [], [], [], [], [], [], [], [], [], [], [], [], [], [], [], [], [], [], [], [], [], [], [], [], [], [], [], [], [], [], [], [], [], [], [], [], [], [], [], [], [], [], [], [], [], [], [], [], [], [], [], [], [], [], [], [], [], [], [], [], []], []⟩ : S tab)) k (([] : List Int), 0) (by subst hO; rfl) rfl (fun _ => rfl) ?_
    intro n0 hn0 ih0 v0
    obtain ⟨x_10, x_11⟩ := v0
    refine Le.eqS 0 (by conv => lhs; cbv) ?_
    show Le F O M _ _ (spec_PutTokens.l0 (n0 + 1) a0 x_10 x_11) _
    rw [spec_PutTokens.l0]
    refine Le.condP 0 0 (by subst hO; rfl) (by conv => lhs; cbv) (by conv => lhs; cbv) ?_ ?_
    · refine Le.guardP 0 (by subst hO; rfl) (by conv => lhs; cbv) ?_
      refine Le.guardP 0 (by subst hO; rfl) (by conv => lhs; cbv) ?_
      refine Le.callC 0 (fi := fi31) rfl (spec_TokenOk.le O hO (O.get (⟨0, (⟨#[]⟩ : ByteArray), 0, 0⟩ : GToken) a0 x_11)) (by subst hO; rfl) (by intro r12; conv => lhs; cbv) ?_
      intro r12
      refine Le.condN 8 3 (by subst hO; exact Bool.decide_eq_true.trans (Bool.not_not _).symm) (by conv => lhs; cbv) (by conv => lhs; cbv) ?_ ?_
      · exact Le.ret2 (by subst hO; rfl)
      · refine Le.condP 4 3 (by subst hO; rfl) (by conv => lhs; cbv) (by conv => lhs; cbv) ?_ ?_
        · exact Le.ret2 (by subst hO; rfl)
        · refine Le.condP 0 0 (by subst hO; rfl) (by conv => lhs; cbv) (by conv => lhs; cbv) ?_ ?_
          · exact Le.ret2 (by subst hO; rfl)
          · refine Le.condP 0 0 (by subst hO; rfl) (by conv => lhs; cbv) (by conv => lhs; cbv) ?_ ?_
            · refine Le.callC 0 (fi := fi28) rfl (spec_PutVar.le O hO n0 (O.wrap .i64 (O.mul 2 (O.ssize (O.get (⟨0, (⟨#[]⟩ : ByteArray), 0, 0⟩ : GToken) a0 x_11).Data)))) (by subst hO; rfl) (by intro r13; conv => lhs; cbv) ?_
              intro r13
              refine Le.guardP 0 (by subst hO; rfl) (by conv => lhs; cbv) ?_
              refine Le.guardP 0 (by subst hO; rfl) (by conv => lhs; cbv) ?_
              refine Le.guardP 0 (by subst hO; rfl) (by conv => lhs; cbv) ?_
              exact Le.again (ih0 n0 (by omega) ((O.app (O.app x_10 r13) (O.bytesOf (O.get (⟨0, (⟨#[]⟩ : ByteArray), 0, 0⟩ : GToken) a0 x_11).Data)), (O.wrap .i64 (O.add x_11 1)))) (by subst hO; rfl) rfl
            · refine Le.callC 0 (fi := fi28) rfl (spec_PutVar.le O hO n0 (O.wrap .i64 (O.add (O.wrap .i64 (O.mul 2 (O.get (⟨0, (⟨#[]⟩ : ByteArray), 0, 0⟩ : GToken) a0 x_11).Count)) 1))) (by subst hO; rfl) (by intro r14; conv => lhs; cbv) ?_
              intro r14
              refine Le.guardP 0 (by subst hO; rfl) (by conv => lhs; cbv) ?_
              refine Le.callC 0 (fi := fi28) rfl (spec_PutVar.le O hO n0 (O.get (⟨0, (⟨#[]⟩ : ByteArray), 0, 0⟩ : GToken) a0 x_11).From) (by subst hO; rfl) (by intro r15; conv => lhs; cbv) ?_
              intro r15
              refine Le.guardP 0 (by subst hO; rfl) (by conv => lhs; cbv) ?_
              exact Le.again (ih0 n0 (by omega) ((O.app (O.app x_10 r14) r15), (O.wrap .i64 (O.add x_11 1)))) (by subst hO; rfl) rfl
    · refine Le.guardP 0 (by subst hO; rfl) (by conv => lhs; cbv) ?_
      exact Le.ret2 (by subst hO; rfl)
/-! ### loop.example/g00100/spec.MsgOk -/
def spec_MsgOk.e (r : Bool) : Res tab := (([], []), .one (.lit (.bool r)))
def spec_MsgOk.f (k : Nat) (a0 : GMsg) : Option Bool := ((spec_l01In.f a0.Place 0 1000).bind fun r0 => (if r0 = true then (if a0.Kind = 0 then ((spec_SigOk.f k a0.Sig).bind fun r1 => (if r1 = true then (if (a0.Tokens.length : Int) = 0 then (some (std.seq a0.Sum (⟨#[]⟩ : ByteArray))) else (some false)) else (some false))) else (if a0.Kind = 1 then ((spec_l18NoSig.f a0.Sig).bind fun r2 => (if r2 = true then ((spec_PutTokens.f k a0.Tokens).bind fun r3 => (if 0 < (r3.length : Int) then (some (decide ((a0.Sum.size : Int) = 16))) else (some false))) else (some false))) else (if a0.Kind = 2 then ((spec_l18NoSig.f a0.Sig).bind fun r4 => (if r4 = true then (if (a0.Tokens.length : Int) = 0 then (some (std.seq a0.Sum (⟨#[]⟩ : ByteArray))) else (some false)) else (some false))) else (some false)))) else (some false)))
theorem spec_MsgOk.le (O : Prim) (hO : O = std) (k : Nat) (a0 : GMsg) : Le F O M fi15.kills spec_MsgOk.e (spec_MsgOk.f k a0) (den O M fi15.kills fi15.fn fi15.body (tab.gives 15) (M 15) [.agg [.lit (.int .i64 a0.Kind), .lit (.int .i64 a0.Place), .lit (.int .i64 a0.Sig.Size), .lit (.int .i64 a0.Sig.Rest), .imm 59 a0.Sig.Weak, .imm 9 a0.Sig.Strong, .imm 64 a0.Tokens, .lit (.string a0.Sum)]] : Tr tab) := by
  refine Le.eqS 0 (by conv => lhs; cbv) ?_
  unfold spec_MsgOk.f
  refine Le.callC 0 (fi := fi32) rfl (spec_l01In.le O hO a0.Place 0 1000) (by subst hO; rfl) (by intro r0; conv => lhs; cbv) ?_
  intro r0
  refine Le.condN 0 0 (by subst hO; exact Bool.decide_eq_true.trans (Bool.not_not _).symm) (by conv => lhs; cbv) (by conv => lhs; cbv) ?_ ?_
  · exact Le.ret2 (by subst hO; rfl)
  · refine Le.condP 0 0 (by subst hO; rfl) (by conv => lhs; cbv) (by conv => lhs; cbv) ?_ ?_
    · refine Le.callC 0 (fi := fi30) rfl (spec_SigOk.le O hO k a0.Sig) (by subst hO; rfl) (by intro r1; conv => lhs; cbv) ?_
      intro r1
      refine Le.condP 4 8 (by subst hO; exact Bool.decide_eq_true) (by conv => lhs; cbv) (by conv => lhs; cbv) ?_ ?_
      · refine Le.condP 3 3 (by subst hO; rfl) (by conv => lhs; cbv) (by conv => lhs; cbv) ?_ ?_
        · exact Le.ret2 (by subst hO; rfl)
        · exact Le.ret2 (by subst hO; rfl)
      · exact Le.ret2 (by subst hO; rfl)
    · refine Le.condP 0 0 (by subst hO; rfl) (by conv => lhs; cbv) (by conv => lhs; cbv) ?_ ?_
      · refine Le.callC 0 (fi := fi33) rfl (spec_l18NoSig.le O hO a0.Sig) (by subst hO; rfl) (by intro r2; conv => lhs; cbv) ?_
        intro r2
        refine Le.condP 2 10 (by subst hO; exact Bool.decide_eq_true) (by conv => lhs; cbv) (by conv => lhs; cbv) ?_ ?_
        · refine Le.callC 3 (fi := fi34) rfl (spec_PutTokens.le O hO k a0.Tokens) (by subst hO; rfl) (by intro r3; conv => lhs; cbv) ?_
          intro r3
          refine Le.condP 4 4 (by subst hO; rfl) (by conv => lhs; cbv) (by conv => lhs; cbv) ?_ ?_
          · exact Le.ret2 (by subst hO; rfl)
          · exact Le.ret2 (by subst hO; rfl)
        · exact Le.ret2 (by subst hO; rfl)
      · refine Le.condP 0 0 (by subst hO; rfl) (by conv => lhs; cbv) (by conv => lhs; cbv) ?_ ?_
        · refine Le.callC 0 (fi := fi33) rfl (spec_l18NoSig.le O hO a0.Sig) (by subst hO; rfl) (by intro r4; conv => lhs; cbv) ?_
          intro r4
          refine Le.condP 4 8 (by subst hO; exact Bool.decide_eq_true) (by conv => lhs; cbv) (by conv => lhs; cbv) ?_ ?_
          · refine Le.condP 3 3 (by subst hO; rfl) (by conv => lhs; cbv) (by conv => lhs; cbv) ?_ ?_
            · exact Le.ret2 (by subst hO; rfl)
            · exact Le.ret2 (by subst hO; rfl)
          · exact Le.ret2 (by subst hO; rfl)
        · exact Le.ret2 (by subst hO; rfl)
/-! ### loop.example/g00100/spec.GetTokens -/
def spec_GetTokens.e (r : List GToken × Bool) : Res tab := (([], []), .tup [(false, [.own 64 r.1]), (false, [.lit (.bool r.2)])])
def spec_GetTokens.l0 : Nat → (List Int) → (List GToken) → Option (List GToken × Bool)
  | 0, _, _ => none
  | k + 1, x10, x_11 => ((spec_GetVar.f k x10).bind fun r12 => (if r12.2 = 0 then (some (([] : List GToken), false)) else (if 0 ≤ r12.2 then (if r12.2 ≤ (x10.length : Int) then (if (x10.length : Int) ≤ (x10.length : Int) then (if r12.1 = 0 then (if ((std.ext x10 r12.2 (x10.length : Int)).length : Int) = 0 then (if 20000 < (x_11.length : Int) then (some (([] : List GToken), false)) else (some (x_11, true))) else (some (([] : List GToken), false))) else (if 2 = 0 then none else (if (Int.tmod r12.1 2) = 0 then (if 2 = 0 then none else (if ((std.ext x10 r12.2 (x10.length : Int)).length : Int) < (IntKind.wrap .i64 (Int.tdiv r12.1 2)) then (some (([] : List GToken), false)) else (if 2 = 0 then none else (if 0 ≤ 0 then (if 0 ≤ (IntKind.wrap .i64 (Int.tdiv r12.1 2)) then (if (IntKind.wrap .i64 (Int.tdiv r12.1 2)) ≤ ((std.ext x10 r12.2 (x10.length : Int)).length : Int) then (if 2 = 0 then none else (if 0 ≤ (IntKind.wrap .i64 (Int.tdiv r12.1 2)) then (if (IntKind.wrap .i64 (Int.tdiv r12.1 2)) ≤ ((std.ext x10 r12.2 (x10.length : Int)).length : Int) then (if ((std.ext x10 r12.2 (x10.length : Int)).length : Int) ≤ ((std.ext x10 r12.2 (x10.length : Int)).length : Int) then ((spec_TokenOk.f (⟨0, (std.strOf (std.ext (std.ext x10 r12.2 (x10.length : Int)) 0 (IntKind.wrap .i64 (Int.tdiv r12.1 2)))), 0, 0⟩ : GToken)).bind fun r13 => (if r13 = true then (if 1000000 < 0 then (some (([] : List GToken), false)) else (if 1000000 < 0 then (some (([] : List GToken), false)) else (if (((x_11.length : Int) + ([(⟨0, (std.strOf (std.ext (std.ext x10 r12.2 (x10.length : Int)) 0 (IntKind.wrap .i64 (Int.tdiv r12.1 2)))), 0, 0⟩ : GToken)].length : Int)) * 40) ≤ 140737488351232 then (spec_GetTokens.l0 k (std.ext (std.ext x10 r12.2 (x10.length : Int)) (IntKind.wrap .i64 (Int.tdiv r12.1 2)) ((std.ext x10 r12.2 (x10.length : Int)).length : Int)) (x_11 ++ [(⟨0, (std.strOf (std.ext (std.ext x10 r12.2 (x10.length : Int)) 0 (IntKind.wrap .i64 (Int.tdiv r12.1 2)))), 0, 0⟩ : GToken)])) else none))) else (some (([] : List GToken), false)))) else none) else none) else none)) else none) else none) else none)))) else ((spec_GetVar.f k (std.ext x10 r12.2 (x10.length : Int))).bind fun r14 => (if r14.2 = 0 then (some (([] : List GToken), false)) else (if 2 = 0 then none else (if 0 ≤ r14.2 then (if r14.2 ≤ ((std.ext x10 r12.2 (x10.length : Int)).length : Int) then (if ((std.ext x10 r12.2 (x10.length : Int)).length : Int) ≤ ((std.ext x10 r12.2 (x10.length : Int)).length : Int) then ((spec_TokenOk.f (⟨1, (⟨#[]⟩ : ByteArray), r14.1, (IntKind.wrap .i64 (Int.tdiv r12.1 2))⟩ : GToken)).bind fun r15 => (if r15 = true then (if 1000000 < r14.1 then (some (([] : List GToken), false)) else (if 1000000 < (IntKind.wrap .i64 (Int.tdiv r12.1 2)) then (some (([] : List GToken), false)) else (if (((x_11.length : Int) + ([(⟨1, (⟨#[]⟩ : ByteArray), r14.1, (IntKind.wrap .i64 (Int.tdiv r12.1 2))⟩ : GToken)].length : Int)) * 40) ≤ 140737488351232 then (spec_GetTokens.l0 k (std.ext (std.ext x10 r12.2 (x10.length : Int)) r14.2 ((std.ext x10 r12.2 (x10.length : Int)).length : Int)) (x_11 ++ [(⟨1, (⟨#[]⟩ : ByteArray), r14.1, (IntKind.wrap .i64 (Int.tdiv r12.1 2))⟩ : GToken)])) else none))) else (some (([] : List GToken), false)))) else none) else none) else none))))))) else none) else none) else none)))
def spec_GetTokens.f (k : Nat) (a0 : List Int) : Option (List GToken × Bool) := (spec_GetTokens.l0 k a0 ([] : List GToken))
theorem spec_GetTokens.le (O : Prim) (hO : O = std) (k : Nat) (a0 : List Int) : Le F O M fi14.kills spec_GetTokens.e (spec_GetTokens.f k a0) (den O M fi14.kills fi14.fn fi14.body (tab.gives 14) (M 14) [.one (.imm 5 a0)] : Tr tab) := by
  refine Le.eqS 0 (by conv => lhs; cbv) ?_
  unfold spec_GetTokens.f
  refine Le.loopS (fun (n : Nat) (v : List Int × List GToken) => spec_GetTokens.l0 n v.1 v.2) (fun (v : List Int × List GToken) => match v with | (x10, x_11) => (⟨[], [.one (.imm 5 x10), D_, D_, D_, .one (.own 64 x_11), D_, D_, D_, D_, D_, D_, D_, D_, D_, D_, D_, D_, D_, D_, D_, D_, D_, D_, D_, D_, D_, D_, D_, D_, D_, D_, D_, D_, D_, D_, D_, D_, D_, D_, D_, D_, D_, D_, D_, D_, D_, D_, D_, D_, D_, D_, D_, D_, D_, D_, D_, D_, D_, D_, D_, D_, D_, D_, D_, D_, D_, D_, D_, D_, D_, D_, D_, D_, D_, D_, D_, D_, D_, D_, D_, D_, D_, D_, D_, D_, D_, D_], [[], [], [], [], [], [], [], [], [], [], [], [], [], [], [], [], [], [], [], [], [], [], [], [], [], [], [], [], [], [], [], [], [], [], [], [], [], [], [], [], [], [], [], [], [], [], [], [], [], [], [], [], [], [], [], [], [], [], [], [], [], [], [], [], [], [], [], [], [], [], [], [], [], [], [], [], [], [], [], [], [], [], [], [], [], [], [], []], []⟩ : S tab)) k (a0, ([] : List GToken)) (by subst hO; rfl) rfl (fun _ => rfl) ?_
  intro n0 hn0 ih0 v0
  obtain ⟨x10, x_11⟩ := v0
  refine Le.eqS 0 (by conv => lhs; cbv) ?_
  show Le F O M _ _ (spec_GetTokens.l0 (n0 + 1) x10 x_11) _
  rw [spec_GetTokens.l0]
  refine Le.callC 0 (fi := fi12) rfl (spec_GetVar.le O hO n0 x10) (by subst hO; rfl) (by intro r12; conv => lhs; cbv) ?_
  intro r12
  refine Le.condP 0 0 (by subst hO; rfl) (by conv => lhs; cbv) (by conv => lhs; cbv) ?_ ?_
  · exact Le.ret2 (by subst hO; rfl)
  · refine Le.guardP 0 (by subst hO; rfl) (by conv => lhs; cbv) ?_
    refine Le.guardP 0 (by subst hO; rfl) (by conv => lhs; cbv) ?_
    refine Le.guardP 0 (by subst hO; rfl) (by conv => lhs; cbv) ?_
    refine Le.condP 0 0 (by subst hO; rfl) (by conv => lhs; cbv) (by conv => lhs; cbv) ?_ ?_
    · refine Le.condN 4 3 (by subst hO; exact (Bool.not_not _).symm) (by conv => lhs; cbv) (by conv => lhs; cbv) ?_ ?_
      · exact Le.ret2 (by subst hO; rfl)
      · refine Le.condP 0 0 (by subst hO; rfl) (by conv => lhs; cbv) (by conv => lhs; cbv) ?_ ?_
        · exact Le.ret2 (by subst hO; rfl)
        · exact Le.ret2 (by subst hO; rfl)
    · refine Le.guardN 0 (by subst hO; rfl) (by conv => lhs; cbv) ?_
      refine Le.condP 0 0 (by subst hO; rfl) (by conv => lhs; cbv) (by conv => lhs; cbv) ?_ ?_
      · refine Le.guardN 0 (by subst hO; rfl) (by conv => lhs; cbv) ?_
        refine Le.condP 0 0 (by subst hO; rfl) (by conv => lhs; cbv) (by conv => lhs; cbv) ?_ ?_
        · exact Le.ret2 (by subst hO; rfl)
        · refine Le.guardN 0 (by subst hO; rfl) (by conv => lhs; cbv) ?_
          refine Le.guardP 0 (by subst hO; rfl) (by conv => lhs; cbv) ?_
          refine Le.guardP 0 (by subst hO; rfl) (by conv => lhs; cbv) ?_
          refine Le.guardP 0 (by subst hO; rfl) (by conv => lhs; cbv) ?_
          refine Le.guardN 0 (by subst hO; rfl) (by conv => lhs; cbv) ?_
          refine Le.guardP 0 (by subst hO; rfl) (by conv => lhs; cbv) ?_
          refine Le.guardP 0 (by subst hO; rfl) (by conv => lhs; cbv) ?_
          refine Le.guardP 0 (by subst hO; rfl) (by conv => lhs; cbv) ?_
          refine Le.callC 0 (fi := fi31) rfl (spec_TokenOk.le O hO (⟨0, (O.strOf (O.ext (O.ext x10 r12.2 (O.len x10)) 0 (O.wrap .i64 (O.quo r12.1 2)))), 0, 0⟩ : GToken)) (by subst hO; rfl) (by intro r13; conv => lhs; cbv) ?_
          intro r13
          refine Le.condN 8 3 (by subst hO; exact Bool.decide_eq_true.trans (Bool.not_not _).symm) (by conv => lhs; cbv) (by conv => lhs; cbv) ?_ ?_
          · exact Le.ret2 (by subst hO; rfl)
          · refine Le.condP 4 3 (by subst hO; rfl) (by conv => lhs; cbv) (by conv => lhs; cbv) ?_ ?_
            · exact Le.ret2 (by subst hO; rfl)
            · refine Le.condP 0 0 (by subst hO; rfl) (by conv => lhs; cbv) (by conv => lhs; cbv) ?_ ?_
              · exact Le.ret2 (by subst hO; rfl)
              · refine Le.guardP 0 (by subst hO; rfl) (by conv => lhs; cbv) ?_
                exact Le.again (ih0 n0 (by omega) ((O.ext (O.ext x10 r12.2 (O.len x10)) (O.wrap .i64 (O.quo r12.1 2)) (O.len (O.ext x10 r12.2 (O.len x10)))), (O.app x_11 [(⟨0, (O.strOf (O.ext (O.ext x10 r12.2 (O.len x10)) 0 (O.wrap .i64 (O.quo r12.1 2)))), 0, 0⟩ : GToken)]))) (by subst hO; rfl) rfl
      · refine Le.callC 0 (fi := fi12) rfl (spec_GetVar.le O hO n0 (O.ext x10 r12.2 (O.len x10))) (by subst hO; rfl) (by intro r14; conv => lhs; cbv) ?_
        intro r14
        refine Le.condP 0 0 (by subst hO; rfl) (by conv => lhs; cbv) (by conv => lhs; cbv) ?_ ?_
        · exact Le.ret2 (by subst hO; rfl)
        · refine Le.guardN 0 (by subst hO; rfl) (by conv => lhs; cbv) ?_
          refine Le.guardP 0 (by subst hO; rfl) (by conv => lhs; cbv) ?_
          refine Le.guardP 0 (by subst hO; rfl) (by conv => lhs; cbv) ?_
          refine Le.guardP 0 (by subst hO; rfl) (by conv => lhs; cbv) ?_
          refine Le.callC 0 (fi := fi31) rfl (spec_TokenOk.le O hO (⟨1, (⟨#[]⟩ : ByteArray), r14.1, (O.wrap .i64 (O.quo r12.1 2))⟩ : GToken)) (by subst hO; rfl) (by intro r15; conv => lhs; cbv) ?_
          intro r15
          refine Le.condN 8 3 (by subst hO; exact Bool.decide_eq_true.trans (Bool.not_not _).symm) (by conv => lhs; cbv) (by conv => lhs; cbv) ?_ ?_
          · exact Le.ret2 (by subst hO; rfl)
          · refine Le.condP 4 3 (by subst hO; rfl) (by conv => lhs; cbv) (by conv => lhs; cbv) ?_ ?_
            · exact Le.ret2 (by subst hO; rfl)
            · refine Le.condP 0 0 (by subst hO; rfl) (by conv => lhs; cbv) (by conv => lhs; cbv) ?_ ?_
              · exact Le.ret2 (by subst hO; rfl)
              · refine Le.guardP 0 (by subst hO; rfl) (by conv => lhs; cbv) ?_
                exact Le.again (ih0 n0 (by omega) ((O.ext (O.ext x10 r12.2 (O.len x10)) r14.2 (O.len (O.ext x10 r12.2 (O.len x10)))), (O.app x_11 [(⟨1, (⟨#[]⟩ : ByteArray), r14.1, (O.wrap .i64 (O.quo r12.1 2))⟩ : GToken)]))) (by subst hO; rfl) rfl
/-! ### loop.example/g00100/spec.GetMsg -/
def spec_GetMsg.e (r : GMsg × Bool) : Res tab := (([], []), .tup [(true, [.lit (.int .i64 r.1.Kind), .lit (.int .i64 r.1.Place), .lit (.int .i64 r.1.Sig.Size), .lit (.int .i64 r.1.Sig.Rest), .own 59 r.1.Sig.Weak, .own 9 r.1.Sig.Strong, .own 64 r.1.Tokens, .lit (.string r.1.Sum)]), (false, [.lit (.bool r.2)])])
def spec_GetMsg.f (k : Nat) (a0 : List Int) : Option (GMsg × Bool) := ((spec_GetVar.f k a0).bind fun r0 => (if r0.2 = 0 then (some ((⟨0, 0, (⟨0, 0, ([] : List Int), ([] : List ByteArray)⟩ : GSig), ([] : List GToken), (⟨#[]⟩ : ByteArray)⟩ : GMsg), false)) else (if 0 ≤ r0.2 then (if r0.2 ≤ (a0.length : Int) then (if (a0.length : Int) ≤ (a0.length : Int) then ((spec_GetVar.f k (std.ext a0 r0.2 (a0.length : Int))).bind fun r1 => (if r1.2 = 0 then (some ((⟨0, 0, (⟨0, 0, ([] : List Int), ([] : List ByteArray)⟩ : GSig), ([] : List GToken), (⟨#[]⟩ : ByteArray)⟩ : GMsg), false)) else (if 0 ≤ (IntKind.wrap .i64 (r0.2 + r1.2)) then (if (IntKind.wrap .i64 (r0.2 + r1.2)) ≤ (a0.length : Int) then (if (a0.length : Int) ≤ (a0.length : Int) then (if r0.1 = 0 then ((spec_GetSig.f k (std.ext a0 (IntKind.wrap .i64 (r0.2 + r1.2)) (a0.length : Int))).bind fun r2 => (if r2.2 = true then ((spec_MsgOk.f k (⟨r0.1, r1.1, r2.1, ([] : List GToken), (⟨#[]⟩ : ByteArray)⟩ : GMsg)).bind fun r3 => (if r3 = true then (some ((⟨r0.1, r1.1, r2.1, ([] : List GToken), (⟨#[]⟩ : ByteArray)⟩ : GMsg), true)) else (some ((⟨0, 0, (⟨0, 0, ([] : List Int), ([] : List ByteArray)⟩ : GSig), ([] : List GToken), (⟨#[]⟩ : ByteArray)⟩ : GMsg), false)))) else (some ((⟨0, 0, (⟨0, 0, ([] : List Int), ([] : List ByteArray)⟩ : GSig), ([] : List GToken), (⟨#[]⟩ : ByteArray)⟩ : GMsg), false)))) else (if r0.1 = 1 then (if 16 ≤ ((std.ext a0 (IntKind.wrap .i64 (r0.2 + r1.2)) (a0.length : Int)).length : Int) then (if 0 ≤ 0 then (if 0 ≤ 16 then (if 16 ≤ ((std.ext a0 (IntKind.wrap .i64 (r0.2 + r1.2)) (a0.length : Int)).length : Int) then (if 0 ≤ 16 then (if 16 ≤ ((std.ext a0 (IntKind.wrap .i64 (r0.2 + r1.2)) (a0.length : Int)).length : Int) then (if ((std.ext a0 (IntKind.wrap .i64 (r0.2 + r1.2)) (a0.length : Int)).length : Int) ≤ ((std.ext a0 (IntKind.wrap .i64 (r0.2 + r1.2)) (a0.length : Int)).length : Int) then ((spec_GetTokens.f k (std.ext (std.ext a0 (IntKind.wrap .i64 (r0.2 + r1.2)) (a0.length : Int)) 16 ((std.ext a0 (IntKind.wrap .i64 (r0.2 + r1.2)) (a0.length : Int)).length : Int))).bind fun r4 => (if r4.2 = true then ((spec_MsgOk.f k (⟨r0.1, r1.1, (⟨0, 0, ([] : List Int), ([] : List ByteArray)⟩ : GSig), r4.1, (std.strOf (std.ext (std.ext a0 (IntKind.wrap .i64 (r0.2 + r1.2)) (a0.length : Int)) 0 16))⟩ : GMsg)).bind fun r5 => (if r5 = true then (some ((⟨r0.1, r1.1, (⟨0, 0, ([] : List Int), ([] : List ByteArray)⟩ : GSig), r4.1, (std.strOf (std.ext (std.ext a0 (IntKind.wrap .i64 (r0.2 + r1.2)) (a0.length : Int)) 0 16))⟩ : GMsg), true)) else (some ((⟨0, 0, (⟨0, 0, ([] : List Int), ([] : List ByteArray)⟩ : GSig), ([] : List GToken), (⟨#[]⟩ : ByteArray)⟩ : GMsg), false)))) else (some ((⟨0, 0, (⟨0, 0, ([] : List Int), ([] : List ByteArray)⟩ : GSig), ([] : List GToken), (⟨#[]⟩ : ByteArray)⟩ : GMsg), false)))) else none) else none) else none) else none) else none) else none) else (if r0.1 = 2 then (if ((std.ext a0 (IntKind.wrap .i64 (r0.2 + r1.2)) (a0.length : Int)).length : Int) = 0 then ((spec_MsgOk.f k (⟨r0.1, r1.1, (⟨0, 0, ([] : List Int), ([] : List ByteArray)⟩ : GSig), ([] : List GToken), (⟨#[]⟩ : ByteArray)⟩ : GMsg)).bind fun r6 => (if r6 = true then (some ((⟨r0.1, r1.1, (⟨0, 0, ([] : List Int), ([] : List ByteArray)⟩ : GSig), ([] : List GToken), (⟨#[]⟩ : ByteArray)⟩ : GMsg), true)) else (some ((⟨0, 0, (⟨0, 0, ([] : List Int), ([] : List ByteArray)⟩ : GSig), ([] : List GToken), (⟨#[]⟩ : ByteArray)⟩ : GMsg), false)))) else (some ((⟨0, 0, (⟨0, 0, ([] : List Int), ([] : List ByteArray)⟩ : GSig), ([] : List GToken), (⟨#[]⟩ : ByteArray)⟩ : GMsg), false))) else (if false = true then ((spec_MsgOk.f k (⟨r0.1, r1.1, (⟨0, 0, ([] : List Int), ([] : List ByteArray)⟩ : GSig), ([] : List GToken), (⟨#[]⟩ : ByteArray)⟩ : GMsg)).bind fun r7 => (if r7 = true then (some ((⟨r0.1, r1.1, (⟨0, 0, ([] : List Int), ([] : List ByteArray)⟩ : GSig), ([] : List GToken), (⟨#[]⟩ : ByteArray)⟩ : GMsg), true)) else (some ((⟨0, 0, (⟨0, 0, ([] : List Int), ([] : List ByteArray)⟩ : GSig), ([] : List GToken), (⟨#[]⟩ : ByteArray)⟩ : GMsg), false)))) else (some ((⟨0, 0, (⟨0, 0, ([] : List Int), ([] : List ByteArray)⟩ : GSig), ([] : List GToken), (⟨#[]⟩ : ByteArray)⟩ : GMsg), false))))) else (if r0.1 = 2 then (if ((std.ext a0 (IntKind.wrap .i64 (r0.2 + r1.2)) (a0.length : Int)).length : Int) = 0 then ((spec_MsgOk.f k (⟨r0.1, r1.1, (⟨0, 0, ([] : List Int), ([] : List ByteArray)⟩ : GSig), ([] : List GToken), (⟨#[]⟩ : ByteArray)⟩ : GMsg)).bind fun r8 => (if r8 = true then (some ((⟨r0.1, r1.1, (⟨0, 0, ([] : List Int), ([] : List ByteArray)⟩ : GSig), ([] : List GToken), (⟨#[]⟩ : ByteArray)⟩ : GMsg), true)) else (some ((⟨0, 0, (⟨0, 0, ([] : List Int), ([] : List ByteArray)⟩ : GSig), ([] : List GToken), (⟨#[]⟩ : ByteArray)⟩ : GMsg), false)))) else (some ((⟨0, 0, (⟨0, 0, ([] : List Int), ([] : List ByteArray)⟩ : GSig), ([] : List GToken), (⟨#[]⟩ : ByteArray)⟩ : GMsg), false))) else (if false = true then ((spec_MsgOk.f k (⟨r0.1, r1.1, (⟨0, 0, ([] : List Int), ([] : List ByteArray)⟩ : GSig), ([] : List GToken), (⟨#[]⟩ : ByteArray)⟩ : GMsg)).bind fun r9 => (if r9 = true then (some ((⟨r0.1, r1.1, (⟨0, 0, ([] : List Int), ([] : List ByteArray)⟩ : GSig), ([] : List GToken), (⟨#[]⟩ : ByteArray)⟩ : GMsg), true)) else (some ((⟨0, 0, (⟨0, 0, ([] : List Int), ([] : List ByteArray)⟩ : GSig), ([] : List GToken), (⟨#[]⟩ : ByteArray)⟩ : GMsg), false)))) else (some ((⟨0, 0, (⟨0, 0, ([] : List Int), ([] : List ByteArray)⟩ : GSig), ([] : List GToken), (⟨#[]⟩ : ByteArray)⟩ : GMsg), false)))))) else none) else none) else none))) else none) else none) else none)))
theorem spec_GetMsg.le (O : Prim) (hO : O = std) (k : Nat) (a0 : List Int) : Le F O M fi4.kills spec_GetMsg.e (spec_GetMsg.f k a0) (den O M fi4.kills fi4.fn fi4.body (tab.gives 4) (M 4) [.one (.imm 5 a0)] : Tr tab) := by
  refine Le.eqS 0 (by conv => lhs; cbv) ?_
  unfold spec_GetMsg.f
  refine Le.callC 0 (fi := fi12) rfl (spec_GetVar.le O hO k a0) (by subst hO; rfl) (by intro r0; conv => lhs; cbv) ?_
  intro r0
  refine Le.condP 0 0 (by subst hO; rfl) (by conv => lhs; cbv) (by conv => lhs; cbv) ?_ ?_
  · exact Le.ret2 (by subst hO; rfl)
  · refine Le.guardP 0 (by subst hO; rfl) (by conv => lhs; cbv) ?_
    refine Le.guardP 0 (by subst hO; rfl) (by conv => lhs; cbv) ?_
    refine Le.guardP 0 (by subst hO; rfl) (by conv => lhs; cbv) ?_
    refine Le.callC 0 (fi := fi12) rfl (spec_GetVar.le O hO k (O.ext a0 r0.2 (O.len a0))) (by subst hO; rfl) (by intro r1; conv => lhs; cbv) ?_
    intro r1
    refine Le.condP 0 0 (by subst hO; rfl) (by conv => lhs; cbv) (by conv => lhs; cbv) ?_ ?_
    · exact Le.ret2 (by subst hO; rfl)
    · refine Le.guardP 0 (by subst hO; rfl) (by conv => lhs; cbv) ?_
      refine Le.guardP 0 (by subst hO; rfl) (by conv => lhs; cbv) ?_
      refine Le.guardP 0 (by subst hO; rfl) (by conv => lhs; cbv) ?_
      refine Le.condP 0 0 (by subst hO; rfl) (by conv => lhs; cbv) (by conv => lhs; cbv) ?_ ?_
      · refine Le.callC 0 (fi := fi13) rfl (spec_GetSig.le O hO k (O.ext a0 (O.wrap .i64 (O.add r0.2 r1.2)) (O.len a0))) (by subst hO; rfl) (by intro r2; conv => lhs; cbv) ?_
        intro r2
        refine Le.condN 4 1 (by subst hO; exact Bool.decide_eq_true.trans (Bool.not_not _).symm) (by conv => lhs; cbv) (by conv => lhs; cbv) ?_ ?_
        · exact Le.ret2 (by subst hO; rfl)
        · refine Le.callC 2 (fi := fi15) rfl (spec_MsgOk.le O hO k (⟨r0.1, r1.1, r2.1, ([] : List GToken), (⟨#[]⟩ : ByteArray)⟩ : GMsg)) (by subst hO; rfl) (by intro r3; conv => lhs; cbv) ?_
          intro r3
          refine Le.condN 0 0 (by subst hO; exact Bool.decide_eq_true.trans (Bool.not_not _).symm) (by conv => lhs; cbv) (by conv => lhs; cbv) ?_ ?_
          · exact Le.ret2 (by subst hO; rfl)
          · exact Le.ret2 (by subst hO; rfl)
      · refine Le.condP 3 4 (by subst hO; rfl) (by conv => lhs; cbv) (by conv => lhs; cbv) ?_ ?_
        · refine Le.condP 0 0 (by subst hO; rfl) (by conv => lhs; cbv) (by conv => lhs; cbv) ?_ ?_
          · refine Le.guardP 0 (by subst hO; rfl) (by conv => lhs; cbv) ?_
            refine Le.guardP 0 (by subst hO; rfl) (by conv => lhs; cbv) ?_
            refine Le.guardP 0 (by subst hO; rfl) (by conv => lhs; cbv) ?_
            refine Le.guardP 0 (by subst hO; rfl) (by conv => lhs; cbv) ?_
            refine Le.guardP 0 (by subst hO; rfl) (by conv => lhs; cbv) ?_
            refine Le.guardP 0 (by subst hO; rfl) (by conv => lhs; cbv) ?_
            refine Le.callC 0 (fi := fi14) rfl (spec_GetTokens.le O hO k (O.ext (O.ext a0 (O.wrap .i64 (O.add r0.2 r1.2)) (O.len a0)) 16 (O.len (O.ext a0 (O.wrap .i64 (O.add r0.2 r1.2)) (O.len a0))))) (by subst hO; rfl) (by intro r4; conv => lhs; cbv) ?_
            intro r4
            refine Le.condN 4 1 (by subst hO; exact Bool.decide_eq_true.trans (Bool.not_not _).symm) (by conv => lhs; cbv) (by conv => lhs; cbv) ?_ ?_
            · exact Le.ret2 (by subst hO; rfl)
            · refine Le.callC 2 (fi := fi15) rfl (spec_MsgOk.le O hO k (⟨r0.1, r1.1, (⟨0, 0, ([] : List Int), ([] : List ByteArray)⟩ : GSig), r4.1, (O.strOf (O.ext (O.ext a0 (O.wrap .i64 (O.add r0.2 r1.2)) (O.len a0)) 0 16))⟩ : GMsg)) (by subst hO; rfl) (by intro r5; conv => lhs; cbv) ?_
              intro r5
              refine Le.condN 0 0 (by subst hO; exact Bool.decide_eq_true.trans (Bool.not_not _).symm) (by conv => lhs; cbv) (by conv => lhs; cbv) ?_ ?_
              · exact Le.ret2 (by subst hO; rfl)
              · exact Le.ret2 (by subst hO; rfl)
          · refine Le.condP 0 0 (by subst hO; rfl) (by conv => lhs; cbv) (by conv => lhs; cbv) ?_ ?_
            · refine Le.condN 4 1 (by subst hO; exact (Bool.not_not _).symm) (by conv => lhs; cbv) (by conv => lhs; cbv) ?_ ?_
              · exact Le.ret2 (by subst hO; rfl)
              · refine Le.callC 2 (fi := fi15) rfl (spec_MsgOk.le O hO k (⟨r0.1, r1.1, (⟨0, 0, ([] : List Int), ([] : List ByteArray)⟩ : GSig), ([] : List GToken), (⟨#[]⟩ : ByteArray)⟩ : GMsg)) (by subst hO; rfl) (by intro r6; conv => lhs; cbv) ?_
                intro r6
                refine Le.condN 0 0 (by subst hO; exact Bool.decide_eq_true.trans (Bool.not_not _).symm) (by conv => lhs; cbv) (by conv => lhs; cbv) ?_ ?_
                · exact Le.ret2 (by subst hO; rfl)
                · exact Le.ret2 (by subst hO; rfl)
            · refine Le.condN 4 1 (by subst hO; exact Bool.decide_eq_true.trans (Bool.not_not _).symm) (by conv => lhs; cbv) (by conv => lhs; cbv) ?_ ?_
              · exact Le.ret2 (by subst hO; rfl)
              · refine Le.callC 2 (fi := fi15) rfl (spec_MsgOk.le O hO k (⟨r0.1, r1.1, (⟨0, 0, ([] : List Int), ([] : List ByteArray)⟩ : GSig), ([] : List GToken), (⟨#[]⟩ : ByteArray)⟩ : GMsg)) (by subst hO; rfl) (by intro r7; conv => lhs; cbv) ?_
                intro r7
                refine Le.condN 0 0 (by subst hO; exact Bool.decide_eq_true.trans (Bool.not_not _).symm) (by conv => lhs; cbv) (by conv => lhs; cbv) ?_ ?_
                · exact Le.ret2 (by subst hO; rfl)
                · exact Le.ret2 (by subst hO; rfl)
        · refine Le.condP 0 0 (by subst hO; rfl) (by conv => lhs; cbv) (by conv => lhs; cbv) ?_ ?_
          · refine Le.condN 4 1 (by subst hO; exact (Bool.not_not _).symm) (by conv => lhs; cbv) (by conv => lhs; cbv) ?_ ?_
            · exact Le.ret2 (by subst hO; rfl)
            · refine Le.callC 2 (fi := fi15) rfl (spec_MsgOk.le O hO k (⟨r0.1, r1.1, (⟨0, 0, ([] : List Int), ([] : List ByteArray)⟩ : GSig), ([] : List GToken), (⟨#[]⟩ : ByteArray)⟩ : GMsg)) (by subst hO; rfl) (by intro r8; conv => lhs; cbv) ?_
              intro r8
              refine Le.condN 0 0 (by subst hO; exact Bool.decide_eq_true.trans (Bool.not_not _).symm) (by conv => lhs; cbv) (by conv => lhs; cbv) ?_ ?_
              · exact Le.ret2 (by subst hO; rfl)
              · exact Le.ret2 (by subst hO; rfl)
          · refine Le.condN 4 1 (by subst hO; exact Bool.decide_eq_true.trans (Bool.not_not _).symm) (by conv => lhs; cbv) (by conv => lhs; cbv) ?_ ?_
            · exact Le.ret2 (by subst hO; rfl)
            · refine Le.callC 2 (fi := fi15) rfl (spec_MsgOk.le O hO k (⟨r0.1, r1.1, (⟨0, 0, ([] : List Int), ([] : List ByteArray)⟩ : GSig), ([] : List GToken), (⟨#[]⟩ : ByteArray)⟩ : GMsg)) (by subst hO; rfl) (by intro r9; conv => lhs; cbv) ?_
              intro r9
              refine Le.condN 0 0 (by subst hO; exact Bool.decide_eq_true.trans (Bool.not_not _).symm) (by conv => lhs; cbv) (by conv => lhs; cbv) ?_ ?_
              · exact Le.ret2 (by subst hO; rfl)
              · exact Le.ret2 (by subst hO; rfl)
/-! ### loop.example/g00100/impl.readVar -/
def impl_readVar.e (r : Int × Int) : Res tab := (([], []), .tup [(false, [.lit (.int .i64 r.1)]), (false, [.lit (.int .i64 r.2)])])
def impl_readVar.l0 : Nat → ByteArray → Int → Int → Option (Int × Int)
  | 0, _, _, _ => none
  | k + 1, a0, x_2, x_3 => (if x_3 < (a0.size : Int) then (if x_3 < 9 then (if 0 ≤ x_3 then (if x_3 < (a0.size : Int) then (if 0 ≤ (IntKind.wrap .i64 (7 * x_3)) then (if 0 ≤ x_3 then (if x_3 < (a0.size : Int) then (if (std.sget a0 x_3) < 128 then (if 0 ≤ x_3 then (if x_3 < (a0.size : Int) then (if (std.sget a0 x_3) = 0 then (if 0 < x_3 then (some (0, 0)) else (some ((std.bits .or .i64 x_2 (std.shl .i64 (IntKind.wrap .i64 (std.bits .and .u8 (std.sget a0 x_3) 127)) (IntKind.wrap .i64 (7 * x_3)))), (IntKind.wrap .i64 (x_3 + 1))))) else (some ((std.bits .or .i64 x_2 (std.shl .i64 (IntKind.wrap .i64 (std.bits .and .u8 (std.sget a0 x_3) 127)) (IntKind.wrap .i64 (7 * x_3)))), (IntKind.wrap .i64 (x_3 + 1))))) else none) else none) else (impl_readVar.l0 k a0 (std.bits .or .i64 x_2 (std.shl .i64 (IntKind.wrap .i64 (std.bits .and .u8 (std.sget a0 x_3) 127)) (IntKind.wrap .i64 (7 * x_3)))) (IntKind.wrap .i64 (x_3 + 1)))) else none) else none) else none) else none) else none) else (some (0, 0))) else (some (0, 0)))
def impl_readVar.f (k : Nat) (a0 : ByteArray) : Option (Int × Int) := (impl_readVar.l0 k a0 0 0)
theorem impl_readVar.le (O : Prim) (hO : O = std) (k : Nat) (a0 : ByteArray) : Le F O M fi35.kills impl_readVar.e (impl_readVar.f k a0) (den O M fi35.kills fi35.fn fi35.body (tab.gives 35) (M 35) [.one (.lit (.string a0))] : Tr tab) := by
  refine Le.eqS 0 (by conv => lhs; cbv) ?_
  unfold impl_readVar.f
  refine Le.loopS (fun (n : Nat) (v : Int × Int) => impl_readVar.l0 n a0 v.1 v.2) (fun (v : Int × Int) => match v with | (x_2, x_3) => (⟨[], [.one (.lit (.string a0)), D_, D_, D_, .one (.lit (.int .i64 x_2)), .one (.lit (.int .i64 x_3)), D_, D_, D_, D_, D_, D_, D_, D_, D_, D_, D_, D_, D_, D_, D_, D_, D_, D_, D_, D_, D_, D_, D_, D_, D_, D_, D_, D_, D_, D_, D_, D_, D_, D_, D_], [[], [], [], [], [], [], [], [], [], [], [], [], [], [], [], [], [], [], [], [], [], [], [], [], [], [], [], [], [], [], [], [], [], [], [], [], [], [], [], [], [], []], []⟩ : S tab)) k (0, 0) (by subst hO; rfl) rfl (fun _ => rfl) ?_
  intro n0 hn0 ih0 v0
  obtain ⟨x_2, x_3⟩ := v0
  refine Le.eqS 0 (by conv => lhs; cbv) ?_
  show Le F O M _ _ (impl_readVar.l0 (n0 + 1) a0 x_2 x_3) _
  rw [impl_readVar.l0]
  refine Le.condP 2 3 (by subst hO; rfl) (by conv => lhs; cbv) (by conv => lhs; cbv) ?_ ?_
  · refine Le.condP 0 0 (by subst hO; rfl) (by conv => lhs; cbv) (by conv => lhs; cbv) ?_ ?_
    · refine Le.guardP 0 (by subst hO; rfl) (by conv => lhs; cbv) ?_
      refine Le.guardP 0 (by subst hO; rfl) (by conv => lhs; cbv) ?_
      refine Le.guardP 0 (by subst hO; rfl) (by conv => lhs; cbv) ?_
      refine Le.guardP 0 (by subst hO; rfl) (by conv => lhs; cbv) ?_
      refine Le.guardP 0 (by subst hO; rfl) (by conv => lhs; cbv) ?_
      refine Le.condP 0 0 (by subst hO; rfl) (by conv => lhs; cbv) (by conv => lhs; cbv) ?_ ?_
      · refine Le.guardP 0 (by subst hO; rfl) (by conv => lhs; cbv) ?_
        refine Le.guardP 0 (by subst hO; rfl) (by conv => lhs; cbv) ?_
        refine Le.condP 2 3 (by subst hO; rfl) (by conv => lhs; cbv) (by conv => lhs; cbv) ?_ ?_
        · refine Le.condP 0 0 (by subst hO; rfl) (by conv => lhs; cbv) (by conv => lhs; cbv) ?_ ?_
          · exact Le.ret2 (by subst hO; rfl)
          · exact Le.ret2 (by subst hO; rfl)
        · exact Le.ret2 (by subst hO; rfl)
      · exact Le.again (ih0 n0 (by omega) ((O.bits .or .i64 x_2 (O.shl .i64 (O.wrap .i64 (O.bits .and .u8 (O.sget a0 x_3) 127)) (O.wrap .i64 (O.mul 7 x_3)))), (O.wrap .i64 (O.add x_3 1)))) (by subst hO; rfl) rfl
    · exact Le.ret2 (by subst hO; rfl)
  · exact Le.ret2 (by subst hO; rfl)
/-! ### (*loop.example/g00100/impl.reader).take -/
def impl_reader_take.e (r : ByteArray × GReader) : Res tab := (([], [[.lit (.string r.2.Text), .lit (.bool r.2.Bad)]]), .one (.lit (.string r.1)))
def impl_reader_take.f (a0 : GReader) (a1 : Int) : Option (ByteArray × GReader) := (if a0.Bad = true then (some ((⟨#[]⟩ : ByteArray), (⟨a0.Text, true⟩ : GReader))) else (if (a0.Text.size : Int) < a1 then (some ((⟨#[]⟩ : ByteArray), (⟨a0.Text, true⟩ : GReader))) else (if 0 ≤ 0 then (if 0 ≤ a1 then (if a1 ≤ (a0.Text.size : Int) then (if 0 ≤ a1 then (if a1 ≤ (a0.Text.size : Int) then (if (a0.Text.size : Int) ≤ (a0.Text.size : Int) then (some ((a0.Text.extract (Int.toNat 0) (Int.toNat a1)), (⟨(a0.Text.extract (Int.toNat a1) (Int.toNat (a0.Text.size : Int))), a0.Bad⟩ : GReader))) else none) else none) else none) else none) else none) else none)))
theorem impl_reader_take.le (O : Prim) (hO : O = std) (a0 : GReader) (a1 : Int) : Le F O M fi18.kills impl_reader_take.e (impl_reader_take.f a0 a1) (den O M fi18.kills fi18.fn fi18.body (tab.gives 18) (M 18) [.agg [.lit (.string a0.Text), .lit (.bool a0.Bad)], .one (.lit (.int .i64 a1))] : Tr tab) := by
  refine Le.eqS 0 (by conv => lhs; cbv) ?_
  unfold impl_reader_take.f
  refine Le.condP 8 7 (by subst hO; exact Bool.decide_eq_true) (by conv => lhs; cbv) (by conv => lhs; cbv) ?_ ?_
  · exact Le.ret2 (by subst hO; rfl)
  · refine Le.condP 0 0 (by subst hO; rfl) (by conv => lhs; cbv) (by conv => lhs; cbv) ?_ ?_
    · exact Le.ret2 (by subst hO; rfl)
    · refine Le.guardP 0 (by subst hO; rfl) (by conv => lhs; cbv) ?_
      refine Le.guardP 0 (by subst hO; rfl) (by conv => lhs; cbv) ?_
      refine Le.guardP 0 (by subst hO; rfl) (by conv => lhs; cbv) ?_
      refine Le.guardP 0 (by subst hO; rfl) (by conv => lhs; cbv) ?_
      refine Le.guardP 0 (by subst hO; rfl) (by conv => lhs; cbv) ?_
      refine Le.guardP 0 (by subst hO; rfl) (by conv => lhs; cbv) ?_
      exact Le.ret2 (by subst hO; rfl)
/-! ### (*loop.example/g00100/impl.reader).number -/
def impl_reader_number.e (r : Int × GReader) : Res tab := (([], [[.lit (.string r.2.Text), .lit (.bool r.2.Bad)]]), .one (.lit (.int .i64 r.1)))
def impl_reader_number.f (k : Nat) (a0 : GReader) : Option (Int × GReader) := ((impl_readVar.f k a0.Text).bind fun r0 => (if r0.2 = 0 then ((impl_reader_take.f (⟨a0.Text, true⟩ : GReader) r0.2).bind fun r1 => (some (r0.1, r1.2))) else ((impl_reader_take.f a0 r0.2).bind fun r2 => (some (r0.1, r2.2)))))
theorem impl_reader_number.le (O : Prim) (hO : O = std) (k : Nat) (a0 : GReader) : Le F O M fi16.kills impl_reader_number.e (impl_reader_number.f k a0) (den O M fi16.kills fi16.fn fi16.body (tab.gives 16) (M 16) [.agg [.lit (.string a0.Text), .lit (.bool a0.Bad)]] : Tr tab) := by
  refine Le.eqS 0 (by conv => lhs; cbv) ?_
  unfold impl_reader_number.f
  refine Le.callC 0 (fi := fi35) rfl (impl_readVar.le O hO k a0.Text) (by subst hO; rfl) (by intro r0; conv => lhs; cbv) ?_
  intro r0
  refine Le.condP 0 0 (by subst hO; rfl) (by conv => lhs; cbv) (by conv => lhs; cbv) ?_ ?_
  · refine Le.callC 0 (fi := fi18) rfl (impl_reader_take.le O hO (⟨a0.Text, true⟩ : GReader) r0.2) (by subst hO; rfl) (by intro r1; conv => lhs; cbv) ?_
    intro r1
    exact Le.ret2 (by subst hO; rfl)
  · refine Le.callC 0 (fi := fi18) rfl (impl_reader_take.le O hO a0 r0.2) (by subst hO; rfl) (by intro r2; conv => lhs; cbv) ?_
    intro r2
    exact Le.ret2 (by subst hO; rfl)
/-! ### loop.example/g00100/impl.readWord -/
def impl_readWord.e (r : Int) : Res tab := (([], []), .one (.lit (.int .u32 r)))
def impl_readWord.f (a0 : ByteArray) : Option Int := (if 0 ≤ 0 then (if 0 < (a0.size : Int) then (if 0 ≤ 1 then (if 1 < (a0.size : Int) then (if 0 ≤ 8 then (if 0 ≤ 2 then (if 2 < (a0.size : Int) then (if 0 ≤ 16 then (if 0 ≤ 3 then (if 3 < (a0.size : Int) then (if 0 ≤ 24 then (some (std.bits .or .u32 (std.bits .or .u32 (std.bits .or .u32 (IntKind.wrap .u32 (std.sget a0 0)) (std.shl .u32 (IntKind.wrap .u32 (std.sget a0 1)) 8)) (std.shl .u32 (IntKind.wrap .u32 (std.sget a0 2)) 16)) (std.shl .u32 (IntKind.wrap .u32 (std.sget a0 3)) 24))) else none) else none) else none) else none) else none) else none) else none) else none) else none) else none) else none)
theorem impl_readWord.le (O : Prim) (hO : O = std) (a0 : ByteArray) : Le F O M fi52.kills impl_readWord.e (impl_readWord.f a0) (den O M fi52.kills fi52.fn fi52.body (tab.gives 52) (M 52) [.one (.lit (.string a0))] : Tr tab) := by
  refine Le.eqS 0 (by conv => lhs; cbv) ?_
  unfold impl_readWord.f
  refine Le.guardP 0 (by subst hO; rfl) (by conv => lhs; cbv) ?_
  refine Le.guardP 0 (by subst hO; rfl) (by conv => lhs; cbv) ?_
  refine Le.guardP 0 (by subst hO; rfl) (by conv => lhs; cbv) ?_
  refine Le.guardP 0 (by subst hO; rfl) (by conv => lhs; cbv) ?_
  refine Le.guardP 0 (by subst hO; rfl) (by conv => lhs; cbv) ?_
  refine Le.guardP 0 (by subst hO; rfl) (by conv => lhs; cbv) ?_
  refine Le.guardP 0 (by subst hO; rfl) (by conv => lhs; cbv) ?_
  refine Le.guardP 0 (by subst hO; rfl) (by conv => lhs; cbv) ?_
  refine Le.guardP 0 (by subst hO; rfl) (by conv => lhs; cbv) ?_
  refine Le.guardP 0 (by subst hO; rfl) (by conv => lhs; cbv) ?_
  refine Le.guardP 0 (by subst hO; rfl) (by conv => lhs; cbv) ?_
  exact Le.ret2 (by subst hO; rfl)
/-! ### (*loop.example/g00100/impl.reader).word -/
def impl_reader_word.e (r : Int × GReader) : Res tab := (([], [[.lit (.string r.2.Text), .lit (.bool r.2.Bad)]]), .one (.lit (.int .u32 r.1)))
def impl_reader_word.f (a0 : GReader) : Option (Int × GReader) := ((impl_reader_take.f a0 4).bind fun r0 => (if r0.2.Bad = true then (some (0, r0.2)) else ((impl_readWord.f r0.1).bind fun r1 => (some (r1, r0.2)))))
theorem impl_reader_word.le (O : Prim) (hO : O = std) (a0 : GReader) : Le F O M fi36.kills impl_reader_word.e (impl_reader_word.f a0) (den O M fi36.kills fi36.fn fi36.body (tab.gives 36) (M 36) [.agg [.lit (.string a0.Text), .lit (.bool a0.Bad)]] : Tr tab) := by
  refine Le.eqS 0 (by conv => lhs; cbv) ?_
  unfold impl_reader_word.f
  refine Le.callC 0 (fi := fi18) rfl (impl_reader_take.le O hO a0 4) (by subst hO; rfl) (by intro r0; conv => lhs; cbv) ?_
  intro r0
  refine Le.condP 0 0 (by subst hO; exact Bool.decide_eq_true) (by conv => lhs; cbv) (by conv => lhs; cbv) ?_ ?_
  · exact Le.ret2 (by subst hO; rfl)
  · refine Le.callC 0 (fi := fi52) rfl (impl_readWord.le O hO r0.1) (by subst hO; rfl) (by intro r1; conv => lhs; cbv) ?_
    intro r1
    exact Le.ret2 (by subst hO; rfl)
/-! ### loop.example/g00100/impl.within -/
def impl_within.e (r : Bool) : Res tab := (([], []), .one (.lit (.bool r)))
def impl_within.f (a0 : Int) (a1 : Int) (a2 : Int) : Option Bool := (if a1 ≤ a0 then (some (decide (a0 ≤ a2))) else (some false))
theorem impl_within.le (O : Prim) (hO : O = std) (a0 : Int) (a1 : Int) (a2 : Int) : Le F O M fi39.kills impl_within.e (impl_within.f a0 a1 a2) (den O M fi39.kills fi39.fn fi39.body (tab.gives 39) (M 39) [.one (.lit (.int .i64 a0)), .one (.lit (.int .i64 a1)), .one (.lit (.int .i64 a2))] : Tr tab) := by
  refine Le.eqS 0 (by conv => lhs; cbv) ?_
  unfold impl_within.f
  refine Le.condP 3 3 (by subst hO; rfl) (by conv => lhs; cbv) (by conv => lhs; cbv) ?_ ?_
  · exact Le.ret2 (by subst hO; rfl)
  · exact Le.ret2 (by subst hO; rfl)
/-! ### (loop.example/g00100/impl.Sig).isCut -/
def impl_Sig_isCut.e (r : Bool) : Res tab := (([], []), .one (.lit (.bool r)))
def impl_Sig_isCut.f (a0 : GSig) : Option Bool := ((impl_within.f a0.Size 1 256).bind fun r0 => (if r0 = true then ((impl_within.f a0.Rest 0 (IntKind.wrap .i64 (a0.Size - 1))).bind fun r1 => (if r1 = true then (some (decide ((a0.Weak.length : Int) ≤ 2500))) else (some false))) else (some false)))
theorem impl_Sig_isCut.le (O : Prim) (hO : O = std) (a0 : GSig) : Le F O M fi53.kills impl_Sig_isCut.e (impl_Sig_isCut.f a0) (den O M fi53.kills fi53.fn fi53.body (tab.gives 53) (M 53) [.agg [.lit (.int .i64 a0.Size), .lit (.int .i64 a0.Rest), .imm 59 a0.Weak, .imm 9 a0.Strong]] : Tr tab) := by
  refine Le.eqS 0 (by conv => lhs; cbv) ?_
  unfold impl_Sig_isCut.f
  refine Le.callC 0 (fi := fi39) rfl (impl_within.le O hO a0.Size 1 256) (by subst hO; rfl) (by intro r0; conv => lhs; cbv) ?_
  intro r0
  refine Le.condP 5 11 (by subst hO; exact Bool.decide_eq_true) (by conv => lhs; cbv) (by conv => lhs; cbv) ?_ ?_
  · refine Le.callC 1 (fi := fi39) rfl (impl_within.le O hO a0.Rest 0 (O.wrap .i64 (O.sub a0.Size 1))) (by subst hO; rfl) (by intro r1; conv => lhs; cbv) ?_
    intro r1
    refine Le.condP 4 4 (by subst hO; exact Bool.decide_eq_true) (by conv => lhs; cbv) (by conv => lhs; cbv) ?_ ?_
    · exact Le.ret2 (by subst hO; rfl)
    · exact Le.ret2 (by subst hO; rfl)
  · exact Le.ret2 (by subst hO; rfl)
/-! ### loop.example/g00100/impl.SigOk$1 -/
def impl_SigOk_1.e (r : Bool) : Res tab := (([], []), .one (.lit (.bool r)))
def impl_SigOk_1.f (a0 : ByteArray) : Option Bool := (some (!(decide ((a0.size : Int) = 4))))
theorem impl_SigOk_1.le (O : Prim) (hO : O = std) (a0 : ByteArray) : Le F O M fi55.kills impl_SigOk_1.e (impl_SigOk_1.f a0) (den O M fi55.kills fi55.fn fi55.body (tab.gives 55) (M 55) [.one (.lit (.string a0))] : Tr tab) := by
  refine Le.eqS 0 (by conv => lhs; cbv) ?_
  unfold impl_SigOk_1.f
  exact Le.ret2 (by subst hO; rfl)
/-! ### slices.IndexFunc[[]string,string] -/
def slices_IndexFunc_55.e (r : Int) : Res tab := (([], []), .one (.lit (.int .i64 r)))
def slices_IndexFunc_55.l0 : Nat → (List ByteArray) → Int → Option Int
  | 0, _, _ => none
  | k + 1, a0, x_3 => (if x_3 < (a0.length : Int) then (if 0 ≤ x_3 then (if x_3 < (a0.length : Int) then ((impl_SigOk_1.f (a0.getD (Int.toNat x_3) (⟨#[]⟩ : ByteArray))).bind fun r4 => (if r4 = true then (some x_3) else (slices_IndexFunc_55.l0 k a0 (IntKind.wrap .i64 (x_3 + 1))))) else none) else none) else (some (-1)))
def slices_IndexFunc_55.f (k : Nat) (a0 : List ByteArray) : Option Int := (slices_IndexFunc_55.l0 k a0 0)
theorem slices_IndexFunc_55.le (O : Prim) (hO : O = std) (k : Nat) (a0 : List ByteArray) : Le F O M fi64.kills slices_IndexFunc_55.e (slices_IndexFunc_55.f k a0) (den O M fi64.kills fi64.fn fi64.body (tab.gives 64) (M 64) [.one (.imm 9 a0), .one (.lit (.func (.func 55) #[] #[]))] : Tr tab) := by
  refine Le.eqS 0 (by conv => lhs; cbv) ?_
  unfold slices_IndexFunc_55.f
  refine Le.loopS (fun (n : Nat) (v : Int) => slices_IndexFunc_55.l0 n a0 v) (fun (x_3 : Int) => (⟨[], [.one (.imm 9 a0), .one (.lit (Go.Value.func (Go.Fn.func 55) { toList := [] } { toList := [] })), D_, D_, D_, D_, D_, .one (.lit (.int .i64 (O.len a0))), .one (.lit (.int .i64 x_3)), D_, D_, D_, D_, D_, D_, D_, D_, D_, D_], [[], [], [], [], [], [], [], [], [], [], [], [], [], [], [], [], [], [], [], [], []], []⟩ : S tab)) k 0 (by subst hO; rfl) rfl (fun _ => rfl) ?_
  intro n0 hn0 ih0 x_3
  refine Le.eqS 0 (by conv => lhs; cbv) ?_
  show Le F O M _ _ (slices_IndexFunc_55.l0 (n0 + 1) a0 x_3) _
  rw [slices_IndexFunc_55.l0]
  refine Le.condP 0 0 (by subst hO; rfl) (by conv => lhs; cbv) (by conv => lhs; cbv) ?_ ?_
  · refine Le.guardP 0 (by subst hO; rfl) (by conv => lhs; cbv) ?_
    refine Le.guardP 0 (by subst hO; rfl) (by conv => lhs; cbv) ?_
    refine Le.callC 0 (fi := fi55) rfl (impl_SigOk_1.le O hO (O.get (⟨#[]⟩ : ByteArray) a0 x_3)) (by subst hO; rfl) (by intro r4; conv => lhs; cbv) ?_
    intro r4
    refine Le.condP 0 0 (by subst hO; exact Bool.decide_eq_true) (by conv => lhs; cbv) (by conv => lhs; cbv) ?_ ?_
    · exact Le.ret2 (by subst hO; rfl)
    · exact Le.again (ih0 n0 (by omega) (O.wrap .i64 (O.add x_3 1))) (by subst hO; rfl) rfl
  · exact Le.ret2 (by subst hO; rfl)
/-! ### slices.ContainsFunc[[]string,string] -/
def slices_ContainsFunc_55.e (r : Bool) : Res tab := (([], []), .one (.lit (.bool r)))
def slices_ContainsFunc_55.f (k : Nat) (a0 : List ByteArray) : Option Bool := ((slices_IndexFunc_55.f k a0).bind fun r0 => (some (decide (0 ≤ r0))))
theorem slices_ContainsFunc_55.le (O : Prim) (hO : O = std) (k : Nat) (a0 : List ByteArray) : Le F O M fi54.kills slices_ContainsFunc_55.e (slices_ContainsFunc_55.f k a0) (den O M fi54.kills fi54.fn fi54.body (tab.gives 54) (M 54) [.one (.imm 9 a0), .one (.lit (.func (.func 55) #[] #[]))] : Tr tab) := by
  refine Le.eqS 0 (by conv => lhs; cbv) ?_
  unfold slices_ContainsFunc_55.f
  refine Le.callC 0 (fi := fi64) rfl (slices_IndexFunc_55.le O hO k a0) (by subst hO; rfl) (by intro r0; conv => lhs; cbv) ?_
  intro r0
  exact Le.ret2 (by subst hO; rfl)
/-! ### loop.example/g00100/impl.SigLen -/
def impl_SigLen.e (r : Int) : Res tab := (([], []), .one (.lit (.int .i64 r)))
def impl_SigLen.f (a0 : GSig) : Option Int := ((impl_Sig_isCut.f a0).bind fun r0 => (if r0 = true then (if (a0.Weak.length : Int) = 0 then (some 0) else (if 0 < a0.Rest then (some (IntKind.wrap .i64 ((IntKind.wrap .i64 (a0.Size * (a0.Weak.length : Int))) + (IntKind.wrap .i64 (a0.Rest - a0.Size))))) else (some (IntKind.wrap .i64 (a0.Size * (a0.Weak.length : Int)))))) else (some 0)))
theorem impl_SigLen.le (O : Prim) (hO : O = std) (a0 : GSig) : Le F O M fi56.kills impl_SigLen.e (impl_SigLen.f a0) (den O M fi56.kills fi56.fn fi56.body (tab.gives 56) (M 56) [.agg [.lit (.int .i64 a0.Size), .lit (.int .i64 a0.Rest), .imm 59 a0.Weak, .imm 9 a0.Strong]] : Tr tab) := by
  refine Le.eqS 0 (by conv => lhs; cbv) ?_
  unfold impl_SigLen.f
  refine Le.callC 0 (fi := fi53) rfl (impl_Sig_isCut.le O hO a0) (by subst hO; rfl) (by intro r0; conv => lhs; cbv) ?_
  intro r0
  refine Le.condN 5 4 (by subst hO; exact Bool.decide_eq_true.trans (Bool.not_not _).symm) (by conv => lhs; cbv) (by conv => lhs; cbv) ?_ ?_
  · exact Le.ret2 (by subst hO; rfl)
  · refine Le.condP 0 0 (by subst hO; rfl) (by conv => lhs; cbv) (by conv => lhs; cbv) ?_ ?_
    · exact Le.ret2 (by subst hO; rfl)
    · refine Le.condP 0 0 (by subst hO; rfl) (by conv => lhs; cbv) (by conv => lhs; cbv) ?_ ?_
      · exact Le.ret2 (by subst hO; rfl)
      · exact Le.ret2 (by subst hO; rfl)
/-! ### loop.example/g00100/impl.SigOk -/
def impl_SigOk.e (r : Bool) : Res tab := (([], []), .one (.lit (.bool r)))
def impl_SigOk.f (k : Nat) (a0 : GSig) : Option Bool := ((impl_Sig_isCut.f a0).bind fun r0 => (if r0 = true then (if (a0.Weak.length : Int) = (a0.Strong.length : Int) then (if a0.Rest = 0 then ((slices_ContainsFunc_55.f k a0.Strong).bind fun r1 => (if r1 = true then (some false) else ((impl_SigLen.f a0).bind fun r2 => (some (decide (r2 ≤ 20000)))))) else (if 0 < (a0.Weak.length : Int) then ((slices_ContainsFunc_55.f k a0.Strong).bind fun r3 => (if r3 = true then (some false) else ((impl_SigLen.f a0).bind fun r4 => (some (decide (r4 ≤ 20000)))))) else (some false))) else (some false)) else (some false)))
theorem impl_SigOk.le (O : Prim) (hO : O = std) (k : Nat) (a0 : GSig) : Le F O M fi37.kills impl_SigOk.e (impl_SigOk.f k a0) (den O M fi37.kills fi37.fn fi37.body (tab.gives 37) (M 37) [.agg [.lit (.int .i64 a0.Size), .lit (.int .i64 a0.Rest), .imm 59 a0.Weak, .imm 9 a0.Strong]] : Tr tab) := by
  refine Le.eqS 0 (by conv => lhs; cbv) ?_
  unfold impl_SigOk.f
  refine Le.callC 0 (fi := fi53) rfl (impl_Sig_isCut.le O hO a0) (by subst hO; rfl) (by intro r0; conv => lhs; cbv) ?_
  intro r0
  refine Le.condP 7 22 (by subst hO; exact Bool.decide_eq_true) (by conv => lhs; cbv) (by conv => lhs; cbv) ?_ ?_
  · refine Le.condP 3 14 (by subst hO; rfl) (by conv => lhs; cbv) (by conv => lhs; cbv) ?_ ?_
    · refine Le.condP 9 6 (by subst hO; rfl) (by conv => lhs; cbv) (by conv => lhs; cbv) ?_ ?_
      · refine Le.callC 2 (fi := fi54) rfl (slices_ContainsFunc_55.le O hO k a0.Strong) (by subst hO; rfl) (by intro r1; conv => lhs; cbv) ?_
        intro r1
        refine Le.condN 1 3 (by subst hO; exact Bool.decide_eq_true.trans (Bool.not_not _).symm) (by conv => lhs; cbv) (by conv => lhs; cbv) ?_ ?_
        · refine Le.callC 2 (fi := fi56) rfl (impl_SigLen.le O hO a0) (by subst hO; rfl) (by intro r2; conv => lhs; cbv) ?_
          intro r2
          exact Le.ret2 (by subst hO; rfl)
        · exact Le.ret2 (by subst hO; rfl)
      · refine Le.condP 2 8 (by subst hO; rfl) (by conv => lhs; cbv) (by conv => lhs; cbv) ?_ ?_
        · refine Le.callC 2 (fi := fi54) rfl (slices_ContainsFunc_55.le O hO k a0.Strong) (by subst hO; rfl) (by intro r3; conv => lhs; cbv) ?_
          intro r3
          refine Le.condN 1 3 (by subst hO; exact Bool.decide_eq_true.trans (Bool.not_not _).symm) (by conv => lhs; cbv) (by conv => lhs; cbv) ?_ ?_
          · refine Le.callC 2 (fi := fi56) rfl (impl_SigLen.le O hO a0) (by subst hO; rfl) (by intro r4; conv => lhs; cbv) ?_
            intro r4
            exact Le.ret2 (by subst hO; rfl)
          · exact Le.ret2 (by subst hO; rfl)
        · exact Le.ret2 (by subst hO; rfl)
    · exact Le.ret2 (by subst hO; rfl)
  · exact Le.ret2 (by subst hO; rfl)
/-! ### loop.example/g00100/impl.readSig -/
def impl_readSig.e (r : GSig × Bool) : Res tab := (([], []), .tup [(true, [.lit (.int .i64 r.1.Size), .lit (.int .i64 r.1.Rest), .own 59 r.1.Weak, .own 9 r.1.Strong]), (false, [.lit (.bool r.2)])])
def impl_readSig.l0 : Nat → (Int × GReader) → (Int × GReader) → (Int × GReader) → Int → (List Int) → (List ByteArray) → ByteArray → Bool → Option (GSig × Bool)
  | 0, _, _, _, _, _, _, _, _ => none
  | k + 1, r0, r1, r2, x_12, b_13, b_14, b_15, b_16 => (if x_12 < r2.1 then (if x_12 ≤ 2500 then (if b_16 = true then (if b_16 = true then (some ((⟨0, 0, ([] : List Int), ([] : List ByteArray)⟩ : GSig), false)) else (if b_15 = (⟨#[]⟩ : ByteArray) then ((impl_SigOk.f k (⟨r0.1, r1.1, b_13, b_14⟩ : GSig)).bind fun r19 => (if r19 = true then (if (b_13.length : Int) = r2.1 then (some ((⟨r0.1, r1.1, b_13, b_14⟩ : GSig), true)) else (some ((⟨0, 0, ([] : List Int), ([] : List ByteArray)⟩ : GSig), false))) else (some ((⟨0, 0, ([] : List Int), ([] : List ByteArray)⟩ : GSig), false)))) else (some ((⟨0, 0, ([] : List Int), ([] : List ByteArray)⟩ : GSig), false)))) else ((impl_reader_word.f (⟨b_15, b_16⟩ : GReader)).bind fun r17 => (if (((b_13.length : Int) + ([r17.1].length : Int)) * 4) ≤ 140737488351232 then ((impl_reader_take.f r17.2 4).bind fun r18 => (if (((b_14.length : Int) + ([r18.1].length : Int)) * 16) ≤ 140737488351232 then (impl_readSig.l0 k r0 r1 r2 (IntKind.wrap .i64 (x_12 + 1)) (b_13 ++ [r17.1]) (b_14 ++ [r18.1]) r18.2.Text r18.2.Bad) else none)) else none))) else (if b_16 = true then (some ((⟨0, 0, ([] : List Int), ([] : List ByteArray)⟩ : GSig), false)) else (if b_15 = (⟨#[]⟩ : ByteArray) then ((impl_SigOk.f k (⟨r0.1, r1.1, b_13, b_14⟩ : GSig)).bind fun r20 => (if r20 = true then (if (b_13.length : Int) = r2.1 then (some ((⟨r0.1, r1.1, b_13, b_14⟩ : GSig), true)) else (some ((⟨0, 0, ([] : List Int), ([] : List ByteArray)⟩ : GSig), false))) else (some ((⟨0, 0, ([] : List Int), ([] : List ByteArray)⟩ : GSig), false)))) else (some ((⟨0, 0, ([] : List Int), ([] : List ByteArray)⟩ : GSig), false))))) else (if b_16 = true then (some ((⟨0, 0, ([] : List Int), ([] : List ByteArray)⟩ : GSig), false)) else (if b_15 = (⟨#[]⟩ : ByteArray) then ((impl_SigOk.f k (⟨r0.1, r1.1, b_13, b_14⟩ : GSig)).bind fun r21 => (if r21 = true then (if (b_13.length : Int) = r2.1 then (some ((⟨r0.1, r1.1, b_13, b_14⟩ : GSig), true)) else (some ((⟨0, 0, ([] : List Int), ([] : List ByteArray)⟩ : GSig), false))) else (some ((⟨0, 0, ([] : List Int), ([] : List ByteArray)⟩ : GSig), false)))) else (some ((⟨0, 0, ([] : List Int), ([] : List ByteArray)⟩ : GSig), false)))))
def impl_readSig.f (k : Nat) (a0 : ByteArray) : Option (GSig × Bool) := ((impl_reader_number.f k (⟨a0, false⟩ : GReader)).bind fun r0 => ((impl_reader_number.f k r0.2).bind fun r1 => ((impl_reader_number.f k r1.2).bind fun r2 => (impl_readSig.l0 k r0 r1 r2 0 ([] : List Int) ([] : List ByteArray) r2.2.Text r2.2.Bad))))
theorem impl_readSig.le (O : Prim) (hO : O = std) (k : Nat) (a0 : ByteArray) : Le F O M fi17.kills impl_readSig.e (impl_readSig.f k a0) (den O M fi17.kills fi17.fn fi17.body (tab.gives 17) (M 17) [.one (.lit (.string a0))] : Tr tab) := by
  refine Le.eqS 0 (by conv => lhs; cbv) ?_
  unfold impl_readSig.f
  refine Le.callC 0 (fi := fi16) rfl (impl_reader_number.le O hO k (⟨a0, false⟩ : GReader)) (by subst hO; rfl) (by intro r0; conv => lhs; cbv) ?_
  intro r0
  refine Le.callC 0 (fi := fi16) rfl (impl_reader_number.le O hO k r0.2) (by subst hO; rfl) (by intro r1; conv => lhs; cbv) ?_
  intro r1
  refine Le.callC 0 (fi := fi16) rfl (impl_reader_number.le O hO k r1.2) (by subst hO; rfl) (by intro r2; conv => lhs; cbv) ?_
  intro r2
  refine Le.loopS (fun (n : Nat) (v : Int × List Int × List ByteArray × ByteArray × Bool) => impl_readSig.l0 n r0 r1 r2 v.1 v.2.1 v.2.2.1 v.2.2.2.1 v.2.2.2.2) (fun (v : Int × List Int × List ByteArray × ByteArray × Bool) => match v with | (x_12, b_13, b_14, b_15, b_16) => (⟨[], [D_, D_, .one (.ptr ⟨7, 0, []⟩), D_, .one (.ptr ⟨23, 0, []⟩), .one (.ptr ⟨13, 0, []⟩), .one (.lit (.int .i64 r2.1)), .one (.lit (.int .i64 x_12)), D_, D_, D_, D_, D_, D_, D_, D_, D_, D_, D_, D_, D_, D_, D_, D_, D_, D_, D_, D_, D_, D_, D_, D_, D_, D_, D_, D_, D_, D_, D_, D_, D_, D_, D_, D_, D_, D_, D_, D_, D_, D_, D_, D_, D_, D_, D_, D_, D_, D_, D_, D_, D_, D_, D_, D_, D_, D_, D_, D_, D_, D_, D_, D_, D_], [[], [], [.lit (.int .i64 0), .lit (.int .i64 0), .own 59 ([] : List Int), .own 9 ([] : List ByteArray)], [], [], [.lit (.int .i64 r0.1), .lit (.int .i64 r1.1), .own 59 b_13, .own 9 b_14], [], [], [], [], [.lit (.string b_15), .lit (.bool b_16)], [], [], [], [], [], [], [], [], [], [], [], [], [], [], [], [], [], [], [], [], [], [], [], [], [], [], [], [], [], [], [], [], [], [], [], [], [], [], [], [], [], [], [], [], [], [], [], [], [], [], [], [], [], [], [], [], [], [], [], [], [], [], []], []⟩ : S tab)) k (0, ([] : List Int), ([] : List ByteArray), r2.2.Text, r2.2.Bad) (by subst hO; rfl) rfl (fun _ => rfl) ?_
  intro n0 hn0 ih0 v0
  obtain ⟨x_12, b_13, b_14, b_15, b_16⟩ := v0
  refine Le.eqS 0 (by conv => lhs; cbv) ?_
  show Le F O M _ _ (impl_readSig.l0 (n0 + 1) r0 r1 r2 x_12 b_13 b_14 b_15 b_16) _
  rw [impl_readSig.l0]
  refine Le.condP 2 9 (by subst hO; rfl) (by conv => lhs; cbv) (by conv => lhs; cbv) ?_ ?_
  · refine Le.condP 5 6 (by subst hO; rfl) (by conv => lhs; cbv) (by conv => lhs; cbv) ?_ ?_
    · refine Le.condN 0 0 (by subst hO; exact Bool.decide_eq_true.trans (Bool.not_not _).symm) (by conv => lhs; cbv) (by conv => lhs; cbv) ?_ ?_
      · refine Le.callC 0 (fi := fi36) rfl (impl_reader_word.le O hO (⟨b_15, b_16⟩ : GReader)) (by subst hO; rfl) (by intro r17; conv => lhs; cbv) ?_
        intro r17
        refine Le.guardP 0 (by subst hO; rfl) (by conv => lhs; cbv) ?_
        refine Le.callC 0 (fi := fi18) rfl (impl_reader_take.le O hO r17.2 4) (by subst hO; rfl) (by intro r18; conv => lhs; cbv) ?_
        intro r18
        refine Le.guardP 0 (by subst hO; rfl) (by conv => lhs; cbv) ?_
        exact Le.again (ih0 n0 (by omega) ((O.wrap .i64 (O.add x_12 1)), (O.app b_13 [r17.1]), (O.app b_14 [r18.1]), r18.2.Text, r18.2.Bad)) (by subst hO; rfl) rfl
      · refine Le.condP 16 5 (by subst hO; exact Bool.decide_eq_true) (by conv => lhs; cbv) (by conv => lhs; cbv) ?_ ?_
        · exact Le.ret2 (by subst hO; rfl)
        · refine Le.condN 10 1 (by subst hO; exact (seq_dec _ _).trans (Bool.not_not _).symm) (by conv => lhs; cbv) (by conv => lhs; cbv) ?_ ?_
          · exact Le.ret2 (by subst hO; rfl)
          · refine Le.callC 2 (fi := fi37) rfl (impl_SigOk.le O hO n0 (⟨r0.1, r1.1, b_13, b_14⟩ : GSig)) (by subst hO; rfl) (by intro r19; conv => lhs; cbv) ?_
            intro r19
            refine Le.condN 6 5 (by subst hO; exact Bool.decide_eq_true.trans (Bool.not_not _).symm) (by conv => lhs; cbv) (by conv => lhs; cbv) ?_ ?_
            · exact Le.ret2 (by subst hO; rfl)
            · refine Le.condN 0 0 (by subst hO; exact (Bool.not_not _).symm) (by conv => lhs; cbv) (by conv => lhs; cbv) ?_ ?_
              · exact Le.ret2 (by subst hO; rfl)
              · exact Le.ret2 (by subst hO; rfl)
    · refine Le.condP 16 5 (by subst hO; exact Bool.decide_eq_true) (by conv => lhs; cbv) (by conv => lhs; cbv) ?_ ?_
      · exact Le.ret2 (by subst hO; rfl)
      · refine Le.condN 10 1 (by subst hO; exact (seq_dec _ _).trans (Bool.not_not _).symm) (by conv => lhs; cbv) (by conv => lhs; cbv) ?_ ?_
        · exact Le.ret2 (by subst hO; rfl)
        · refine Le.callC 2 (fi := fi37) rfl (impl_SigOk.le O hO n0 (⟨r0.1, r1.1, b_13, b_14⟩ : GSig)) (by subst hO; rfl) (by intro r20; conv => lhs; cbv) ?_
          intro r20
          refine Le.condN 6 5 (by subst hO; exact Bool.decide_eq_true.trans (Bool.not_not _).symm) (by conv => lhs; cbv) (by conv => lhs; cbv) ?_ ?_
          · exact Le.ret2 (by subst hO; rfl)
          · refine Le.condN 0 0 (by subst hO; exact (Bool.not_not _).symm) (by conv => lhs; cbv) (by conv => lhs; cbv) ?_ ?_
            · exact Le.ret2 (by subst hO; rfl)
            · exact Le.ret2 (by subst hO; rfl)
  · refine Le.condP 16 5 (by subst hO; exact Bool.decide_eq_true) (by conv => lhs; cbv) (by conv => lhs; cbv) ?_ ?_
    · exact Le.ret2 (by subst hO; rfl)
    · refine Le.condN 10 1 (by subst hO; exact (seq_dec _ _).trans (Bool.not_not _).symm) (by conv => lhs; cbv) (by conv => lhs; cbv) ?_ ?_
      · exact Le.ret2 (by subst hO; rfl)
      · refine Le.callC 2 (fi := fi37) rfl (impl_SigOk.le O hO n0 (⟨r0.1, r1.1, b_13, b_14⟩ : GSig)) (by subst hO; rfl) (by intro r21; conv => lhs; cbv) ?_
        intro r21
        refine Le.condN 6 5 (by subst hO; exact Bool.decide_eq_true.trans (Bool.not_not _).symm) (by conv => lhs; cbv) (by conv => lhs; cbv) ?_ ?_
        · exact Le.ret2 (by subst hO; rfl)
        · refine Le.condN 0 0 (by subst hO; exact (Bool.not_not _).symm) (by conv => lhs; cbv) (by conv => lhs; cbv) ?_ ?_
          · exact Le.ret2 (by subst hO; rfl)
          · exact Le.ret2 (by subst hO; rfl)
/-! ### loop.example/g00100/impl.TokenOk -/
def impl_TokenOk.e (r : Bool) : Res tab := (([], []), .one (.lit (.bool r)))
def impl_TokenOk.f (a0 : GToken) : Option Bool := (if a0.Kind = 0 then ((impl_within.f (a0.Data.size : Int) 1 100).bind fun r0 => (if r0 = true then (if a0.From = 0 then (some (decide (a0.Count = 0))) else (some false)) else (some false))) else (if a0.Kind = 1 then (if a0.Data = (⟨#[]⟩ : ByteArray) then (if 0 ≤ a0.From then (some (decide (1 ≤ a0.Count))) else (some false)) else (some false)) else (some false)))
theorem impl_TokenOk.le (O : Prim) (hO : O = std) (a0 : GToken) : Le F O M fi59.kills impl_TokenOk.e (impl_TokenOk.f a0) (den O M fi59.kills fi59.fn fi59.body (tab.gives 59) (M 59) [.agg [.lit (.int .i64 a0.Kind), .lit (.string a0.Data), .lit (.int .i64 a0.From), .lit (.int .i64 a0.Count)]] : Tr tab) := by
  refine Le.eqS 0 (by conv => lhs; cbv) ?_
  unfold impl_TokenOk.f
  refine Le.condP 0 0 (by subst hO; rfl) (by conv => lhs; cbv) (by conv => lhs; cbv) ?_ ?_
  · refine Le.callC 0 (fi := fi39) rfl (impl_within.le O hO (O.ssize a0.Data) 1 100) (by subst hO; rfl) (by intro r0; conv => lhs; cbv) ?_
    intro r0
    refine Le.condP 3 7 (by subst hO; exact Bool.decide_eq_true) (by conv => lhs; cbv) (by conv => lhs; cbv) ?_ ?_
    · refine Le.condP 3 3 (by subst hO; rfl) (by conv => lhs; cbv) (by conv => lhs; cbv) ?_ ?_
      · exact Le.ret2 (by subst hO; rfl)
      · exact Le.ret2 (by subst hO; rfl)
    · exact Le.ret2 (by subst hO; rfl)
  · refine Le.condP 0 0 (by subst hO; rfl) (by conv => lhs; cbv) (by conv => lhs; cbv) ?_ ?_
    · refine Le.condP 3 7 (by subst hO; exact seq_dec _ _) (by conv => lhs; cbv) (by conv => lhs; cbv) ?_ ?_
      · refine Le.condP 3 3 (by subst hO; rfl) (by conv => lhs; cbv) (by conv => lhs; cbv) ?_ ?_
        · exact Le.ret2 (by subst hO; rfl)
        · exact Le.ret2 (by subst hO; rfl)
      · exact Le.ret2 (by subst hO; rfl)
    · exact Le.ret2 (by subst hO; rfl)
/-! ### loop.example/g00100/impl.tokensText$1 -/
def impl_tokensText_1.e (r : Bool) : Res tab := (([], []), .one (.lit (.bool r)))
def impl_tokensText_1.f (a0 : GToken) : Option Bool := ((impl_TokenOk.f a0).bind fun r0 => (if r0 = true then (if 1000000 < a0.Count then (some true) else (some (decide (1000000 < a0.From)))) else (some true)))
theorem impl_tokensText_1.le (O : Prim) (hO : O = std) (a0 : GToken) : Le F O M fi58.kills impl_tokensText_1.e (impl_tokensText_1.f a0) (den O M fi58.kills fi58.fn fi58.body (tab.gives 58) (M 58) [.agg [.lit (.int .i64 a0.Kind), .lit (.string a0.Data), .lit (.int .i64 a0.From), .lit (.int .i64 a0.Count)]] : Tr tab) := by
  refine Le.eqS 0 (by conv => lhs; cbv) ?_
  unfold impl_tokensText_1.f
  refine Le.callC 0 (fi := fi59) rfl (impl_TokenOk.le O hO a0) (by subst hO; rfl) (by intro r0; conv => lhs; cbv) ?_
  intro r0
  refine Le.condN 7 3 (by subst hO; exact Bool.decide_eq_true.trans (Bool.not_not _).symm) (by conv => lhs; cbv) (by conv => lhs; cbv) ?_ ?_
  · exact Le.ret2 (by subst hO; rfl)
  · refine Le.condP 3 3 (by subst hO; rfl) (by conv => lhs; cbv) (by conv => lhs; cbv) ?_ ?_
    · exact Le.ret2 (by subst hO; rfl)
    · exact Le.ret2 (by subst hO; rfl)
/-! ### slices.IndexFunc[[]loop.example/g00100/impl.Token,loop.example/g00100/impl.Token] -/
def slices_IndexFunc_58.e (r : Int) : Res tab := (([], []), .one (.lit (.int .i64 r)))
def slices_IndexFunc_58.l0 : Nat → (List GToken) → Int → Option Int
  | 0, _, _ => none
  | k + 1, a0, x_3 => (if x_3 < (a0.length : Int) then (if 0 ≤ x_3 then (if x_3 < (a0.length : Int) then ((impl_tokensText_1.f (a0.getD (Int.toNat x_3) (⟨0, (⟨#[]⟩ : ByteArray), 0, 0⟩ : GToken))).bind fun r4 => (if r4 = true then (some x_3) else (slices_IndexFunc_58.l0 k a0 (IntKind.wrap .i64 (x_3 + 1))))) else none) else none) else (some (-1)))
def slices_IndexFunc_58.f (k : Nat) (a0 : List GToken) : Option Int := (slices_IndexFunc_58.l0 k a0 0)
theorem slices_IndexFunc_58.le (O : Prim) (hO : O = std) (k : Nat) (a0 : List GToken) : Le F O M fi65.kills slices_IndexFunc_58.e (slices_IndexFunc_58.f k a0) (den O M fi65.kills fi65.fn fi65.body (tab.gives 65) (M 65) [.one (.imm 64 a0), .one (.lit (.func (.func 58) #[] #[]))] : Tr tab) := by
  refine Le.eqS 0 (by conv => lhs; cbv) ?_
  unfold slices_IndexFunc_58.f
  refine Le.loopS (fun (n : Nat) (v : Int) => slices_IndexFunc_58.l0 n a0 v) (fun (x_3 : Int) => (⟨[], [.one (.imm 64 a0), .one (.lit (Go.Value.func (Go.Fn.func 58) { toList := [] } { toList := [] })), D_, D_, D_, D_, D_, .one (.lit (.int .i64 (O.len a0))), .one (.lit (.int .i64 x_3)), D_, D_, D_, D_, D_, D_, D_, D_, D_, D_], [[], [], [], [], [], [], [], [], [], [], [], [], [], [], [], [], [], [], [], [], []], []⟩ : S tab)) k 0 (by subst hO; rfl) rfl (fun _ => rfl) ?_
  intro n0 hn0 ih0 x_3
  refine Le.eqS 0 (by conv => lhs; cbv) ?_
  show Le F O M _ _ (slices_IndexFunc_58.l0 (n0 + 1) a0 x_3) _
  rw [slices_IndexFunc_58.l0]
  refine Le.condP 0 0 (by subst hO; rfl) (by conv => lhs; cbv) (by conv => lhs; cbv) ?_ ?_
  · refine Le.guardP 0 (by subst hO; rfl) (by conv => lhs; cbv) ?_
    refine Le.guardP 0 (by subst hO; rfl) (by conv => lhs; cbv) ?_
    refine Le.callC 0 (fi := fi58) rfl (impl_tokensText_1.le O hO (O.get (⟨0, (⟨#[]⟩ : ByteArray), 0, 0⟩ : GToken) a0 x_3)) (by subst hO; rfl) (by intro r4; conv => lhs; cbv) ?_
    intro r4
    refine Le.condP 0 0 (by subst hO; exact Bool.decide_eq_true) (by conv => lhs; cbv) (by conv => lhs; cbv) ?_ ?_
    · exact Le.ret2 (by subst hO; rfl)
    · exact Le.again (ih0 n0 (by omega) (O.wrap .i64 (O.add x_3 1))) (by subst hO; rfl) rfl
  · exact Le.ret2 (by subst hO; rfl)
/-! ### slices.ContainsFunc[[]loop.example/g00100/impl.Token,loop.example/g00100/impl.Token] -/
def slices_ContainsFunc_58.e (r : Bool) : Res tab := (([], []), .one (.lit (.bool r)))
def slices_ContainsFunc_58.f (k : Nat) (a0 : List GToken) : Option Bool := ((slices_IndexFunc_58.f k a0).bind fun r0 => (some (decide (0 ≤ r0))))
theorem slices_ContainsFunc_58.le (O : Prim) (hO : O = std) (k : Nat) (a0 : List GToken) : Le F O M fi57.kills slices_ContainsFunc_58.e (slices_ContainsFunc_58.f k a0) (den O M fi57.kills fi57.fn fi57.body (tab.gives 57) (M 57) [.one (.imm 64 a0), .one (.lit (.func (.func 58) #[] #[]))] : Tr tab) := by
  refine Le.eqS 0 (by conv => lhs; cbv) ?_
  unfold slices_ContainsFunc_58.f
  refine Le.callC 0 (fi := fi65) rfl (slices_IndexFunc_58.le O hO k a0) (by subst hO; rfl) (by intro r0; conv => lhs; cbv) ?_
  intro r0
  exact Le.ret2 (by subst hO; rfl)
/-! ### loop.example/g00100/impl.varText -/
def impl_varText.e (r : ByteArray) : Res tab := (([], []), .one (.lit (.string r)))
def impl_varText.l0 : Nat → Int → ByteArray → Option ByteArray
  | 0, _, _ => none
  | k + 1, x_2, x_3 => (if 127 < x_2 then (if 0 ≤ (std.bits .or .u8 (IntKind.wrap .u8 (std.bits .and .i64 x_2 127)) 128) then (if (std.bits .or .u8 (IntKind.wrap .u8 (std.bits .and .i64 x_2 127)) 128) ≤ 255 then (if (x_3.size : Int) < 140737488355328 then (if 0 ≤ 7 then (impl_varText.l0 k (std.shr .i64 x_2 7) (x_3 ++ (std.strOf [(std.bits .or .u8 (IntKind.wrap .u8 (std.bits .and .i64 x_2 127)) 128)]))) else none) else none) else none) else none) else (if 0 ≤ (IntKind.wrap .u8 x_2) then (if (IntKind.wrap .u8 x_2) ≤ 255 then (if (x_3.size : Int) < 140737488355328 then (some (x_3 ++ (std.strOf [(IntKind.wrap .u8 x_2)]))) else none) else none) else none))
def impl_varText.f (k : Nat) (a0 : Int) : Option ByteArray := (impl_varText.l0 k a0 (⟨#[]⟩ : ByteArray))
theorem impl_varText.le (O : Prim) (hO : O = std) (k : Nat) (a0 : Int) : Le F O M fi41.kills impl_varText.e (impl_varText.f k a0) (den O M fi41.kills fi41.fn fi41.body (tab.gives 41) (M 41) [.one (.lit (.int .i64 a0))] : Tr tab) := by
  refine Le.eqS 0 (by conv => lhs; cbv) ?_
  unfold impl_varText.f
  refine Le.loopS (fun (n : Nat) (v : Int × ByteArray) => impl_varText.l0 n v.1 v.2) (fun (v : Int × ByteArray) => match v with | (x_2, x_3) => (⟨[], [.one (.lit (.int .i64 x_2)), D_, D_, .one (.bld x_3), D_, D_, D_, D_, D_, D_, D_, D_, D_, D_, D_, D_, D_], [[], [], [], [], [], [], [], [], [], [], [], [], [], [], [], [], [], []], []⟩ : S tab)) k (a0, (⟨#[]⟩ : ByteArray)) (by subst hO; rfl) rfl (fun _ => rfl) ?_
  intro n0 hn0 ih0 v0
  obtain ⟨x_2, x_3⟩ := v0
  refine Le.eqS 0 (by conv => lhs; cbv) ?_
  show Le F O M _ _ (impl_varText.l0 (n0 + 1) x_2 x_3) _
  rw [impl_varText.l0]
  refine Le.condP 0 0 (by subst hO; rfl) (by conv => lhs; cbv) (by conv => lhs; cbv) ?_ ?_
  · refine Le.guardP 0 (by subst hO; rfl) (by conv => lhs; cbv) ?_
    refine Le.guardP 0 (by subst hO; rfl) (by conv => lhs; cbv) ?_
    refine Le.guardP 0 (by subst hO; rfl) (by conv => lhs; cbv) ?_
    refine Le.guardP 0 (by subst hO; rfl) (by conv => lhs; cbv) ?_
    exact Le.again (ih0 n0 (by omega) ((O.shr .i64 x_2 7), (O.scat x_3 (O.strOf [(O.bits .or .u8 (O.wrap .u8 (O.bits .and .i64 x_2 127)) 128)])))) (by subst hO; rfl) rfl
  · refine Le.guardP 0 (by subst hO; rfl) (by conv => lhs; cbv) ?_
    refine Le.guardP 0 (by subst hO; rfl) (by conv => lhs; cbv) ?_
    refine Le.guardP 0 (by subst hO; rfl) (by conv => lhs; cbv) ?_
    exact Le.ret2 (by subst hO; rfl)
/-! ### loop.example/g00100/impl.tokensText -/
def impl_tokensText.e (r : ByteArray × Bool) : Res tab := (([], []), .tup [(false, [.lit (.string r.1)]), (false, [.lit (.bool r.2)])])
def impl_tokensText.l0 : Nat → (List GToken) → ByteArray → Int → Option (ByteArray × Bool)
  | 0, _, _, _ => none
  | k + 1, a0, x_9, x_10 => (if x_10 < (a0.length : Int) then (if 0 ≤ x_10 then (if x_10 < (a0.length : Int) then (if (a0.getD (Int.toNat x_10) (⟨0, (⟨#[]⟩ : ByteArray), 0, 0⟩ : GToken)).Kind = 0 then ((impl_varText.f k (IntKind.wrap .i64 (2 * ((a0.getD (Int.toNat x_10) (⟨0, (⟨#[]⟩ : ByteArray), 0, 0⟩ : GToken)).Data.size : Int)))).bind fun r11 => (if ((r11.size : Int) + ((a0.getD (Int.toNat x_10) (⟨0, (⟨#[]⟩ : ByteArray), 0, 0⟩ : GToken)).Data.size : Int)) ≤ 140737488351232 then (if ((x_9.size : Int) + ((r11 ++ (a0.getD (Int.toNat x_10) (⟨0, (⟨#[]⟩ : ByteArray), 0, 0⟩ : GToken)).Data).size : Int)) ≤ 140737488355328 then (impl_tokensText.l0 k a0 (x_9 ++ (r11 ++ (a0.getD (Int.toNat x_10) (⟨0, (⟨#[]⟩ : ByteArray), 0, 0⟩ : GToken)).Data)) (IntKind.wrap .i64 (x_10 + 1))) else none) else none)) else ((impl_varText.f k (IntKind.wrap .i64 ((IntKind.wrap .i64 (2 * (a0.getD (Int.toNat x_10) (⟨0, (⟨#[]⟩ : ByteArray), 0, 0⟩ : GToken)).Count)) + 1))).bind fun r12 => ((impl_varText.f k (a0.getD (Int.toNat x_10) (⟨0, (⟨#[]⟩ : ByteArray), 0, 0⟩ : GToken)).From).bind fun r13 => (if ((r12.size : Int) + (r13.size : Int)) ≤ 140737488351232 then (if ((x_9.size : Int) + ((r12 ++ r13).size : Int)) ≤ 140737488355328 then (impl_tokensText.l0 k a0 (x_9 ++ (r12 ++ r13)) (IntKind.wrap .i64 (x_10 + 1))) else none) else none)))) else none) else none) else (if 0 ≤ 0 then (if 0 ≤ 255 then (if (x_9.size : Int) < 140737488355328 then (some ((x_9 ++ (std.strOf [0])), true)) else none) else none) else none))
def impl_tokensText.f (k : Nat) (a0 : List GToken) : Option (ByteArray × Bool) := (if 20000 < (a0.length : Int) then (some ((⟨#[]⟩ : ByteArray), false)) else ((slices_ContainsFunc_58.f k a0).bind fun r0 => (if r0 = true then (some ((⟨#[]⟩ : ByteArray), false)) else (impl_tokensText.l0 k a0 (⟨#[]⟩ : ByteArray) 0))))
theorem impl_tokensText.le (O : Prim) (hO : O = std) (k : Nat) (a0 : List GToken) : Le F O M fi38.kills impl_tokensText.e (impl_tokensText.f k a0) (den O M fi38.kills fi38.fn fi38.body (tab.gives 38) (M 38) [.one (.imm 64 a0)] : Tr tab) := by
  refine Le.eqS 0 (by conv => lhs; cbv) ?_
  unfold impl_tokensText.f
  refine Le.condP 3 1 (by subst hO; rfl) (by conv => lhs; cbv) (by conv => lhs; cbv) ?_ ?_
  · exact Le.ret2 (by subst hO; rfl)
  · refine Le.callC 1 (fi := fi57) rfl (slices_ContainsFunc_58.le O hO k a0) (by subst hO; rfl) (by intro r0; conv => lhs; cbv) ?_
    intro r0
    refine Le.condP 0 0 (by subst hO; exact Bool.decide_eq_true) (by conv => lhs; cbv) (by conv => lhs; cbv) ?_ ?_
    · exact Le.ret2 (by subst hO; rfl)
    · refine Le.loopS (fun (n : Nat) (v : ByteArray × Int) => impl_tokensText.l0 n a0 v.1 v.2) (fun (v : ByteArray × Int) => match v with | (x_9, x_10) => (⟨[], [D_, D_, D_, D_, .one (.bld x_9), D_, D_, D_, D_, D_, D_, D_, D_, D_, .one (.imm 64 a0), .one (.lit (.int .i64 (O.len a0))), .one (.lit (.int .i64 x_10)), D_, D_, D_, D_, D_, D_, D_, D_, D_, D_, D_, D_, D_, D_, D_, D_, D_, D_, D_, D_, D_, D_, D_, D_, D_, D_, D_, D_], [[], [], [], [], [], [], [], [], [], [], [], [], [], [], [], [], [], [], [], [], [], [], [], [], [], [], [], [], [], [], [], [], [], [], [], [], [], [], [], [], [], [], [], [], [], []], []⟩ : S tab)) k ((⟨#[]⟩ : ByteArray), 0) (by subst hO; rfl) rfl (fun _ => rfl) ?_
      intro n0 hn0 ih0 v0
      obtain ⟨x_9, x_10⟩ := v0
      refine Le.eqS 0 (by conv => lhs; cbv) ?_
      show Le F O M _ _ (impl_tokensText.l0 (n0 + 1) a0 x_9 x_10) _
      rw [impl_tokensText.l0]
      refine Le.condP 0 0 (by subst hO; rfl) (by conv => lhs; cbv) (by conv => lhs; cbv) ?_ ?_
      · refine Le.guardP 0 (by subst hO; rfl) (by conv => lhs; cbv) ?_
        refine Le.guardP 0 (by subst hO; rfl) (by conv => lhs; cbv) ?_
        refine Le.condP 0 0 (by subst hO; rfl) (by conv => lhs; cbv) (by conv => lhs; cbv) ?_ ?_
        · refine Le.callC 0 (fi := fi41) rfl (impl_varText.le O hO n0 (O.wrap .i64 (O.mul 2 (O.ssize (O.get (⟨0, (⟨#[]⟩ : ByteArray), 0, 0⟩ : GToken) a0 x_10).Data)))) (by subst hO; rfl) (by intro r11; conv => lhs; cbv) ?_
          intro r11
          refine Le.guardP 0 (by subst hO; rfl) (by conv => lhs; cbv) ?_
          refine Le.guardP 0 (by subst hO; rfl) (by conv => lhs; cbv) ?_
          exact Le.again (ih0 n0 (by omega) ((O.scat x_9 (O.scat r11 (O.get (⟨0, (⟨#[]⟩ : ByteArray), 0, 0⟩ : GToken) a0 x_10).Data)), (O.wrap .i64 (O.add x_10 1)))) (by subst hO; rfl) rfl
        · refine Le.callC 0 (fi := fi41) rfl (impl_varText.le O hO n0 (O.wrap .i64 (O.add (O.wrap .i64 (O.mul 2 (O.get (⟨0, (⟨#[]⟩ : ByteArray), 0, 0⟩ : GToken) a0 x_10).Count)) 1))) (by subst hO; rfl) (by intro r12; conv => lhs; cbv) ?_
          intro r12
          refine Le.callC 0 (fi := fi41) rfl (impl_varText.le O hO n0 (O.get (⟨0, (⟨#[]⟩ : ByteArray), 0, 0⟩ : GToken) a0 x_10).From) (by subst hO; rfl) (by intro r13; conv => lhs; cbv) ?_
          intro r13
          refine Le.guardP 0 (by subst hO; rfl) (by conv => lhs; cbv) ?_
          refine Le.guardP 0 (by subst hO; rfl) (by conv => lhs; cbv) ?_
          exact Le.again (ih0 n0 (by omega) ((O.scat x_9 (O.scat r12 r13)), (O.wrap .i64 (O.add x_10 1)))) (by subst hO; rfl) rfl
      · refine Le.guardP 0 (by subst hO; rfl) (by conv => lhs; cbv) ?_
        refine Le.guardP 0 (by subst hO; rfl) (by conv => lhs; cbv) ?_
        refine Le.guardP 0 (by subst hO; rfl) (by conv => lhs; cbv) ?_
        exact Le.ret2 (by subst hO; rfl)
/-! ### (loop.example/g00100/impl.Sig).isNone -/
def impl_Sig_isNone.e (r : Bool) : Res tab := (([], []), .one (.lit (.bool r)))
def impl_Sig_isNone.f (a0 : GSig) : Option Bool := (if a0.Size = 0 then (if a0.Rest = 0 then (if (a0.Weak.length : Int) = 0 then (some (decide ((a0.Strong.length : Int) = 0))) else (some false)) else (some false)) else (some false))
theorem impl_Sig_isNone.le (O : Prim) (hO : O = std) (a0 : GSig) : Le F O M fi40.kills impl_Sig_isNone.e (impl_Sig_isNone.f a0) (den O M fi40.kills fi40.fn fi40.body (tab.gives 40) (M 40) [.agg [.lit (.int .i64 a0.Size), .lit (.int .i64 a0.Rest), .imm 59 a0.Weak, .imm 9 a0.Strong]] : Tr tab) := by
  refine Le.eqS 0 (by conv => lhs; cbv) ?_
  unfold impl_Sig_isNone.f
  refine Le.condP 3 13 (by subst hO; rfl) (by conv => lhs; cbv) (by conv => lhs; cbv) ?_ ?_
  · refine Le.condP 4 9 (by subst hO; rfl) (by conv => lhs; cbv) (by conv => lhs; cbv) ?_ ?_
    · refine Le.condP 4 4 (by subst hO; rfl) (by conv => lhs; cbv) (by conv => lhs; cbv) ?_ ?_
      · exact Le.ret2 (by subst hO; rfl)
      · exact Le.ret2 (by subst hO; rfl)
    · exact Le.ret2 (by subst hO; rfl)
  · exact Le.ret2 (by subst hO; rfl)
/-! ### loop.example/g00100/impl.MsgOk -/
def impl_MsgOk.e (r : Bool) : Res tab := (([], []), .one (.lit (.bool r)))
def impl_MsgOk.f (k : Nat) (a0 : GMsg) : Option Bool := ((impl_within.f a0.Place 0 1000).bind fun r0 => (if r0 = true then (if (a0.Tokens.length : Int) = 0 then (if a0.Kind = 0 then ((impl_SigOk.f k a0.Sig).bind fun r1 => (if r1 = true then (some (std.seq a0.Sum (⟨#[]⟩ : ByteArray))) else (some false))) else (if a0.Kind = 1 then ((impl_tokensText.f k a0.Tokens).bind fun r2 => ((impl_Sig_isNone.f a0.Sig).bind fun r3 => (if r3 = true then (if r2.2 = true then (some (decide ((a0.Sum.size : Int) = 16))) else (some false)) else (some false)))) else (if a0.Kind = 2 then ((impl_Sig_isNone.f a0.Sig).bind fun r4 => (if r4 = true then (some (std.seq a0.Sum (⟨#[]⟩ : ByteArray))) else (some false))) else (some false)))) else (if a0.Kind = 0 then ((impl_SigOk.f k a0.Sig).bind fun r5 => (if r5 = true then (some false) else (some false))) else (if a0.Kind = 1 then ((impl_tokensText.f k a0.Tokens).bind fun r6 => ((impl_Sig_isNone.f a0.Sig).bind fun r7 => (if r7 = true then (if r6.2 = true then (some (decide ((a0.Sum.size : Int) = 16))) else (some false)) else (some false)))) else (if a0.Kind = 2 then ((impl_Sig_isNone.f a0.Sig).bind fun r8 => (if r8 = true then (some false) else (some false))) else (some false))))) else (some false)))
theorem impl_MsgOk.le (O : Prim) (hO : O = std) (k : Nat) (a0 : GMsg) : Le F O M fi20.kills impl_MsgOk.e (impl_MsgOk.f k a0) (den O M fi20.kills fi20.fn fi20.body (tab.gives 20) (M 20) [.agg [.lit (.int .i64 a0.Kind), .lit (.int .i64 a0.Place), .lit (.int .i64 a0.Sig.Size), .lit (.int .i64 a0.Sig.Rest), .imm 59 a0.Sig.Weak, .imm 9 a0.Sig.Strong, .imm 64 a0.Tokens, .lit (.string a0.Sum)]] : Tr tab) := by
  refine Le.eqS 0 (by conv => lhs; cbv) ?_
  unfold impl_MsgOk.f
  refine Le.callC 0 (fi := fi39) rfl (impl_within.le O hO a0.Place 0 1000) (by subst hO; rfl) (by intro r0; conv => lhs; cbv) ?_
  intro r0
  refine Le.condN 0 0 (by subst hO; exact Bool.decide_eq_true.trans (Bool.not_not _).symm) (by conv => lhs; cbv) (by conv => lhs; cbv) ?_ ?_
  · exact Le.ret2 (by subst hO; rfl)
  · refine Le.condP 3 3 (by subst hO; rfl) (by conv => lhs; cbv) (by conv => lhs; cbv) ?_ ?_
    · refine Le.condP 0 0 (by subst hO; rfl) (by conv => lhs; cbv) (by conv => lhs; cbv) ?_ ?_
      · refine Le.callC 0 (fi := fi37) rfl (impl_SigOk.le O hO k a0.Sig) (by subst hO; rfl) (by intro r1; conv => lhs; cbv) ?_
        intro r1
        refine Le.condP 1 1 (by subst hO; exact Bool.decide_eq_true) (by conv => lhs; cbv) (by conv => lhs; cbv) ?_ ?_
        · exact Le.ret2 (by subst hO; rfl)
        · exact Le.ret2 (by subst hO; rfl)
      · refine Le.condP 0 0 (by subst hO; rfl) (by conv => lhs; cbv) (by conv => lhs; cbv) ?_ ?_
        · refine Le.callC 0 (fi := fi38) rfl (impl_tokensText.le O hO k a0.Tokens) (by subst hO; rfl) (by intro r2; conv => lhs; cbv) ?_
          intro r2
          refine Le.callC 0 (fi := fi40) rfl (impl_Sig_isNone.le O hO a0.Sig) (by subst hO; rfl) (by intro r3; conv => lhs; cbv) ?_
          intro r3
          refine Le.condP 1 6 (by subst hO; exact Bool.decide_eq_true) (by conv => lhs; cbv) (by conv => lhs; cbv) ?_ ?_
          · refine Le.condP 4 4 (by subst hO; exact Bool.decide_eq_true) (by conv => lhs; cbv) (by conv => lhs; cbv) ?_ ?_
            · exact Le.ret2 (by subst hO; rfl)
            · exact Le.ret2 (by subst hO; rfl)
          · exact Le.ret2 (by subst hO; rfl)
        · refine Le.condP 0 0 (by subst hO; rfl) (by conv => lhs; cbv) (by conv => lhs; cbv) ?_ ?_
          · refine Le.callC 0 (fi := fi40) rfl (impl_Sig_isNone.le O hO a0.Sig) (by subst hO; rfl) (by intro r4; conv => lhs; cbv) ?_
            intro r4
            refine Le.condP 1 1 (by subst hO; exact Bool.decide_eq_true) (by conv => lhs; cbv) (by conv => lhs; cbv) ?_ ?_
            · exact Le.ret2 (by subst hO; rfl)
            · exact Le.ret2 (by subst hO; rfl)
          · exact Le.ret2 (by subst hO; rfl)
    · refine Le.condP 0 0 (by subst hO; rfl) (by conv => lhs; cbv) (by conv => lhs; cbv) ?_ ?_
      · refine Le.callC 0 (fi := fi37) rfl (impl_SigOk.le O hO k a0.Sig) (by subst hO; rfl) (by intro r5; conv => lhs; cbv) ?_
        intro r5
        refine Le.condP 1 1 (by subst hO; exact Bool.decide_eq_true) (by conv => lhs; cbv) (by conv => lhs; cbv) ?_ ?_
        · exact Le.ret2 (by subst hO; rfl)
        · exact Le.ret2 (by subst hO; rfl)
      · refine Le.condP 0 0 (by subst hO; rfl) (by conv => lhs; cbv) (by conv => lhs; cbv) ?_ ?_
        · refine Le.callC 0 (fi := fi38) rfl (impl_tokensText.le O hO k a0.Tokens) (by subst hO; rfl) (by intro r6; conv => lhs; cbv) ?_
          intro r6
          refine Le.callC 0 (fi := fi40) rfl (impl_Sig_isNone.le O hO a0.Sig) (by subst hO; rfl) (by intro r7; conv => lhs; cbv) ?_
          intro r7
          refine Le.condP 1 6 (by subst hO; exact Bool.decide_eq_true) (by conv => lhs; cbv) (by conv => lhs; cbv) ?_ ?_
          · refine Le.condP 4 4 (by subst hO; exact Bool.decide_eq_true) (by conv => lhs; cbv) (by conv => lhs; cbv) ?_ ?_
            · exact Le.ret2 (by subst hO; rfl)
            · exact Le.ret2 (by subst hO; rfl)
          · exact Le.ret2 (by subst hO; rfl)
        · refine Le.condP 0 0 (by subst hO; rfl) (by conv => lhs; cbv) (by conv => lhs; cbv) ?_ ?_
          · refine Le.callC 0 (fi := fi40) rfl (impl_Sig_isNone.le O hO a0.Sig) (by subst hO; rfl) (by intro r8; conv => lhs; cbv) ?_
            intro r8
            refine Le.condP 1 1 (by subst hO; exact Bool.decide_eq_true) (by conv => lhs; cbv) (by conv => lhs; cbv) ?_ ?_
            · exact Le.ret2 (by subst hO; rfl)
            · exact Le.ret2 (by subst hO; rfl)
          · exact Le.ret2 (by subst hO; rfl)
/-! ### loop.example/g00100/impl.wordText -/
def impl_wordText.e (r : ByteArray) : Res tab := (([], []), .one (.lit (.string r)))
def impl_wordText.f (a0 : Int) : Option ByteArray := (if 0 ≤ 8 then (if 0 ≤ 16 then (if 0 ≤ 24 then (some (std.strOf [(IntKind.wrap .u8 a0), (IntKind.wrap .u8 (std.shr .u32 a0 8)), (IntKind.wrap .u8 (std.shr .u32 a0 16)), (IntKind.wrap .u8 (std.shr .u32 a0 24))])) else none) else none) else none)
theorem impl_wordText.le (O : Prim) (hO : O = std) (a0 : Int) : Le F O M fi63.kills impl_wordText.e (impl_wordText.f a0) (den O M fi63.kills fi63.fn fi63.body (tab.gives 63) (M 63) [.one (.lit (.int .u32 a0))] : Tr tab) := by
  refine Le.eqS 0 (by conv => lhs; cbv) ?_
  unfold impl_wordText.f
  refine Le.guardP 0 (by subst hO; rfl) (by conv => lhs; cbv) ?_
  refine Le.guardP 0 (by subst hO; rfl) (by conv => lhs; cbv) ?_
  refine Le.guardP 0 (by subst hO; rfl) (by conv => lhs; cbv) ?_
  exact Le.ret2 (by subst hO; rfl)
/-! ### loop.example/g00100/impl.sigText -/
def impl_sigText.e (r : ByteArray) : Res tab := (([], []), .one (.lit (.string r)))
def impl_sigText.l0 : Nat → GSig → ByteArray → Int → Option ByteArray
  | 0, _, _, _ => none
  | k + 1, a0, x_7, x_8 => (if x_8 < (a0.Weak.length : Int) then (if 0 ≤ x_8 then (if x_8 < (a0.Weak.length : Int) then (if 0 ≤ x_8 then (if x_8 < (a0.Strong.length : Int) then ((impl_wordText.f (a0.Weak.getD (Int.toNat x_8) 0)).bind fun r9 => (if ((r9.size : Int) + ((a0.Strong.getD (Int.toNat x_8) (⟨#[]⟩ : ByteArray)).size : Int)) ≤ 140737488351232 then (if ((x_7.size : Int) + ((r9 ++ (a0.Strong.getD (Int.toNat x_8) (⟨#[]⟩ : ByteArray))).size : Int)) ≤ 140737488351232 then (impl_sigText.l0 k a0 (x_7 ++ (r9 ++ (a0.Strong.getD (Int.toNat x_8) (⟨#[]⟩ : ByteArray)))) (IntKind.wrap .i64 (x_8 + 1))) else none) else none)) else none) else none) else none) else none) else (some x_7))
def impl_sigText.f (k : Nat) (a0 : GSig) : Option ByteArray := ((impl_varText.f k a0.Size).bind fun r0 => ((impl_varText.f k a0.Rest).bind fun r1 => (if ((r0.size : Int) + (r1.size : Int)) ≤ 140737488351232 then ((impl_varText.f k (a0.Weak.length : Int)).bind fun r2 => (if (((r0 ++ r1).size : Int) + (r2.size : Int)) ≤ 140737488351232 then (impl_sigText.l0 k a0 ((r0 ++ r1) ++ r2) 0) else none)) else none)))
theorem impl_sigText.le (O : Prim) (hO : O = std) (k : Nat) (a0 : GSig) : Le F O M fi42.kills impl_sigText.e (impl_sigText.f k a0) (den O M fi42.kills fi42.fn fi42.body (tab.gives 42) (M 42) [.agg [.lit (.int .i64 a0.Size), .lit (.int .i64 a0.Rest), .imm 59 a0.Weak, .imm 9 a0.Strong]] : Tr tab) := by
  refine Le.eqS 0 (by conv => lhs; cbv) ?_
  unfold impl_sigText.f
  refine Le.callC 0 (fi := fi41) rfl (impl_varText.le O hO k a0.Size) (by subst hO; rfl) (by intro r0; conv => lhs; cbv) ?_
  intro r0
  refine Le.callC 0 (fi := fi41) rfl (impl_varText.le O hO k a0.Rest) (by subst hO; rfl) (by intro r1; conv => lhs; cbv) ?_
  intro r1
  refine Le.guardP 0 (by subst hO; rfl) (by conv => lhs; cbv) ?_
  refine Le.callC 0 (fi := fi41) rfl (impl_varText.le O hO k (O.len a0.Weak)) (by subst hO; rfl) (by intro r2; conv => lhs; cbv) ?_
  intro r2
  refine Le.guardP 0 (by subst hO; rfl) (by conv => lhs; cbv) ?_
  refine Le.loopS (fun (n : Nat) (v : ByteArray × Int) => impl_sigText.l0 n a0 v.1 v.2) (fun (v : ByteArray × Int) => match v with | (x_7, x_8) => (⟨[], [D_, .one (.ptr ⟨5, 0, []⟩), D_, .one (.lit (.string x_7)), D_, D_, D_, D_, D_, D_, D_, D_, D_, D_, D_, D_, D_, D_, D_, .one (.imm 59 a0.Weak), .one (.lit (.int .i64 (O.len a0.Weak))), .one (.lit (.int .i64 x_8)), D_, D_, D_, D_, D_, D_, D_, D_, D_, D_, D_, D_, D_, D_, D_, D_], [[], [.lit (.int .i64 a0.Size), .lit (.int .i64 a0.Rest), .imm 59 a0.Weak, .imm 9 a0.Strong], [], [], [], [], [], [], [], [], [], [], [], [], [], [], [], [], [], [], [], [], [], [], [], [], [], [], [], [], [], [], [], [], [], [], [], [], []], []⟩ : S tab)) k ((O.scat (O.scat r0 r1) r2), 0) (by subst hO; rfl) rfl (fun _ => rfl) ?_
  intro n0 hn0 ih0 v0
  obtain ⟨x_7, x_8⟩ := v0
  refine Le.eqS 0 (by conv => lhs; cbv) ?_
  show Le F O M _ _ (impl_sigText.l0 (n0 + 1) a0 x_7 x_8) _
  rw [impl_sigText.l0]
  refine Le.condP 0 0 (by subst hO; rfl) (by conv => lhs; cbv) (by conv => lhs; cbv) ?_ ?_
  · refine Le.guardP 0 (by subst hO; rfl) (by conv => lhs; cbv) ?_
    refine Le.guardP 0 (by subst hO; rfl) (by conv => lhs; cbv) ?_
    refine Le.guardP 0 (by subst hO; rfl) (by conv => lhs; cbv) ?_
    refine Le.guardP 0 (by subst hO; rfl) (by conv => lhs; cbv) ?_
    refine Le.callC 0 (fi := fi63) rfl (impl_wordText.le O hO (O.get 0 a0.Weak x_8)) (by subst hO; rfl) (by intro r9; conv => lhs; cbv) ?_
    intro r9
    refine Le.guardP 0 (by subst hO; rfl) (by conv => lhs; cbv) ?_
    refine Le.guardP 0 (by subst hO; rfl) (by conv => lhs; cbv) ?_
    exact Le.again (ih0 n0 (by omega) ((O.scat x_7 (O.scat r9 (O.get (⟨#[]⟩ : ByteArray) a0.Strong x_8))), (O.wrap .i64 (O.add x_8 1)))) (by subst hO; rfl) rfl
  · exact Le.ret2 (by subst hO; rfl)
/-! ### loop.example/g00100/impl.msgText -/
def impl_msgText.e (r : ByteArray) : Res tab := (([], []), .one (.lit (.string r)))
def impl_msgText.f (k : Nat) (a0 : GMsg) : Option ByteArray := ((impl_varText.f k a0.Kind).bind fun r0 => ((impl_varText.f k a0.Place).bind fun r1 => (if ((r0.size : Int) + (r1.size : Int)) ≤ 140737488351232 then (if a0.Kind = 0 then ((impl_sigText.f k a0.Sig).bind fun r2 => (if (((r0 ++ r1).size : Int) + (r2.size : Int)) ≤ 140737488351232 then (some ((r0 ++ r1) ++ r2)) else none)) else (if a0.Kind = 1 then ((impl_tokensText.f k a0.Tokens).bind fun r3 => (if ((a0.Sum.size : Int) + (r3.1.size : Int)) ≤ 140737488351232 then (if (((r0 ++ r1).size : Int) + ((a0.Sum ++ r3.1).size : Int)) ≤ 140737488351232 then (some ((r0 ++ r1) ++ (a0.Sum ++ r3.1))) else none) else none)) else (some (r0 ++ r1)))) else none)))
theorem impl_msgText.le (O : Prim) (hO : O = std) (k : Nat) (a0 : GMsg) : Le F O M fi21.kills impl_msgText.e (impl_msgText.f k a0) (den O M fi21.kills fi21.fn fi21.body (tab.gives 21) (M 21) [.agg [.lit (.int .i64 a0.Kind), .lit (.int .i64 a0.Place), .lit (.int .i64 a0.Sig.Size), .lit (.int .i64 a0.Sig.Rest), .imm 59 a0.Sig.Weak, .imm 9 a0.Sig.Strong, .imm 64 a0.Tokens, .lit (.string a0.Sum)]] : Tr tab) := by
  refine Le.eqS 0 (by conv => lhs; cbv) ?_
  unfold impl_msgText.f
  refine Le.callC 0 (fi := fi41) rfl (impl_varText.le O hO k a0.Kind) (by subst hO; rfl) (by intro r0; conv => lhs; cbv) ?_
  intro r0
  refine Le.callC 0 (fi := fi41) rfl (impl_varText.le O hO k a0.Place) (by subst hO; rfl) (by intro r1; conv => lhs; cbv) ?_
  intro r1
  refine Le.guardP 0 (by subst hO; rfl) (by conv => lhs; cbv) ?_
  refine Le.condP 0 0 (by subst hO; rfl) (by conv => lhs; cbv) (by conv => lhs; cbv) ?_ ?_
  · refine Le.callC 0 (fi := fi42) rfl (impl_sigText.le O hO k a0.Sig) (by subst hO; rfl) (by intro r2; conv => lhs; cbv) ?_
    intro r2
    refine Le.guardP 0 (by subst hO; rfl) (by conv => lhs; cbv) ?_
    exact Le.ret2 (by subst hO; rfl)
  · refine Le.condP 0 0 (by subst hO; rfl) (by conv => lhs; cbv) (by conv => lhs; cbv) ?_ ?_
    · refine Le.callC 0 (fi := fi38) rfl (impl_tokensText.le O hO k a0.Tokens) (by subst hO; rfl) (by intro r3; conv => lhs; cbv) ?_
      intro r3
      refine Le.guardP 0 (by subst hO; rfl) (by conv => lhs; cbv) ?_
      refine Le.guardP 0 (by subst hO; rfl) (by conv => lhs; cbv) ?_
      exact Le.ret2 (by subst hO; rfl)
    · exact Le.ret2 (by subst hO; rfl)
/-! ### loop.example/g00100/impl.readTokens -/
def impl_readTokens.e (r : List GToken × Bool) : Res tab := (([], []), .tup [(false, [.own 64 r.1]), (false, [.lit (.bool r.2)])])
def impl_readTokens.l0 : Nat → ByteArray → (List GToken) → Int → ByteArray → Bool → Option (List GToken × Bool)
  | 0, _, _, _, _, _ => none
  | k + 1, a0, x_17, x_18, b_19, b_20 => (if 0 < x_18 then (if b_20 = true then ((impl_tokensText.f k x_17).bind fun r27 => (if b_20 = true then (some (([] : List GToken), false)) else (if r27.2 = true then (if r27.1 = a0 then (some (x_17, true)) else (some (([] : List GToken), false))) else (some (([] : List GToken), false))))) else (if (x_17.length : Int) = 20000 then (some (([] : List GToken), false)) else (if 2 = 0 then none else (if (Int.tmod x_18 2) = 0 then (if 2 = 0 then none else (if (IntKind.wrap .i64 (Int.tdiv x_18 2)) ≤ 100 then (if 2 = 0 then none else ((impl_reader_take.f (⟨b_19, b_20⟩ : GReader) (IntKind.wrap .i64 (Int.tdiv x_18 2))).bind fun r21 => (if (((x_17.length : Int) + ([(⟨0, r21.1, 0, 0⟩ : GToken)].length : Int)) * 40) ≤ 140737488351232 then ((impl_reader_number.f k r21.2).bind fun r22 => (impl_readTokens.l0 k a0 (x_17 ++ [(⟨0, r21.1, 0, 0⟩ : GToken)]) r22.1 r22.2.Text r22.2.Bad)) else none))) else (if 2 = 0 then none else (if (Int.tmod x_18 2) = 1 then (if 2 = 0 then none else ((impl_reader_number.f k (⟨b_19, b_20⟩ : GReader)).bind fun r23 => (if (((x_17.length : Int) + ([(⟨1, (⟨#[]⟩ : ByteArray), r23.1, (IntKind.wrap .i64 (Int.tdiv x_18 2))⟩ : GToken)].length : Int)) * 40) ≤ 140737488351232 then ((impl_reader_number.f k r23.2).bind fun r24 => (impl_readTokens.l0 k a0 (x_17 ++ [(⟨1, (⟨#[]⟩ : ByteArray), r23.1, (IntKind.wrap .i64 (Int.tdiv x_18 2))⟩ : GToken)]) r24.1 r24.2.Text r24.2.Bad)) else none))) else (some (([] : List GToken), false)))))) else (if 2 = 0 then none else (if (Int.tmod x_18 2) = 1 then (if 2 = 0 then none else ((impl_reader_number.f k (⟨b_19, b_20⟩ : GReader)).bind fun r25 => (if (((x_17.length : Int) + ([(⟨1, (⟨#[]⟩ : ByteArray), r25.1, (IntKind.wrap .i64 (Int.tdiv x_18 2))⟩ : GToken)].length : Int)) * 40) ≤ 140737488351232 then ((impl_reader_number.f k r25.2).bind fun r26 => (impl_readTokens.l0 k a0 (x_17 ++ [(⟨1, (⟨#[]⟩ : ByteArray), r25.1, (IntKind.wrap .i64 (Int.tdiv x_18 2))⟩ : GToken)]) r26.1 r26.2.Text r26.2.Bad)) else none))) else (some (([] : List GToken), false)))))))) else ((impl_tokensText.f k x_17).bind fun r28 => (if b_20 = true then (some (([] : List GToken), false)) else (if r28.2 = true then (if r28.1 = a0 then (some (x_17, true)) else (some (([] : List GToken), false))) else (some (([] : List GToken), false))))))
def impl_readTokens.f (k : Nat) (a0 : ByteArray) : Option (List GToken × Bool) := ((impl_reader_number.f k (⟨a0, false⟩ : GReader)).bind fun r0 => (impl_readTokens.l0 k a0 ([] : List GToken) r0.1 r0.2.Text r0.2.Bad))
theorem impl_readTokens.le (O : Prim) (hO : O = std) (k : Nat) (a0 : ByteArray) : Le F O M fi19.kills impl_readTokens.e (impl_readTokens.f k a0) (den O M fi19.kills fi19.fn fi19.body (tab.gives 19) (M 19) [.one (.lit (.string a0))] : Tr tab) := by
  refine Le.eqS 0 (by conv => lhs; cbv) ?_
  unfold impl_readTokens.f
  refine Le.callC 0 (fi := fi16) rfl (impl_reader_number.le O hO k (⟨a0, false⟩ : GReader)) (by subst hO; rfl) (by intro r0; conv => lhs; cbv) ?_
  intro r0
  refine Le.loopS (fun (n : Nat) (v : List GToken × Int × ByteArray × Bool) => impl_readTokens.l0 n a0 v.1 v.2.1 v.2.2.1 v.2.2.2) (fun (v : List GToken × Int × ByteArray × Bool) => match v with | (x_17, x_18, b_19, b_20) => (⟨[], [.one (.lit (.string a0)), D_, D_, D_, .one (.ptr ⟨25, 0, []⟩), .one (.own 64 x_17), .one (.lit (.int .i64 x_18)), D_, D_, D_, D_, D_, D_, D_, D_, D_, D_, D_, D_, D_, D_, D_, D_, D_, D_, D_, D_, D_, D_, D_, D_, D_, D_, D_, D_, D_, D_, D_, D_, D_, D_, D_, D_, D_, D_, D_, D_, D_, D_, D_, D_, D_, D_, D_, D_, D_, D_, D_, D_, D_, D_, D_, D_, D_, D_, D_, D_, D_, D_, D_, D_, D_, D_, D_, D_, D_, D_], [[], [], [], [], [], [], [], [], [], [], [], [.lit (.string b_19), .lit (.bool b_20)], [], [], [], [], [], [], [], [], [], [], [], [], [], [], [], [], [], [], [], [], [], [], [], [], [], [], [], [], [], [], [], [], [], [], [], [], [], [], [], [], [], [], [], [], [], [], [], [], [], [], [], [], [], [], [], [], [], [], [], [], [], [], [], [], [], []], []⟩ : S tab)) k (([] : List GToken), r0.1, r0.2.Text, r0.2.Bad) (by subst hO; rfl) rfl (fun _ => rfl) ?_
  intro n0 hn0 ih0 v0
  obtain ⟨x_17, x_18, b_19, b_20⟩ := v0
  refine Le.eqS 0 (by conv => lhs; cbv) ?_
  show Le F O M _ _ (impl_readTokens.l0 (n0 + 1) a0 x_17 x_18 b_19 b_20) _
  rw [impl_readTokens.l0]
  refine Le.condP 5 6 (by subst hO; rfl) (by conv => lhs; cbv) (by conv => lhs; cbv) ?_ ?_
  · refine Le.condN 0 0 (by subst hO; exact Bool.decide_eq_true.trans (Bool.not_not _).symm) (by conv => lhs; cbv) (by conv => lhs; cbv) ?_ ?_
    · refine Le.condP 0 0 (by subst hO; rfl) (by conv => lhs; cbv) (by conv => lhs; cbv) ?_ ?_
      · exact Le.ret2 (by subst hO; rfl)
      · refine Le.guardN 0 (by subst hO; rfl) (by conv => lhs; cbv) ?_
        refine Le.condP 1 4 (by subst hO; rfl) (by conv => lhs; cbv) (by conv => lhs; cbv) ?_ ?_
        · refine Le.guardN 2 (by subst hO; rfl) (by conv => lhs; cbv) ?_
          refine Le.condP 0 0 (by subst hO; rfl) (by conv => lhs; cbv) (by conv => lhs; cbv) ?_ ?_
          · refine Le.guardN 0 (by subst hO; rfl) (by conv => lhs; cbv) ?_
            refine Le.callC 0 (fi := fi18) rfl (impl_reader_take.le O hO (⟨b_19, b_20⟩ : GReader) (O.wrap .i64 (O.quo x_18 2))) (by subst hO; rfl) (by intro r21; conv => lhs; cbv) ?_
            intro r21
            refine Le.guardP 0 (by subst hO; rfl) (by conv => lhs; cbv) ?_
            refine Le.callC 0 (fi := fi16) rfl (impl_reader_number.le O hO n0 r21.2) (by subst hO; rfl) (by intro r22; conv => lhs; cbv) ?_
            intro r22
            exact Le.again (ih0 n0 (by omega) ((O.app x_17 [(⟨0, r21.1, 0, 0⟩ : GToken)]), r22.1, r22.2.Text, r22.2.Bad)) (by subst hO; rfl) rfl
          · refine Le.guardN 0 (by subst hO; rfl) (by conv => lhs; cbv) ?_
            refine Le.condP 0 0 (by subst hO; rfl) (by conv => lhs; cbv) (by conv => lhs; cbv) ?_ ?_
            · refine Le.guardN 0 (by subst hO; rfl) (by conv => lhs; cbv) ?_
              refine Le.callC 0 (fi := fi16) rfl (impl_reader_number.le O hO n0 (⟨b_19, b_20⟩ : GReader)) (by subst hO; rfl) (by intro r23; conv => lhs; cbv) ?_
              intro r23
              refine Le.guardP 0 (by subst hO; rfl) (by conv => lhs; cbv) ?_
              refine Le.callC 0 (fi := fi16) rfl (impl_reader_number.le O hO n0 r23.2) (by subst hO; rfl) (by intro r24; conv => lhs; cbv) ?_
              intro r24
              exact Le.again (ih0 n0 (by omega) ((O.app x_17 [(⟨1, (⟨#[]⟩ : ByteArray), r23.1, (O.wrap .i64 (O.quo x_18 2))⟩ : GToken)]), r24.1, r24.2.Text, r24.2.Bad)) (by subst hO; rfl) rfl
            · exact Le.ret2 (by subst hO; rfl)
        · refine Le.guardN 0 (by subst hO; rfl) (by conv => lhs; cbv) ?_
          refine Le.condP 0 0 (by subst hO; rfl) (by conv => lhs; cbv) (by conv => lhs; cbv) ?_ ?_
          · refine Le.guardN 0 (by subst hO; rfl) (by conv => lhs; cbv) ?_
            refine Le.callC 0 (fi := fi16) rfl (impl_reader_number.le O hO n0 (⟨b_19, b_20⟩ : GReader)) (by subst hO; rfl) (by intro r25; conv => lhs; cbv) ?_
            intro r25
            refine Le.guardP 0 (by subst hO; rfl) (by conv => lhs; cbv) ?_
            refine Le.callC 0 (fi := fi16) rfl (impl_reader_number.le O hO n0 r25.2) (by subst hO; rfl) (by intro r26; conv => lhs; cbv) ?_
            intro r26
            exact Le.again (ih0 n0 (by omega) ((O.app x_17 [(⟨1, (⟨#[]⟩ : ByteArray), r25.1, (O.wrap .i64 (O.quo x_18 2))⟩ : GToken)]), r26.1, r26.2.Text, r26.2.Bad)) (by subst hO; rfl) rfl
          · exact Le.ret2 (by subst hO; rfl)
    · refine Le.callC 0 (fi := fi38) rfl (impl_tokensText.le O hO n0 x_17) (by subst hO; rfl) (by intro r27; conv => lhs; cbv) ?_
      intro r27
      refine Le.condP 7 2 (by subst hO; exact Bool.decide_eq_true) (by conv => lhs; cbv) (by conv => lhs; cbv) ?_ ?_
      · exact Le.ret2 (by subst hO; rfl)
      · refine Le.condN 4 3 (by subst hO; exact Bool.decide_eq_true.trans (Bool.not_not _).symm) (by conv => lhs; cbv) (by conv => lhs; cbv) ?_ ?_
        · exact Le.ret2 (by subst hO; rfl)
        · refine Le.condN 0 0 (by subst hO; exact (seq_dec _ _).trans (Bool.not_not _).symm) (by conv => lhs; cbv) (by conv => lhs; cbv) ?_ ?_
          · exact Le.ret2 (by subst hO; rfl)
          · exact Le.ret2 (by subst hO; rfl)
  · refine Le.callC 0 (fi := fi38) rfl (impl_tokensText.le O hO n0 x_17) (by subst hO; rfl) (by intro r28; conv => lhs; cbv) ?_
    intro r28
    refine Le.condP 7 2 (by subst hO; exact Bool.decide_eq_true) (by conv => lhs; cbv) (by conv => lhs; cbv) ?_ ?_
    · exact Le.ret2 (by subst hO; rfl)
    · refine Le.condN 4 3 (by subst hO; exact Bool.decide_eq_true.trans (Bool.not_not _).symm) (by conv => lhs; cbv) (by conv => lhs; cbv) ?_ ?_
      · exact Le.ret2 (by subst hO; rfl)
      · refine Le.condN 0 0 (by subst hO; exact (seq_dec _ _).trans (Bool.not_not _).symm) (by conv => lhs; cbv) (by conv => lhs; cbv) ?_ ?_
        · exact Le.ret2 (by subst hO; rfl)
        · exact Le.ret2 (by subst hO; rfl)
/-! ### loop.example/g00100/impl.GetMsg -/
def impl_GetMsg.e (r : GMsg × Bool) : Res tab := (([], []), .tup [(true, [.lit (.int .i64 r.1.Kind), .lit (.int .i64 r.1.Place), .lit (.int .i64 r.1.Sig.Size), .lit (.int .i64 r.1.Sig.Rest), .own 59 r.1.Sig.Weak, .own 9 r.1.Sig.Strong, .own 64 r.1.Tokens, .lit (.string r.1.Sum)]), (false, [.lit (.bool r.2)])])
def impl_GetMsg.f (k : Nat) (a0 : List Int) : Option (GMsg × Bool) := ((impl_reader_number.f k (⟨(std.strOf a0), false⟩ : GReader)).bind fun r0 => ((impl_reader_number.f k r0.2).bind fun r1 => (if r0.1 = 0 then ((impl_readSig.f k r1.2.Text).bind fun r2 => (if r1.2.Bad = true then (some ((⟨0, 0, (⟨0, 0, ([] : List Int), ([] : List ByteArray)⟩ : GSig), ([] : List GToken), (⟨#[]⟩ : ByteArray)⟩ : GMsg), false)) else (if r2.2 = true then ((impl_MsgOk.f k (⟨r0.1, r1.1, r2.1, ([] : List GToken), (⟨#[]⟩ : ByteArray)⟩ : GMsg)).bind fun r3 => (if r3 = true then ((impl_msgText.f k (⟨r0.1, r1.1, r2.1, ([] : List GToken), (⟨#[]⟩ : ByteArray)⟩ : GMsg)).bind fun r4 => (if r4 = (std.strOf a0) then (some ((⟨r0.1, r1.1, r2.1, ([] : List GToken), (⟨#[]⟩ : ByteArray)⟩ : GMsg), true)) else (some ((⟨0, 0, (⟨0, 0, ([] : List Int), ([] : List ByteArray)⟩ : GSig), ([] : List GToken), (⟨#[]⟩ : ByteArray)⟩ : GMsg), false)))) else (some ((⟨0, 0, (⟨0, 0, ([] : List Int), ([] : List ByteArray)⟩ : GSig), ([] : List GToken), (⟨#[]⟩ : ByteArray)⟩ : GMsg), false)))) else (some ((⟨0, 0, (⟨0, 0, ([] : List Int), ([] : List ByteArray)⟩ : GSig), ([] : List GToken), (⟨#[]⟩ : ByteArray)⟩ : GMsg), false))))) else (if r0.1 = 1 then ((impl_reader_take.f r1.2 16).bind fun r5 => ((impl_readTokens.f k r5.2.Text).bind fun r6 => (if r5.2.Bad = true then (some ((⟨0, 0, (⟨0, 0, ([] : List Int), ([] : List ByteArray)⟩ : GSig), ([] : List GToken), (⟨#[]⟩ : ByteArray)⟩ : GMsg), false)) else (if r6.2 = true then ((impl_MsgOk.f k (⟨r0.1, r1.1, (⟨0, 0, ([] : List Int), ([] : List ByteArray)⟩ : GSig), r6.1, r5.1⟩ : GMsg)).bind fun r7 => (if r7 = true then ((impl_msgText.f k (⟨r0.1, r1.1, (⟨0, 0, ([] : List Int), ([] : List ByteArray)⟩ : GSig), r6.1, r5.1⟩ : GMsg)).bind fun r8 => (if r8 = (std.strOf a0) then (some ((⟨r0.1, r1.1, (⟨0, 0, ([] : List Int), ([] : List ByteArray)⟩ : GSig), r6.1, r5.1⟩ : GMsg), true)) else (some ((⟨0, 0, (⟨0, 0, ([] : List Int), ([] : List ByteArray)⟩ : GSig), ([] : List GToken), (⟨#[]⟩ : ByteArray)⟩ : GMsg), false)))) else (some ((⟨0, 0, (⟨0, 0, ([] : List Int), ([] : List ByteArray)⟩ : GSig), ([] : List GToken), (⟨#[]⟩ : ByteArray)⟩ : GMsg), false)))) else (some ((⟨0, 0, (⟨0, 0, ([] : List Int), ([] : List ByteArray)⟩ : GSig), ([] : List GToken), (⟨#[]⟩ : ByteArray)⟩ : GMsg), false)))))) else (if r1.2.Bad = true then (some ((⟨0, 0, (⟨0, 0, ([] : List Int), ([] : List ByteArray)⟩ : GSig), ([] : List GToken), (⟨#[]⟩ : ByteArray)⟩ : GMsg), false)) else (if true = true then ((impl_MsgOk.f k (⟨r0.1, r1.1, (⟨0, 0, ([] : List Int), ([] : List ByteArray)⟩ : GSig), ([] : List GToken), (⟨#[]⟩ : ByteArray)⟩ : GMsg)).bind fun r9 => (if r9 = true then ((impl_msgText.f k (⟨r0.1, r1.1, (⟨0, 0, ([] : List Int), ([] : List ByteArray)⟩ : GSig), ([] : List GToken), (⟨#[]⟩ : ByteArray)⟩ : GMsg)).bind fun r10 => (if r10 = (std.strOf a0) then (some ((⟨r0.1, r1.1, (⟨0, 0, ([] : List Int), ([] : List ByteArray)⟩ : GSig), ([] : List GToken), (⟨#[]⟩ : ByteArray)⟩ : GMsg), true)) else (some ((⟨0, 0, (⟨0, 0, ([] : List Int), ([] : List ByteArray)⟩ : GSig), ([] : List GToken), (⟨#[]⟩ : ByteArray)⟩ : GMsg), false)))) else (some ((⟨0, 0, (⟨0, 0, ([] : List Int), ([] : List ByteArray)⟩ : GSig), ([] : List GToken), (⟨#[]⟩ : ByteArray)⟩ : GMsg), false)))) else (some ((⟨0, 0, (⟨0, 0, ([] : List Int), ([] : List ByteArray)⟩ : GSig), ([] : List GToken), (⟨#[]⟩ : ByteArray)⟩ : GMsg), false))))))))
theorem impl_GetMsg.le (O : Prim) (hO : O = std) (k : Nat) (a0 : List Int) : Le F O M fi6.kills impl_GetMsg.e (impl_GetMsg.f k a0) (den O M fi6.kills fi6.fn fi6.body (tab.gives 6) (M 6) [.one (.imm 5 a0)] : Tr tab) := by
  refine Le.eqS 0 (by conv => lhs; cbv) ?_
  unfold impl_GetMsg.f
  refine Le.callC 0 (fi := fi16) rfl (impl_reader_number.le O hO k (⟨(O.strOf a0), false⟩ : GReader)) (by subst hO; rfl) (by intro r0; conv => lhs; cbv) ?_
  intro r0
  refine Le.callC 0 (fi := fi16) rfl (impl_reader_number.le O hO k r0.2) (by subst hO; rfl) (by intro r1; conv => lhs; cbv) ?_
  intro r1
  refine Le.condP 0 0 (by subst hO; rfl) (by conv => lhs; cbv) (by conv => lhs; cbv) ?_ ?_
  · refine Le.callC 0 (fi := fi17) rfl (impl_readSig.le O hO k r1.2.Text) (by subst hO; rfl) (by intro r2; conv => lhs; cbv) ?_
    intro r2
    refine Le.condP 13 2 (by subst hO; exact Bool.decide_eq_true) (by conv => lhs; cbv) (by conv => lhs; cbv) ?_ ?_
    · exact Le.ret2 (by subst hO; rfl)
    · refine Le.condN 10 1 (by subst hO; exact Bool.decide_eq_true.trans (Bool.not_not _).symm) (by conv => lhs; cbv) (by conv => lhs; cbv) ?_ ?_
      · exact Le.ret2 (by subst hO; rfl)
      · refine Le.callC 2 (fi := fi20) rfl (impl_MsgOk.le O hO k (⟨r0.1, r1.1, r2.1, ([] : List GToken), (⟨#[]⟩ : ByteArray)⟩ : GMsg)) (by subst hO; rfl) (by intro r3; conv => lhs; cbv) ?_
        intro r3
        refine Le.condN 6 3 (by subst hO; exact Bool.decide_eq_true.trans (Bool.not_not _).symm) (by conv => lhs; cbv) (by conv => lhs; cbv) ?_ ?_
        · exact Le.ret2 (by subst hO; rfl)
        · refine Le.callC 2 (fi := fi21) rfl (impl_msgText.le O hO k (⟨r0.1, r1.1, r2.1, ([] : List GToken), (⟨#[]⟩ : ByteArray)⟩ : GMsg)) (by subst hO; rfl) (by intro r4; conv => lhs; cbv) ?_
          intro r4
          refine Le.condN 0 0 (by subst hO; exact (seq_dec _ _).trans (Bool.not_not _).symm) (by conv => lhs; cbv) (by conv => lhs; cbv) ?_ ?_
          · exact Le.ret2 (by subst hO; rfl)
          · exact Le.ret2 (by subst hO; rfl)
  · refine Le.condP 0 0 (by subst hO; rfl) (by conv => lhs; cbv) (by conv => lhs; cbv) ?_ ?_
    · refine Le.callC 0 (fi := fi18) rfl (impl_reader_take.le O hO r1.2 16) (by subst hO; rfl) (by intro r5; conv => lhs; cbv) ?_
      intro r5
      refine Le.callC 0 (fi := fi19) rfl (impl_readTokens.le O hO k r5.2.Text) (by subst hO; rfl) (by intro r6; conv => lhs; cbv) ?_
      intro r6
      refine Le.condP 13 2 (by subst hO; exact Bool.decide_eq_true) (by conv => lhs; cbv) (by conv => lhs; cbv) ?_ ?_
      · exact Le.ret2 (by subst hO; rfl)
      · refine Le.condN 10 1 (by subst hO; exact Bool.decide_eq_true.trans (Bool.not_not _).symm) (by conv => lhs; cbv) (by conv => lhs; cbv) ?_ ?_
        · exact Le.ret2 (by subst hO; rfl)
        · refine Le.callC 2 (fi := fi20) rfl (impl_MsgOk.le O hO k (⟨r0.1, r1.1, (⟨0, 0, ([] : List Int), ([] : List ByteArray)⟩ : GSig), r6.1, r5.1⟩ : GMsg)) (by subst hO; rfl) (by intro r7; conv => lhs; cbv) ?_
          intro r7
          refine Le.condN 6 3 (by subst hO; exact Bool.decide_eq_true.trans (Bool.not_not _).symm) (by conv => lhs; cbv) (by conv => lhs; cbv) ?_ ?_
          · exact Le.ret2 (by subst hO; rfl)
          · refine Le.callC 2 (fi := fi21) rfl (impl_msgText.le O hO k (⟨r0.1, r1.1, (⟨0, 0, ([] : List Int), ([] : List ByteArray)⟩ : GSig), r6.1, r5.1⟩ : GMsg)) (by subst hO; rfl) (by intro r8; conv => lhs; cbv) ?_
            intro r8
            refine Le.condN 0 0 (by subst hO; exact (seq_dec _ _).trans (Bool.not_not _).symm) (by conv => lhs; cbv) (by conv => lhs; cbv) ?_ ?_
            · exact Le.ret2 (by subst hO; rfl)
            · exact Le.ret2 (by subst hO; rfl)
    · refine Le.condP 13 2 (by subst hO; exact Bool.decide_eq_true) (by conv => lhs; cbv) (by conv => lhs; cbv) ?_ ?_
      · exact Le.ret2 (by subst hO; rfl)
      · refine Le.condN 10 1 (by subst hO; exact Bool.decide_eq_true.trans (Bool.not_not _).symm) (by conv => lhs; cbv) (by conv => lhs; cbv) ?_ ?_
        · exact Le.ret2 (by subst hO; rfl)
        · refine Le.callC 2 (fi := fi20) rfl (impl_MsgOk.le O hO k (⟨r0.1, r1.1, (⟨0, 0, ([] : List Int), ([] : List ByteArray)⟩ : GSig), ([] : List GToken), (⟨#[]⟩ : ByteArray)⟩ : GMsg)) (by subst hO; rfl) (by intro r9; conv => lhs; cbv) ?_
          intro r9
          refine Le.condN 6 3 (by subst hO; exact Bool.decide_eq_true.trans (Bool.not_not _).symm) (by conv => lhs; cbv) (by conv => lhs; cbv) ?_ ?_
          · exact Le.ret2 (by subst hO; rfl)
          · refine Le.callC 2 (fi := fi21) rfl (impl_msgText.le O hO k (⟨r0.1, r1.1, (⟨0, 0, ([] : List Int), ([] : List ByteArray)⟩ : GSig), ([] : List GToken), (⟨#[]⟩ : ByteArray)⟩ : GMsg)) (by subst hO; rfl) (by intro r10; conv => lhs; cbv) ?_
            intro r10
            refine Le.condN 0 0 (by subst hO; exact (seq_dec _ _).trans (Bool.not_not _).symm) (by conv => lhs; cbv) (by conv => lhs; cbv) ?_ ?_
            · exact Le.ret2 (by subst hO; rfl)
            · exact Le.ret2 (by subst hO; rfl)
/-! ### loop.example/g00100/laws.eqUint32S -/
def laws_eqUint32S.e (r : Bool) : Res tab := (([], []), .one (.lit (.bool r)))
def laws_eqUint32S.l0 : Nat → (List Int) → (List Int) → Int → Option Bool
  | 0, _, _, _ => none
  | k + 1, a0, a1, x_1 => (if x_1 < (a0.length : Int) then (if 0 ≤ x_1 then (if x_1 < (a0.length : Int) then (if 0 ≤ x_1 then (if x_1 < (a1.length : Int) then (if (a0.getD (Int.toNat x_1) 0) = (a1.getD (Int.toNat x_1) 0) then (laws_eqUint32S.l0 k a0 a1 (IntKind.wrap .i64 (x_1 + 1))) else (some false)) else none) else none) else none) else none) else (some true))
def laws_eqUint32S.f (k : Nat) (a0 : List Int) (a1 : List Int) : Option Bool := (if (a0.length : Int) = (a1.length : Int) then (laws_eqUint32S.l0 k a0 a1 0) else (some false))
theorem laws_eqUint32S.le (O : Prim) (hO : O = std) (k : Nat) (a0 : List Int) (a1 : List Int) : Le F O M fi43.kills laws_eqUint32S.e (laws_eqUint32S.f k a0 a1) (den O M fi43.kills fi43.fn fi43.body (tab.gives 43) (M 43) [.one (.imm 59 a0), .one (.imm 59 a1)] : Tr tab) := by
  refine Le.eqS 0 (by conv => lhs; cbv) ?_
  unfold laws_eqUint32S.f
  refine Le.condN 0 0 (by subst hO; exact (Bool.not_not _).symm) (by conv => lhs; cbv) (by conv => lhs; cbv) ?_ ?_
  · exact Le.ret2 (by subst hO; rfl)
  · refine Le.loopS (fun (n : Nat) (v : Int) => laws_eqUint32S.l0 n a0 a1 v) (fun (x_1 : Int) => (⟨[], [.one (.imm 59 a0), .one (.imm 59 a1), D_, D_, D_, .one (.lit (.int .i64 x_1)), D_, D_, D_, D_, D_, D_, D_, D_, D_, D_, D_, D_, D_, D_, D_, D_, D_, D_, D_, D_], [[], [], [], [], [], [], [], [], [], [], [], [], [], [], [], [], [], [], [], [], [], [], [], [], [], [], [], []], []⟩ : S tab)) k 0 (by subst hO; rfl) rfl (fun _ => rfl) ?_
    intro n0 hn0 ih0 x_1
    refine Le.eqS 0 (by conv => lhs; cbv) ?_
    show Le F O M _ _ (laws_eqUint32S.l0 (n0 + 1) a0 a1 x_1) _
    rw [laws_eqUint32S.l0]
    refine Le.condP 0 0 (by subst hO; rfl) (by conv => lhs; cbv) (by conv => lhs; cbv) ?_ ?_
    · refine Le.guardP 0 (by subst hO; rfl) (by conv => lhs; cbv) ?_
      refine Le.guardP 0 (by subst hO; rfl) (by conv => lhs; cbv) ?_
      refine Le.guardP 0 (by subst hO; rfl) (by conv => lhs; cbv) ?_
      refine Le.guardP 0 (by subst hO; rfl) (by conv => lhs; cbv) ?_
      refine Le.condN 0 0 (by subst hO; exact (Bool.not_not _).symm) (by conv => lhs; cbv) (by conv => lhs; cbv) ?_ ?_
      · exact Le.ret2 (by subst hO; rfl)
      · exact Le.again (ih0 n0 (by omega) (O.wrap .i64 (O.add x_1 1))) (by subst hO; rfl) rfl
    · exact Le.ret2 (by subst hO; rfl)
/-! ### loop.example/g00100/laws.eqStringS -/
def laws_eqStringS.e (r : Bool) : Res tab := (([], []), .one (.lit (.bool r)))
def laws_eqStringS.l0 : Nat → (List ByteArray) → (List ByteArray) → Int → Option Bool
  | 0, _, _, _ => none
  | k + 1, a0, a1, x_1 => (if x_1 < (a0.length : Int) then (if 0 ≤ x_1 then (if x_1 < (a0.length : Int) then (if 0 ≤ x_1 then (if x_1 < (a1.length : Int) then (if (a0.getD (Int.toNat x_1) (⟨#[]⟩ : ByteArray)) = (a1.getD (Int.toNat x_1) (⟨#[]⟩ : ByteArray)) then (laws_eqStringS.l0 k a0 a1 (IntKind.wrap .i64 (x_1 + 1))) else (some false)) else none) else none) else none) else none) else (some true))
def laws_eqStringS.f (k : Nat) (a0 : List ByteArray) (a1 : List ByteArray) : Option Bool := (if (a0.length : Int) = (a1.length : Int) then (laws_eqStringS.l0 k a0 a1 0) else (some false))
theorem laws_eqStringS.le (O : Prim) (hO : O = std) (k : Nat) (a0 : List ByteArray) (a1 : List ByteArray) : Le F O M fi44.kills laws_eqStringS.e (laws_eqStringS.f k a0 a1) (den O M fi44.kills fi44.fn fi44.body (tab.gives 44) (M 44) [.one (.imm 9 a0), .one (.imm 9 a1)] : Tr tab) := by
  refine Le.eqS 0 (by conv => lhs; cbv) ?_
  unfold laws_eqStringS.f
  refine Le.condN 0 0 (by subst hO; exact (Bool.not_not _).symm) (by conv => lhs; cbv) (by conv => lhs; cbv) ?_ ?_
  · exact Le.ret2 (by subst hO; rfl)
  · refine Le.loopS (fun (n : Nat) (v : Int) => laws_eqStringS.l0 n a0 a1 v) (fun (x_1 : Int) => (⟨[], [.one (.imm 9 a0), .one (.imm 9 a1), D_, D_, D_, .one (.lit (.int .i64 x_1)), D_, D_, D_, D_, D_, D_, D_, D_, D_, D_, D_, D_, D_, D_, D_, D_, D_, D_, D_, D_], [[], [], [], [], [], [], [], [], [], [], [], [], [], [], [], [], [], [], [], [], [], [], [], [], [], [], [], []], []⟩ : S tab)) k 0 (by subst hO; rfl) rfl (fun _ => rfl) ?_
    intro n0 hn0 ih0 x_1
    refine Le.eqS 0 (by conv => lhs; cbv) ?_
    show Le F O M _ _ (laws_eqStringS.l0 (n0 + 1) a0 a1 x_1) _
    rw [laws_eqStringS.l0]
    refine Le.condP 0 0 (by subst hO; rfl) (by conv => lhs; cbv) (by conv => lhs; cbv) ?_ ?_
    · refine Le.guardP 0 (by subst hO; rfl) (by conv => lhs; cbv) ?_
      refine Le.guardP 0 (by subst hO; rfl) (by conv => lhs; cbv) ?_
      refine Le.guardP 0 (by subst hO; rfl) (by conv => lhs; cbv) ?_
      refine Le.guardP 0 (by subst hO; rfl) (by conv => lhs; cbv) ?_
      refine Le.condN 0 0 (by subst hO; exact (seq_dec _ _).trans (Bool.not_not _).symm) (by conv => lhs; cbv) (by conv => lhs; cbv) ?_ ?_
      · exact Le.ret2 (by subst hO; rfl)
      · exact Le.again (ih0 n0 (by omega) (O.wrap .i64 (O.add x_1 1))) (by subst hO; rfl) rfl
    · exact Le.ret2 (by subst hO; rfl)
/-! ### loop.example/g00100/laws.eqSig -/
def laws_eqSig.e (r : Bool) : Res tab := (([], []), .one (.lit (.bool r)))
def laws_eqSig.f (k : Nat) (a0 : GSig) (a1 : GSig) : Option Bool := (if a0.Size = a1.Size then (if a0.Rest = a1.Rest then ((laws_eqUint32S.f k a0.Weak a1.Weak).bind fun r0 => (if r0 = true then ((laws_eqStringS.f k a0.Strong a1.Strong).bind fun r1 => (if r1 = true then (some true) else (some false))) else (some false))) else (some false)) else (some false))
theorem laws_eqSig.le (O : Prim) (hO : O = std) (k : Nat) (a0 : GSig) (a1 : GSig) : Le F O M fi22.kills laws_eqSig.e (laws_eqSig.f k a0 a1) (den O M fi22.kills fi22.fn fi22.body (tab.gives 22) (M 22) [.agg [.lit (.int .i64 a0.Size), .lit (.int .i64 a0.Rest), .imm 59 a0.Weak, .imm 9 a0.Strong], .agg [.lit (.int .i64 a1.Size), .lit (.int .i64 a1.Rest), .imm 59 a1.Weak, .imm 9 a1.Strong]] : Tr tab) := by
  refine Le.eqS 0 (by conv => lhs; cbv) ?_
  unfold laws_eqSig.f
  refine Le.condN 0 0 (by subst hO; exact (Bool.not_not _).symm) (by conv => lhs; cbv) (by conv => lhs; cbv) ?_ ?_
  · exact Le.ret2 (by subst hO; rfl)
  · refine Le.condN 0 0 (by subst hO; exact (Bool.not_not _).symm) (by conv => lhs; cbv) (by conv => lhs; cbv) ?_ ?_
    · exact Le.ret2 (by subst hO; rfl)
    · refine Le.callC 0 (fi := fi43) rfl (laws_eqUint32S.le O hO k a0.Weak a1.Weak) (by subst hO; rfl) (by intro r0; conv => lhs; cbv) ?_
      intro r0
      refine Le.condN 0 0 (by subst hO; exact Bool.decide_eq_true.trans (Bool.not_not _).symm) (by conv => lhs; cbv) (by conv => lhs; cbv) ?_ ?_
      · exact Le.ret2 (by subst hO; rfl)
      · refine Le.callC 0 (fi := fi44) rfl (laws_eqStringS.le O hO k a0.Strong a1.Strong) (by subst hO; rfl) (by intro r1; conv => lhs; cbv) ?_
        intro r1
        refine Le.condN 0 0 (by subst hO; exact Bool.decide_eq_true.trans (Bool.not_not _).symm) (by conv => lhs; cbv) (by conv => lhs; cbv) ?_ ?_
        · exact Le.ret2 (by subst hO; rfl)
        · exact Le.ret2 (by subst hO; rfl)
/-! ### loop.example/g00100/laws.eqToken -/
def laws_eqToken.e (r : Bool) : Res tab := (([], []), .one (.lit (.bool r)))
def laws_eqToken.f (a0 : GToken) (a1 : GToken) : Option Bool := (if a0.Kind = a1.Kind then (if a0.Data = a1.Data then (if a0.From = a1.From then (if a0.Count = a1.Count then (some true) else (some false)) else (some false)) else (some false)) else (some false))
theorem laws_eqToken.le (O : Prim) (hO : O = std) (a0 : GToken) (a1 : GToken) : Le F O M fi45.kills laws_eqToken.e (laws_eqToken.f a0 a1) (den O M fi45.kills fi45.fn fi45.body (tab.gives 45) (M 45) [.agg [.lit (.int .i64 a0.Kind), .lit (.string a0.Data), .lit (.int .i64 a0.From), .lit (.int .i64 a0.Count)], .agg [.lit (.int .i64 a1.Kind), .lit (.string a1.Data), .lit (.int .i64 a1.From), .lit (.int .i64 a1.Count)]] : Tr tab) := by
  refine Le.eqS 0 (by conv => lhs; cbv) ?_
  unfold laws_eqToken.f
  refine Le.condN 0 0 (by subst hO; exact (Bool.not_not _).symm) (by conv => lhs; cbv) (by conv => lhs; cbv) ?_ ?_
  · exact Le.ret2 (by subst hO; rfl)
  · refine Le.condN 0 0 (by subst hO; exact (seq_dec _ _).trans (Bool.not_not _).symm) (by conv => lhs; cbv) (by conv => lhs; cbv) ?_ ?_
    · exact Le.ret2 (by subst hO; rfl)
    · refine Le.condN 0 0 (by subst hO; exact (Bool.not_not _).symm) (by conv => lhs; cbv) (by conv => lhs; cbv) ?_ ?_
      · exact Le.ret2 (by subst hO; rfl)
      · refine Le.condN 0 0 (by subst hO; exact (Bool.not_not _).symm) (by conv => lhs; cbv) (by conv => lhs; cbv) ?_ ?_
        · exact Le.ret2 (by subst hO; rfl)
        · exact Le.ret2 (by subst hO; rfl)
/-! ### loop.example/g00100/laws.eqTokenS -/
def laws_eqTokenS.e (r : Bool) : Res tab := (([], []), .one (.lit (.bool r)))
def laws_eqTokenS.l0 : Nat → (List GToken) → (List GToken) → Int → Option Bool
  | 0, _, _, _ => none
  | k + 1, a0, a1, x_3 => (if x_3 < (a0.length : Int) then (if 0 ≤ x_3 then (if x_3 < (a0.length : Int) then (if 0 ≤ x_3 then (if x_3 < (a1.length : Int) then ((laws_eqToken.f (a0.getD (Int.toNat x_3) (⟨0, (⟨#[]⟩ : ByteArray), 0, 0⟩ : GToken)) (a1.getD (Int.toNat x_3) (⟨0, (⟨#[]⟩ : ByteArray), 0, 0⟩ : GToken))).bind fun r4 => (if r4 = true then (laws_eqTokenS.l0 k a0 a1 (IntKind.wrap .i64 (x_3 + 1))) else (some false))) else none) else none) else none) else none) else (some true))
def laws_eqTokenS.f (k : Nat) (a0 : List GToken) (a1 : List GToken) : Option Bool := (if (a0.length : Int) = (a1.length : Int) then (laws_eqTokenS.l0 k a0 a1 0) else (some false))
theorem laws_eqTokenS.le (O : Prim) (hO : O = std) (k : Nat) (a0 : List GToken) (a1 : List GToken) : Le F O M fi23.kills laws_eqTokenS.e (laws_eqTokenS.f k a0 a1) (den O M fi23.kills fi23.fn fi23.body (tab.gives 23) (M 23) [.one (.imm 64 a0), .one (.imm 64 a1)] : Tr tab) := by
  refine Le.eqS 0 (by conv => lhs; cbv) ?_
  unfold laws_eqTokenS.f
  refine Le.condN 0 0 (by subst hO; exact (Bool.not_not _).symm) (by conv => lhs; cbv) (by conv => lhs; cbv) ?_ ?_
  · exact Le.ret2 (by subst hO; rfl)
  · refine Le.loopS (fun (n : Nat) (v : Int) => laws_eqTokenS.l0 n a0 a1 v) (fun (x_3 : Int) => (⟨[], [.one (.imm 64 a0), .one (.imm 64 a1), D_, D_, D_, .one (.lit (.int .i64 x_3)), D_, D_, D_, D_, D_, D_, D_, D_, D_, D_, D_, D_, D_, D_, D_, D_, D_, D_, D_, D_, D_], [[], [], [], [], [], [], [], [], [], [], [], [], [], [], [], [], [], [], [], [], [], [], [], [], [], [], [], [], []], []⟩ : S tab)) k 0 (by subst hO; rfl) rfl (fun _ => rfl) ?_
    intro n0 hn0 ih0 x_3
    refine Le.eqS 0 (by conv => lhs; cbv) ?_
    show Le F O M _ _ (laws_eqTokenS.l0 (n0 + 1) a0 a1 x_3) _
    rw [laws_eqTokenS.l0]
    refine Le.condP 0 0 (by subst hO; rfl) (by conv => lhs; cbv) (by conv => lhs; cbv) ?_ ?_
    · refine Le.guardP 0 (by subst hO; rfl) (by conv => lhs; cbv) ?_
      refine Le.guardP 0 (by subst hO; rfl) (by conv => lhs; cbv) ?_
      refine Le.guardP 0 (by subst hO; rfl) (by conv => lhs; cbv) ?_
      refine Le.guardP 0 (by subst hO; rfl) (by conv => lhs; cbv) ?_
      refine Le.callC 0 (fi := fi45) rfl (laws_eqToken.le O hO (O.get (⟨0, (⟨#[]⟩ : ByteArray), 0, 0⟩ : GToken) a0 x_3) (O.get (⟨0, (⟨#[]⟩ : ByteArray), 0, 0⟩ : GToken) a1 x_3)) (by subst hO; rfl) (by intro r4; conv => lhs; cbv) ?_
      intro r4
      refine Le.condN 0 0 (by subst hO; exact Bool.decide_eq_true.trans (Bool.not_not _).symm) (by conv => lhs; cbv) (by conv => lhs; cbv) ?_ ?_
      · exact Le.ret2 (by subst hO; rfl)
      · exact Le.again (ih0 n0 (by omega) (O.wrap .i64 (O.add x_3 1))) (by subst hO; rfl) rfl
    · exact Le.ret2 (by subst hO; rfl)
/-! ### loop.example/g00100/laws.eqMsg -/
def laws_eqMsg.e (r : Bool) : Res tab := (([], []), .one (.lit (.bool r)))
def laws_eqMsg.f (k : Nat) (a0 : GMsg) (a1 : GMsg) : Option Bool := (if a0.Kind = a1.Kind then (if a0.Place = a1.Place then ((laws_eqSig.f k a0.Sig a1.Sig).bind fun r0 => (if r0 = true then ((laws_eqTokenS.f k a0.Tokens a1.Tokens).bind fun r1 => (if r1 = true then (if a0.Sum = a1.Sum then (some true) else (some false)) else (some false))) else (some false))) else (some false)) else (some false))
theorem laws_eqMsg.le (O : Prim) (hO : O = std) (k : Nat) (a0 : GMsg) (a1 : GMsg) : Le F O M fi7.kills laws_eqMsg.e (laws_eqMsg.f k a0 a1) (den O M fi7.kills fi7.fn fi7.body (tab.gives 7) (M 7) [.agg [.lit (.int .i64 a0.Kind), .lit (.int .i64 a0.Place), .lit (.int .i64 a0.Sig.Size), .lit (.int .i64 a0.Sig.Rest), .imm 59 a0.Sig.Weak, .imm 9 a0.Sig.Strong, .imm 64 a0.Tokens, .lit (.string a0.Sum)], .agg [.lit (.int .i64 a1.Kind), .lit (.int .i64 a1.Place), .lit (.int .i64 a1.Sig.Size), .lit (.int .i64 a1.Sig.Rest), .imm 59 a1.Sig.Weak, .imm 9 a1.Sig.Strong, .imm 64 a1.Tokens, .lit (.string a1.Sum)]] : Tr tab) := by
  refine Le.eqS 0 (by conv => lhs; cbv) ?_
  unfold laws_eqMsg.f
  refine Le.condN 0 0 (by subst hO; exact (Bool.not_not _).symm) (by conv => lhs; cbv) (by conv => lhs; cbv) ?_ ?_
  · exact Le.ret2 (by subst hO; rfl)
  · refine Le.condN 0 0 (by subst hO; exact (Bool.not_not _).symm) (by conv => lhs; cbv) (by conv => lhs; cbv) ?_ ?_
    · exact Le.ret2 (by subst hO; rfl)
    · refine Le.callC 0 (fi := fi22) rfl (laws_eqSig.le O hO k a0.Sig a1.Sig) (by subst hO; rfl) (by intro r0; conv => lhs; cbv) ?_
      intro r0
      refine Le.condN 0 0 (by subst hO; exact Bool.decide_eq_true.trans (Bool.not_not _).symm) (by conv => lhs; cbv) (by conv => lhs; cbv) ?_ ?_
      · exact Le.ret2 (by subst hO; rfl)
      · refine Le.callC 0 (fi := fi23) rfl (laws_eqTokenS.le O hO k a0.Tokens a1.Tokens) (by subst hO; rfl) (by intro r1; conv => lhs; cbv) ?_
        intro r1
        refine Le.condN 0 0 (by subst hO; exact Bool.decide_eq_true.trans (Bool.not_not _).symm) (by conv => lhs; cbv) (by conv => lhs; cbv) ?_ ?_
        · exact Le.ret2 (by subst hO; rfl)
        · refine Le.condN 0 0 (by subst hO; exact (seq_dec _ _).trans (Bool.not_not _).symm) (by conv => lhs; cbv) (by conv => lhs; cbv) ?_ ?_
          · exact Le.ret2 (by subst hO; rfl)
          · exact Le.ret2 (by subst hO; rfl)
/-! ### loop.example/g00100/laws.eqByteS -/
def laws_eqByteS.e (r : Bool) : Res tab := (([], []), .one (.lit (.bool r)))
def laws_eqByteS.l0 : Nat → (List Int) → (List Int) → Int → Option Bool
  | 0, _, _, _ => none
  | k + 1, a0, a1, x_1 => (if x_1 < (a0.length : Int) then (if 0 ≤ x_1 then (if x_1 < (a0.length : Int) then (if 0 ≤ x_1 then (if x_1 < (a1.length : Int) then (if (a0.getD (Int.toNat x_1) 0) = (a1.getD (Int.toNat x_1) 0) then (laws_eqByteS.l0 k a0 a1 (IntKind.wrap .i64 (x_1 + 1))) else (some false)) else none) else none) else none) else none) else (some true))
def laws_eqByteS.f (k : Nat) (a0 : List Int) (a1 : List Int) : Option Bool := (if (a0.length : Int) = (a1.length : Int) then (laws_eqByteS.l0 k a0 a1 0) else (some false))
theorem laws_eqByteS.le (O : Prim) (hO : O = std) (k : Nat) (a0 : List Int) (a1 : List Int) : Le F O M fi8.kills laws_eqByteS.e (laws_eqByteS.f k a0 a1) (den O M fi8.kills fi8.fn fi8.body (tab.gives 8) (M 8) [.one (.imm 5 a0), .one (.imm 5 a1)] : Tr tab) := by
  refine Le.eqS 0 (by conv => lhs; cbv) ?_
  unfold laws_eqByteS.f
  refine Le.condN 0 0 (by subst hO; exact (Bool.not_not _).symm) (by conv => lhs; cbv) (by conv => lhs; cbv) ?_ ?_
  · exact Le.ret2 (by subst hO; rfl)
  · refine Le.loopS (fun (n : Nat) (v : Int) => laws_eqByteS.l0 n a0 a1 v) (fun (x_1 : Int) => (⟨[], [.one (.imm 5 a0), .one (.imm 5 a1), D_, D_, D_, .one (.lit (.int .i64 x_1)), D_, D_, D_, D_, D_, D_, D_, D_, D_, D_, D_, D_, D_, D_, D_, D_, D_, D_, D_, D_], [[], [], [], [], [], [], [], [], [], [], [], [], [], [], [], [], [], [], [], [], [], [], [], [], [], [], [], []], []⟩ : S tab)) k 0 (by subst hO; rfl) rfl (fun _ => rfl) ?_
    intro n0 hn0 ih0 x_1
    refine Le.eqS 0 (by conv => lhs; cbv) ?_
    show Le F O M _ _ (laws_eqByteS.l0 (n0 + 1) a0 a1 x_1) _
    rw [laws_eqByteS.l0]
    refine Le.condP 0 0 (by subst hO; rfl) (by conv => lhs; cbv) (by conv => lhs; cbv) ?_ ?_
    · refine Le.guardP 0 (by subst hO; rfl) (by conv => lhs; cbv) ?_
      refine Le.guardP 0 (by subst hO; rfl) (by conv => lhs; cbv) ?_
      refine Le.guardP 0 (by subst hO; rfl) (by conv => lhs; cbv) ?_
      refine Le.guardP 0 (by subst hO; rfl) (by conv => lhs; cbv) ?_
      refine Le.condN 0 0 (by subst hO; exact (Bool.not_not _).symm) (by conv => lhs; cbv) (by conv => lhs; cbv) ?_ ?_
      · exact Le.ret2 (by subst hO; rfl)
      · exact Le.again (ih0 n0 (by omega) (O.wrap .i64 (O.add x_1 1))) (by subst hO; rfl) rfl
    · exact Le.ret2 (by subst hO; rfl)
/-! ### loop.example/g00100/laws.markByteS -/
def laws_markByteS.e (r : Int × List Int) : Res tab := (([.own 5 r.2], []), .one (.lit (.int .i64 r.1)))
def laws_markByteS.l0 : Nat → Int → Int → (List Int) → Option (Int × List Int)
  | 0, _, _, _ => none
  | k + 1, x_3, x_4, b_5 => (if x_4 < (b_5.length : Int) then (if 0 ≤ x_4 then (if x_4 < (b_5.length : Int) then (laws_markByteS.l0 k (IntKind.wrap .i64 (x_3 + 1)) (IntKind.wrap .i64 (x_4 + 1)) (b_5.set (Int.toNat x_4) (IntKind.wrap .u8 x_3))) else none) else none) else (some (x_3, b_5)))
def laws_markByteS.f (k : Nat) (a0 : List Int) (a1 : Int) : Option (Int × List Int) := (laws_markByteS.l0 k a1 0 a0)
theorem laws_markByteS.le (O : Prim) (hO : O = std) (k : Nat) (a0 : List Int) (a1 : Int) : Le F O M fi9.kills laws_markByteS.e (laws_markByteS.f k a0 a1) (den O M fi9.kills fi9.fn fi9.body (tab.gives 9) (M 9) [.one (.own 5 a0), .one (.lit (.int .i64 a1))] : Tr tab) := by
  refine Le.eqS 0 (by conv => lhs; cbv) ?_
  unfold laws_markByteS.f
  refine Le.loopS (fun (n : Nat) (v : Int × Int × List Int) => laws_markByteS.l0 n v.1 v.2.1 v.2.2) (fun (v : Int × Int × List Int) => match v with | (x_3, x_4, b_5) => (⟨[], [.one (.at ⟨1, 0, []⟩), .one (.lit (.int .i64 x_3)), D_, D_, D_, .one (.lit (.int .i64 x_4)), D_, D_, D_, D_, D_, D_, D_, D_, D_, D_, D_, D_, D_, D_], [[], [], [], [], [], [], [], [], [], [], [], [], [], [], [], [], [], [], [], [], [], []], [.own 5 b_5]⟩ : S tab)) k (a1, 0, a0) (by subst hO; rfl) rfl (fun _ => rfl) ?_
  intro n0 hn0 ih0 v0
  obtain ⟨x_3, x_4, b_5⟩ := v0
  refine Le.eqS 0 (by conv => lhs; cbv) ?_
  show Le F O M _ _ (laws_markByteS.l0 (n0 + 1) x_3 x_4 b_5) _
  rw [laws_markByteS.l0]
  refine Le.condP 0 0 (by subst hO; rfl) (by conv => lhs; cbv) (by conv => lhs; cbv) ?_ ?_
  · refine Le.guardP 0 (by subst hO; rfl) (by conv => lhs; cbv) ?_
    refine Le.guardP 0 (by subst hO; rfl) (by conv => lhs; cbv) ?_
    exact Le.again (ih0 n0 (by omega) ((O.wrap .i64 (O.add x_3 1)), (O.wrap .i64 (O.add x_4 1)), (O.set b_5 x_4 (O.wrap .u8 x_3)))) (by subst hO; rfl) rfl
  · exact Le.ret2 (by subst hO; rfl)
/-! ### loop.example/g00100/laws.markUint32S -/
def laws_markUint32S.e (r : Int × List Int) : Res tab := (([.own 59 r.2], []), .one (.lit (.int .i64 r.1)))
def laws_markUint32S.l0 : Nat → Int → Int → (List Int) → Option (Int × List Int)
  | 0, _, _, _ => none
  | k + 1, x_3, x_4, b_5 => (if x_4 < (b_5.length : Int) then (if 0 ≤ x_4 then (if x_4 < (b_5.length : Int) then (laws_markUint32S.l0 k (IntKind.wrap .i64 (x_3 + 1)) (IntKind.wrap .i64 (x_4 + 1)) (b_5.set (Int.toNat x_4) (IntKind.wrap .u32 x_3))) else none) else none) else (some (x_3, b_5)))
def laws_markUint32S.f (k : Nat) (a0 : List Int) (a1 : Int) : Option (Int × List Int) := (laws_markUint32S.l0 k a1 0 a0)
theorem laws_markUint32S.le (O : Prim) (hO : O = std) (k : Nat) (a0 : List Int) (a1 : Int) : Le F O M fi46.kills laws_markUint32S.e (laws_markUint32S.f k a0 a1) (den O M fi46.kills fi46.fn fi46.body (tab.gives 46) (M 46) [.one (.own 59 a0), .one (.lit (.int .i64 a1))] : Tr tab) := by
  refine Le.eqS 0 (by conv => lhs; cbv) ?_
  unfold laws_markUint32S.f
  refine Le.loopS (fun (n : Nat) (v : Int × Int × List Int) => laws_markUint32S.l0 n v.1 v.2.1 v.2.2) (fun (v : Int × Int × List Int) => match v with | (x_3, x_4, b_5) => (⟨[], [.one (.at ⟨1, 0, []⟩), .one (.lit (.int .i64 x_3)), D_, D_, D_, .one (.lit (.int .i64 x_4)), D_, D_, D_, D_, D_, D_, D_, D_, D_, D_, D_, D_, D_, D_], [[], [], [], [], [], [], [], [], [], [], [], [], [], [], [], [], [], [], [], [], [], []], [.own 59 b_5]⟩ : S tab)) k (a1, 0, a0) (by subst hO; rfl) rfl (fun _ => rfl) ?_
  intro n0 hn0 ih0 v0
  obtain ⟨x_3, x_4, b_5⟩ := v0
  refine Le.eqS 0 (by conv => lhs; cbv) ?_
  show Le F O M _ _ (laws_markUint32S.l0 (n0 + 1) x_3 x_4 b_5) _
  rw [laws_markUint32S.l0]
  refine Le.condP 0 0 (by subst hO; rfl) (by conv => lhs; cbv) (by conv => lhs; cbv) ?_ ?_
  · refine Le.guardP 0 (by subst hO; rfl) (by conv => lhs; cbv) ?_
    refine Le.guardP 0 (by subst hO; rfl) (by conv => lhs; cbv) ?_
    exact Le.again (ih0 n0 (by omega) ((O.wrap .i64 (O.add x_3 1)), (O.wrap .i64 (O.add x_4 1)), (O.set b_5 x_4 (O.wrap .u32 x_3)))) (by subst hO; rfl) rfl
  · exact Le.ret2 (by subst hO; rfl)
/-! ### loop.example/g00100/laws.markText -/
def laws_markText.e (r : ByteArray) : Res tab := (([], []), .one (.lit (.string r)))
def laws_markText.l0 : Nat → Int → ByteArray → Option ByteArray
  | 0, _, _ => none
  | k + 1, x_2, x_3 => (if 0 < x_2 then (if 10 = 0 then none else (if (((std.strOf [(IntKind.wrap .u8 (IntKind.wrap .i64 (48 + (Int.tmod x_2 10))))]).size : Int) + (x_3.size : Int)) ≤ 140737488351232 then (if 10 = 0 then none else (laws_markText.l0 k (IntKind.wrap .i64 (Int.tdiv x_2 10)) ((std.strOf [(IntKind.wrap .u8 (IntKind.wrap .i64 (48 + (Int.tmod x_2 10))))]) ++ x_3))) else none)) else (if (((⟨#[109]⟩ : ByteArray).size : Int) + (x_3.size : Int)) ≤ 140737488351232 then (some ((⟨#[109]⟩ : ByteArray) ++ x_3)) else none))
def laws_markText.f (k : Nat) (a0 : Int) : Option ByteArray := (if a0 ≤ 0 then (some (⟨#[109, 48]⟩ : ByteArray)) else (laws_markText.l0 k a0 (⟨#[]⟩ : ByteArray)))
theorem laws_markText.le (O : Prim) (hO : O = std) (k : Nat) (a0 : Int) : Le F O M fi48.kills laws_markText.e (laws_markText.f k a0) (den O M fi48.kills fi48.fn fi48.body (tab.gives 48) (M 48) [.one (.lit (.int .i64 a0))] : Tr tab) := by
  refine Le.eqS 0 (by conv => lhs; cbv) ?_
  unfold laws_markText.f
  refine Le.condP 0 0 (by subst hO; rfl) (by conv => lhs; cbv) (by conv => lhs; cbv) ?_ ?_
  · exact Le.ret2 (by subst hO; rfl)
  · refine Le.loopS (fun (n : Nat) (v : Int × ByteArray) => laws_markText.l0 n v.1 v.2) (fun (v : Int × ByteArray) => match v with | (x_2, x_3) => (⟨[], [.one (.lit (.int .i64 x_2)), D_, D_, .one (.lit (.string x_3)), D_, D_, D_, D_, D_, D_, D_, D_, D_, D_, D_, D_, D_, D_, D_, D_], [[], [], [], [], [], [], [], [], [], [], [], [], [], [], [], [], [], [], [], [], []], []⟩ : S tab)) k (a0, (⟨#[]⟩ : ByteArray)) (by subst hO; rfl) rfl (fun _ => rfl) ?_
    intro n0 hn0 ih0 v0
    obtain ⟨x_2, x_3⟩ := v0
    refine Le.eqS 0 (by conv => lhs; cbv) ?_
    show Le F O M _ _ (laws_markText.l0 (n0 + 1) x_2 x_3) _
    rw [laws_markText.l0]
    refine Le.condP 0 0 (by subst hO; rfl) (by conv => lhs; cbv) (by conv => lhs; cbv) ?_ ?_
    · refine Le.guardN 0 (by subst hO; rfl) (by conv => lhs; cbv) ?_
      refine Le.guardP 0 (by subst hO; rfl) (by conv => lhs; cbv) ?_
      refine Le.guardN 0 (by subst hO; rfl) (by conv => lhs; cbv) ?_
      exact Le.again (ih0 n0 (by omega) ((O.wrap .i64 (O.quo x_2 10)), (O.scat (O.strOf [(O.wrap .u8 (O.wrap .i64 (O.add 48 (O.rem x_2 10))))]) x_3))) (by subst hO; rfl) rfl
    · refine Le.guardP 0 (by subst hO; rfl) (by conv => lhs; cbv) ?_
      exact Le.ret2 (by subst hO; rfl)
/-! ### loop.example/g00100/laws.markStringS -/
def laws_markStringS.e (r : Int × List ByteArray) : Res tab := (([.own 9 r.2], []), .one (.lit (.int .i64 r.1)))
def laws_markStringS.l0 : Nat → Int → Int → (List ByteArray) → Option (Int × List ByteArray)
  | 0, _, _, _ => none
  | k + 1, x_5, x_6, b_7 => (if x_6 < (b_7.length : Int) then ((laws_markText.f k x_5).bind fun r8 => (if 0 ≤ x_6 then (if x_6 < (b_7.length : Int) then (laws_markStringS.l0 k (IntKind.wrap .i64 (x_5 + 1)) (IntKind.wrap .i64 (x_6 + 1)) (b_7.set (Int.toNat x_6) r8)) else none) else none)) else (some (x_5, b_7)))
def laws_markStringS.f (k : Nat) (a0 : List ByteArray) (a1 : Int) : Option (Int × List ByteArray) := (laws_markStringS.l0 k a1 0 a0)
theorem laws_markStringS.le (O : Prim) (hO : O = std) (k : Nat) (a0 : List ByteArray) (a1 : Int) : Le F O M fi47.kills laws_markStringS.e (laws_markStringS.f k a0 a1) (den O M fi47.kills fi47.fn fi47.body (tab.gives 47) (M 47) [.one (.own 9 a0), .one (.lit (.int .i64 a1))] : Tr tab) := by
  refine Le.eqS 0 (by conv => lhs; cbv) ?_
  unfold laws_markStringS.f
  refine Le.loopS (fun (n : Nat) (v : Int × Int × List ByteArray) => laws_markStringS.l0 n v.1 v.2.1 v.2.2) (fun (v : Int × Int × List ByteArray) => match v with | (x_5, x_6, b_7) => (⟨[], [.one (.at ⟨1, 0, []⟩), .one (.lit (.int .i64 x_5)), D_, D_, D_, .one (.lit (.int .i64 x_6)), D_, D_, D_, D_, D_, D_, D_, D_, D_, D_, D_, D_, D_, D_], [[], [], [], [], [], [], [], [], [], [], [], [], [], [], [], [], [], [], [], [], [], []], [.own 9 b_7]⟩ : S tab)) k (a1, 0, a0) (by subst hO; rfl) rfl (fun _ => rfl) ?_
  intro n0 hn0 ih0 v0
  obtain ⟨x_5, x_6, b_7⟩ := v0
  refine Le.eqS 0 (by conv => lhs; cbv) ?_
  show Le F O M _ _ (laws_markStringS.l0 (n0 + 1) x_5 x_6 b_7) _
  rw [laws_markStringS.l0]
  refine Le.condP 0 0 (by subst hO; rfl) (by conv => lhs; cbv) (by conv => lhs; cbv) ?_ ?_
  · refine Le.callC 0 (fi := fi48) rfl (laws_markText.le O hO n0 x_5) (by subst hO; rfl) (by intro r8; conv => lhs; cbv) ?_
    intro r8
    refine Le.guardP 0 (by subst hO; rfl) (by conv => lhs; cbv) ?_
    refine Le.guardP 0 (by subst hO; rfl) (by conv => lhs; cbv) ?_
    exact Le.again (ih0 n0 (by omega) ((O.wrap .i64 (O.add x_5 1)), (O.wrap .i64 (O.add x_6 1)), (O.set b_7 x_6 r8))) (by subst hO; rfl) rfl
  · exact Le.ret2 (by subst hO; rfl)
/-! ### loop.example/g00100/laws.markSig -/
def laws_markSig.e (r : Int × GSig) : Res tab := (([.lit (.int .i64 r.2.Size), .lit (.int .i64 r.2.Rest), .own 59 r.2.Weak, .own 9 r.2.Strong], []), .one (.lit (.int .i64 r.1)))
def laws_markSig.f (k : Nat) (a0 : GSig) (a1 : Int) : Option (Int × GSig) := ((laws_markUint32S.f k a0.Weak a1).bind fun r0 => ((laws_markStringS.f k a0.Strong r0.1).bind fun r1 => (some (r1.1, (⟨a0.Size, a0.Rest, r0.2, r1.2⟩ : GSig)))))
theorem laws_markSig.le (O : Prim) (hO : O = std) (k : Nat) (a0 : GSig) (a1 : Int) : Le F O M fi24.kills laws_markSig.e (laws_markSig.f k a0 a1) (den O M fi24.kills fi24.fn fi24.body (tab.gives 24) (M 24) [.agg [.lit (.int .i64 a0.Size), .lit (.int .i64 a0.Rest), .own 59 a0.Weak, .own 9 a0.Strong], .one (.lit (.int .i64 a1))] : Tr tab) := by
  refine Le.eqS 0 (by conv => lhs; cbv) ?_
  unfold laws_markSig.f
  refine Le.callC 0 (fi := fi46) rfl (laws_markUint32S.le O hO k a0.Weak a1) (by subst hO; rfl) (by intro r0; conv => lhs; cbv) ?_
  intro r0
  refine Le.callC 0 (fi := fi47) rfl (laws_markStringS.le O hO k a0.Strong r0.1) (by subst hO; rfl) (by intro r1; conv => lhs; cbv) ?_
  intro r1
  exact Le.ret2 (by subst hO; rfl)
/-! ### loop.example/g00100/laws.markTokenS -/
def laws_markTokenS.e (r : Int × List GToken) : Res tab := (([.own 64 r.2], []), .one (.lit (.int .i64 r.1)))
def laws_markTokenS.l0 : Nat → Int → Int → (List GToken) → Option (Int × List GToken)
  | 0, _, _, _ => none
  | k + 1, x_5, x_6, b_7 => (if x_6 < (b_7.length : Int) then (if 0 ≤ x_6 then (if x_6 < (b_7.length : Int) then ((laws_markText.f k (IntKind.wrap .i64 (x_5 + 1))).bind fun r8 => (if 0 ≤ x_6 then (if x_6 < ((b_7.set (Int.toNat x_6) (⟨x_5, (b_7.getD (Int.toNat x_6) (⟨0, (⟨#[]⟩ : ByteArray), 0, 0⟩ : GToken)).Data, (b_7.getD (Int.toNat x_6) (⟨0, (⟨#[]⟩ : ByteArray), 0, 0⟩ : GToken)).From, (b_7.getD (Int.toNat x_6) (⟨0, (⟨#[]⟩ : ByteArray), 0, 0⟩ : GToken)).Count⟩ : GToken)).length : Int) then (if 0 ≤ x_6 then (if x_6 < (((b_7.set (Int.toNat x_6) (⟨x_5, (b_7.getD (Int.toNat x_6) (⟨0, (⟨#[]⟩ : ByteArray), 0, 0⟩ : GToken)).Data, (b_7.getD (Int.toNat x_6) (⟨0, (⟨#[]⟩ : ByteArray), 0, 0⟩ : GToken)).From, (b_7.getD (Int.toNat x_6) (⟨0, (⟨#[]⟩ : ByteArray), 0, 0⟩ : GToken)).Count⟩ : GToken)).set (Int.toNat x_6) (⟨((b_7.set (Int.toNat x_6) (⟨x_5, (b_7.getD (Int.toNat x_6) (⟨0, (⟨#[]⟩ : ByteArray), 0, 0⟩ : GToken)).Data, (b_7.getD (Int.toNat x_6) (⟨0, (⟨#[]⟩ : ByteArray), 0, 0⟩ : GToken)).From, (b_7.getD (Int.toNat x_6) (⟨0, (⟨#[]⟩ : ByteArray), 0, 0⟩ : GToken)).Count⟩ : GToken)).getD (Int.toNat x_6) (⟨0, (⟨#[]⟩ : ByteArray), 0, 0⟩ : GToken)).Kind, r8, ((b_7.set (Int.toNat x_6) (⟨x_5, (b_7.getD (Int.toNat x_6) (⟨0, (⟨#[]⟩ : ByteArray), 0, 0⟩ : GToken)).Data, (b_7.getD (Int.toNat x_6) (⟨0, (⟨#[]⟩ : ByteArray), 0, 0⟩ : GToken)).From, (b_7.getD (Int.toNat x_6) (⟨0, (⟨#[]⟩ : ByteArray), 0, 0⟩ : GToken)).Count⟩ : GToken)).getD (Int.toNat x_6) (⟨0, (⟨#[]⟩ : ByteArray), 0, 0⟩ : GToken)).From, ((b_7.set (Int.toNat x_6) (⟨x_5, (b_7.getD (Int.toNat x_6) (⟨0, (⟨#[]⟩ : ByteArray), 0, 0⟩ : GToken)).Data, (b_7.getD (Int.toNat x_6) (⟨0, (⟨#[]⟩ : ByteArray), 0, 0⟩ : GToken)).From, (b_7.getD (Int.toNat x_6) (⟨0, (⟨#[]⟩ : ByteArray), 0, 0⟩ : GToken)).Count⟩ : GToken)).getD (Int.toNat x_6) (⟨0, (⟨#[]⟩ : ByteArray), 0, 0⟩ : GToken)).Count⟩ : GToken)).length : Int) then (if 0 ≤ x_6 then (if x_6 < ((((b_7.set (Int.toNat x_6) (⟨x_5, (b_7.getD (Int.toNat x_6) (⟨0, (⟨#[]⟩ : ByteArray), 0, 0⟩ : GToken)).Data, (b_7.getD (Int.toNat x_6) (⟨0, (⟨#[]⟩ : ByteArray), 0, 0⟩ : GToken)).From, (b_7.getD (Int.toNat x_6) (⟨0, (⟨#[]⟩ : ByteArray), 0, 0⟩ : GToken)).Count⟩ : GToken)).set (Int.toNat x_6) (⟨((b_7.set (Int.toNat x_6) (⟨x_5, (b_7.getD (Int.toNat x_6) (⟨0, (⟨#[]⟩ : ByteArray), 0, 0⟩ : GToken)).Data, (b_7.getD (Int.toNat x_6) (⟨0, (⟨#[]⟩ : ByteArray), 0, 0⟩ : GToken)).From, (b_7.getD (Int.toNat x_6) (⟨0, (⟨#[]⟩ : ByteArray), 0, 0⟩ : GToken)).Count⟩ : GToken)).getD (Int.toNat x_6) (⟨0, (⟨#[]⟩ : ByteArray), 0, 0⟩ : GToken)).Kind, r8, ((b_7.set (Int.toNat x_6) (⟨x_5, (b_7.getD (Int.toNat x_6) (⟨0, (⟨#[]⟩ : ByteArray), 0, 0⟩ : GToken)).Data, (b_7.getD (Int.toNat x_6) (⟨0, (⟨#[]⟩ : ByteArray), 0, 0⟩ : GToken)).From, (b_7.getD (Int.toNat x_6) (⟨0, (⟨#[]⟩ : ByteArray), 0, 0⟩ : GToken)).Count⟩ : GToken)).getD (Int.toNat x_6) (⟨0, (⟨#[]⟩ : ByteArray), 0, 0⟩ : GToken)).From, ((b_7.set (Int.toNat x_6) (⟨x_5, (b_7.getD (Int.toNat x_6) (⟨0, (⟨#[]⟩ : ByteArray), 0, 0⟩ : GToken)).Data, (b_7.getD (Int.toNat x_6) (⟨0, (⟨#[]⟩ : ByteArray), 0, 0⟩ : GToken)).From, (b_7.getD (Int.toNat x_6) (⟨0, (⟨#[]⟩ : ByteArray), 0, 0⟩ : GToken)).Count⟩ : GToken)).getD (Int.toNat x_6) (⟨0, (⟨#[]⟩ : ByteArray), 0, 0⟩ : GToken)).Count⟩ : GToken)).set (Int.toNat x_6) (⟨(((b_7.set (Int.toNat x_6) (⟨x_5, (b_7.getD (Int.toNat x_6) (⟨0, (⟨#[]⟩ : ByteArray), 0, 0⟩ : GToken)).Data, (b_7.getD (Int.toNat x_6) (⟨0, (⟨#[]⟩ : ByteArray), 0, 0⟩ : GToken)).From, (b_7.getD (Int.toNat x_6) (⟨0, (⟨#[]⟩ : ByteArray), 0, 0⟩ : GToken)).Count⟩ : GToken)).set (Int.toNat x_6) (⟨((b_7.set (Int.toNat x_6) (⟨x_5, (b_7.getD (Int.toNat x_6) (⟨0, (⟨#[]⟩ : ByteArray), 0, 0⟩ : GToken)).Data, (b_7.getD (Int.toNat x_6) (⟨0, (⟨#[]⟩ : ByteArray), 0, 0⟩ : GToken)).From, (b_7.getD (Int.toNat x_6) (⟨0, (⟨#[]⟩ : ByteArray), 0, 0⟩ : GToken)).Count⟩ : GToken)).getD (Int.toNat x_6) (⟨0, (⟨#[]⟩ : ByteArray), 0, 0⟩ : GToken)).Kind, r8, ((b_7.set (Int.toNat x_6) (⟨x_5, (b_7.getD (Int.toNat x_6) (⟨0, (⟨#[]⟩ : ByteArray), 0, 0⟩ : GToken)).Data, (b_7.getD (Int.toNat x_6) (⟨0, (⟨#[]⟩ : ByteArray), 0, 0⟩ : GToken)).From, (b_7.getD (Int.toNat x_6) (⟨0, (⟨#[]⟩ : ByteArray), 0, 0⟩ : GToken)).Count⟩ : GToken)).getD (Int.toNat x_6) (⟨0, (⟨#[]⟩ : ByteArray), 0, 0⟩ : GToken)).From, ((b_7.set (Int.toNat x_6) (⟨x_5, (b_7.getD (Int.toNat x_6) (⟨0, (⟨#[]⟩ : ByteArray), 0, 0⟩ : GToken)).Data, (b_7.getD (Int.toNat x_6) (⟨0, (⟨#[]⟩ : ByteArray), 0, 0⟩ : GToken)).From, (b_7.getD (Int.toNat x_6) (⟨0, (⟨#[]⟩ : ByteArray), 0, 0⟩ : GToken)).Count⟩ : GToken)).getD (Int.toNat x_6) (⟨0, (⟨#[]⟩ : ByteArray), 0, 0⟩ : GToken)).Count⟩ : GToken)).getD (Int.toNat x_6) (⟨0, (⟨#[]⟩ : ByteArray), 0, 0⟩ : GToken)).Kind, (((b_7.set (Int.toNat x_6) (⟨x_5, (b_7.getD (Int.toNat x_6) (⟨0, (⟨#[]⟩ : ByteArray), 0, 0⟩ : GToken)).Data, (b_7.getD (Int.toNat x_6) (⟨0, (⟨#[]⟩ : ByteArray), 0, 0⟩ : GToken)).From, (b_7.getD (Int.toNat x_6) (⟨0, (⟨#[]⟩ : ByteArray), 0, 0⟩ : GToken)).Count⟩ : GToken)).set (Int.toNat x_6) (⟨((b_7.set (Int.toNat x_6) (⟨x_5, (b_7.getD (Int.toNat x_6) (⟨0, (⟨#[]⟩ : ByteArray), 0, 0⟩ : GToken)).Data, (b_7.getD (Int.toNat x_6) (⟨0, (⟨#[]⟩ : ByteArray), 0, 0⟩ : GToken)).From, (b_7.getD (Int.toNat x_6) (⟨0, (⟨#[]⟩ : ByteArray), 0, 0⟩ : GToken)).Count⟩ : GToken)).getD (Int.toNat x_6) (⟨0, (⟨#[]⟩ : ByteArray), 0, 0⟩ : GToken)).Kind, r8, ((b_7.set (Int.toNat x_6) (⟨x_5, (b_7.getD (Int.toNat x_6) (⟨0, (⟨#[]⟩ : ByteArray), 0, 0⟩ : GToken)).Data, (b_7.getD (Int.toNat x_6) (⟨0, (⟨#[]⟩ : ByteArray), 0, 0⟩ : GToken)).From, (b_7.getD (Int.toNat x_6) (⟨0, (⟨#[]⟩ : ByteArray), 0, 0⟩ : GToken)).Count⟩ : GToken)).getD (Int.toNat x_6) (⟨0, (⟨#[]⟩ : ByteArray), 0, 0⟩ : GToken)).From, ((b_7.set (Int.toNat x_6) (⟨x_5, (b_7.getD (Int.toNat x_6) (⟨0, (⟨#[]⟩ : ByteArray), 0, 0⟩ : GToken)).Data, (b_7.getD (Int.toNat x_6) (⟨0, (⟨#[]⟩ : ByteArray), 0, 0⟩ : GToken)).From, (b_7.getD (Int.toNat x_6) (⟨0, (⟨#[]⟩ : ByteArray), 0, 0⟩ : GToken)).Count⟩ : GToken)).getD (Int.toNat x_6) (⟨0, (⟨#[]⟩ : ByteArray), 0, 0⟩ : GToken)).Count⟩ : GToken)).getD (Int.toNat x_6) (⟨0, (⟨#[]⟩ : ByteArray), 0, 0⟩ : GToken)).Data, (IntKind.wrap .i64 ((IntKind.wrap .i64 (x_5 + 1)) + 1)), (((b_7.set (Int.toNat x_6) (⟨x_5, (b_7.getD (Int.toNat x_6) (⟨0, (⟨#[]⟩ : ByteArray), 0, 0⟩ : GToken)).Data, (b_7.getD (Int.toNat x_6) (⟨0, (⟨#[]⟩ : ByteArray), 0, 0⟩ : GToken)).From, (b_7.getD (Int.toNat x_6) (⟨0, (⟨#[]⟩ : ByteArray), 0, 0⟩ : GToken)).Count⟩ : GToken)).set (Int.toNat x_6) (⟨((b_7.set (Int.toNat x_6) (⟨x_5, (b_7.getD (Int.toNat x_6) (⟨0, (⟨#[]⟩ : ByteArray), 0, 0⟩ : GToken)).Data, (b_7.getD (Int.toNat x_6) (⟨0, (⟨#[]⟩ : ByteArray), 0, 0⟩ : GToken)).From, (b_7.getD (Int.toNat x_6) (⟨0, (⟨#[]⟩ : ByteArray), 0, 0⟩ : GToken)).Count⟩ : GToken)).getD (Int.toNat x_6) (⟨0, (⟨#[]⟩ : ByteArray), 0, 0⟩ : GToken)).Kind, r8, ((b_7.set (Int.toNat x_6) (⟨x_5, (b_7.getD (Int.toNat x_6) (⟨0, (⟨#[]⟩ : ByteArray), 0, 0⟩ : GToken)).Data, (b_7.getD (Int.toNat x_6) (⟨0, (⟨#[]⟩ : ByteArray), 0, 0⟩ : GToken)).From, (b_7.getD (Int.toNat x_6) (⟨0, (⟨#[]⟩ : ByteArray), 0, 0⟩ : GToken)).Count⟩ : GToken)).getD (Int.toNat x_6) (⟨0, (⟨#[]⟩ : ByteArray), 0, 0⟩ : GToken)).From, ((b_7.set (Int.toNat x_6) (⟨x_5, (b_7.getD (Int.toNat x_6) (⟨0, (⟨#[]⟩ : ByteArray), 0, 0⟩ : GToken)).Data, (b_7.getD (Int.toNat x_6) (⟨0, (⟨#[]⟩ : ByteArray), 0, 0⟩ : GToken)).From, (b_7.getD (Int.toNat x_6) (⟨0, (⟨#[]⟩ : ByteArray), 0, 0⟩ : GToken)).Count⟩ : GToken)).getD (Int.toNat x_6) (⟨0, (⟨#[]⟩ : ByteArray), 0, 0⟩ : GToken)).Count⟩ : GToken)).getD (Int.toNat x_6) (⟨0, (⟨#[]⟩ : ByteArray), 0, 0⟩ : GToken)).Count⟩ : GToken)).length : Int) then (laws_markTokenS.l0 k (IntKind.wrap .i64 ((IntKind.wrap .i64 ((IntKind.wrap .i64 ((IntKind.wrap .i64 (x_5 + 1)) + 1)) + 1)) + 1)) (IntKind.wrap .i64 (x_6 + 1)) ((((b_7.set (Int.toNat x_6) (⟨x_5, (b_7.getD (Int.toNat x_6) (⟨0, (⟨#[]⟩ : ByteArray), 0, 0⟩ : GToken)).Data, (b_7.getD (Int.toNat x_6) (⟨0, (⟨#[]⟩ : ByteArray), 0, 0⟩ : GToken)).From, (b_7.getD (Int.toNat x_6) (⟨0, (⟨#[]⟩ : ByteArray), 0, 0⟩ : GToken)).Count⟩ : GToken)).set (Int.toNat x_6) (⟨((b_7.set (Int.toNat x_6) (⟨x_5, (b_7.getD (Int.toNat x_6) (⟨0, (⟨#[]⟩ : ByteArray), 0, 0⟩ : GToken)).Data, (b_7.getD (Int.toNat x_6) (⟨0, (⟨#[]⟩ : ByteArray), 0, 0⟩ : GToken)).From, (b_7.getD (Int.toNat x_6) (⟨0, (⟨#[]⟩ : ByteArray), 0, 0⟩ : GToken)).Count⟩ : GToken)).getD (Int.toNat x_6) (⟨0, (⟨#[]⟩ : ByteArray), 0, 0⟩ : GToken)).Kind, r8, ((b_7.set (Int.toNat x_6) (⟨x_5, (b_7.getD (Int.toNat x_6) (⟨0, (⟨#[]⟩ : ByteArray), 0, 0⟩ : GToken)).Data, (b_7.getD (Int.toNat x_6) (⟨0, (⟨#[]⟩ : ByteArray), 0, 0⟩ : GToken)).From, (b_7.getD (Int.toNat x_6) (⟨0, (⟨#[]⟩ : ByteArray), 0, 0⟩ : GToken)).Count⟩ : GToken)).getD (Int.toNat x_6) (⟨0, (⟨#[]⟩ : ByteArray), 0, 0⟩ : GToken)).From, ((b_7.set (Int.toNat x_6) (⟨x_5, (b_7.getD (Int.toNat x_6) (⟨0, (⟨#[]⟩ : ByteArray), 0, 0⟩ : GToken)).Data, (b_7.getD (Int.toNat x_6) (⟨0, (⟨#[]⟩ : ByteArray), 0, 0⟩ : GToken)).From, (b_7.getD (Int.toNat x_6) (⟨0, (⟨#[]⟩ : ByteArray), 0, 0⟩ : GToken)).Count⟩ : GToken)).getD (Int.toNat x_6) (⟨0, (⟨#[]⟩ : ByteArray), 0, 0⟩ : GToken)).Count⟩ : GToken)).set (Int.toNat x_6) (⟨(((b_7.set (Int.toNat x_6) (⟨x_5, (b_7.getD (Int.toNat x_6) (⟨0, (⟨#[]⟩ : ByteArray), 0, 0⟩ : GToken)).Data, (b_7.getD (Int.toNat x_6) (⟨0, (⟨#[]⟩ : ByteArray), 0, 0⟩ : GToken)).From, (b_7.getD (Int.toNat x_6) (⟨0, (⟨#[]⟩ : ByteArray), 0, 0⟩ : GToken)).Count⟩ : GToken)).set (Int.toNat x_6) (⟨((b_7.set (Int.toNat x_6) (⟨x_5, (b_7.getD (Int.toNat x_6) (⟨0, (⟨#[]⟩ : ByteArray), 0, 0⟩ : GToken)).Data, (b_7.getD (Int.toNat x_6) (⟨0, (⟨#[]⟩ : ByteArray), 0, 0⟩ : GToken)).From, (b_7.getD (Int.toNat x_6) (⟨0, (⟨#[]⟩ : ByteArray), 0, 0⟩ : GToken)).Count⟩ : GToken)).getD (Int.toNat x_6) (⟨0, (⟨#[]⟩ : ByteArray), 0, 0⟩ : GToken)).Kind, r8, ((b_7.set (Int.toNat x_6) (⟨x_5, (b_7.getD (Int.toNat x_6) (⟨0, (⟨#[]⟩ : ByteArray), 0, 0⟩ : GToken)).Data, (b_7.getD (Int.toNat x_6) (⟨0, (⟨#[]⟩ : ByteArray), 0, 0⟩ : GToken)).From, (b_7.getD (Int.toNat x_6) (⟨0, (⟨#[]⟩ : ByteArray), 0, 0⟩ : GToken)).Count⟩ : GToken)).getD (Int.toNat x_6) (⟨0, (⟨#[]⟩ : ByteArray), 0, 0⟩ : GToken)).From, ((b_7.set (Int.toNat x_6) (⟨x_5, (b_7.getD (Int.toNat x_6) (⟨0, (⟨#[]⟩ : ByteArray), 0, 0⟩ : GToken)).Data, (b_7.getD (Int.toNat x_6) (⟨0, (⟨#[]⟩ : ByteArray), 0, 0⟩ : GToken)).From, (b_7.getD (Int.toNat x_6) (⟨0, (⟨#[]⟩ : ByteArray), 0, 0⟩ : GToken)).Count⟩ : GToken)).getD (Int.toNat x_6) (⟨0, (⟨#[]⟩ : ByteArray), 0, 0⟩ : GToken)).Count⟩ : GToken)).getD (Int.toNat x_6) (⟨0, (⟨#[]⟩ : ByteArray), 0, 0⟩ : GToken)).Kind, (((b_7.set (Int.toNat x_6) (⟨x_5, (b_7.getD (Int.toNat x_6) (⟨0, (⟨#[]⟩ : ByteArray), 0, 0⟩ : GToken)).Data, (b_7.getD (Int.toNat x_6) (⟨0, (⟨#[]⟩ : ByteArray), 0, 0⟩ : GToken)).From, (b_7.getD (Int.toNat x_6) (⟨0, (⟨#[]⟩ : ByteArray), 0, 0⟩ : GToken)).Count⟩ : GToken)).set (Int.toNat x_6) (⟨((b_7.set (Int.toNat x_6) (⟨x_5, (b_7.getD (Int.toNat x_6) (⟨0, (⟨#[]⟩ : ByteArray), 0, 0⟩ : GToken)).Data, (b_7.getD (Int.toNat x_6) (⟨0, (⟨#[]⟩ : ByteArray), 0, 0⟩ : GToken)).From, (b_7.getD (Int.toNat x_6) (⟨0, (⟨#[]⟩ : ByteArray), 0, 0⟩ : GToken)).Count⟩ : GToken)).getD (Int.toNat x_6) (⟨0, (⟨#[]⟩ : ByteArray), 0, 0⟩ : GToken)).Kind, r8, ((b_7.set (Int.toNat x_6) (⟨x_5, (b_7.getD (Int.toNat x_6) (⟨0, (⟨#[]⟩ : ByteArray), 0, 0⟩ : GToken)).Data, (b_7.getD (Int.toNat x_6) (⟨0, (⟨#[]⟩ : ByteArray), 0, 0⟩ : GToken)).From, (b_7.getD (Int.toNat x_6) (⟨0, (⟨#[]⟩ : ByteArray), 0, 0⟩ : GToken)).Count⟩ : GToken)).getD (Int.toNat x_6) (⟨0, (⟨#[]⟩ : ByteArray), 0, 0⟩ : GToken)).From, ((b_7.set (Int.toNat x_6) (⟨x_5, (b_7.getD (Int.toNat x_6) (⟨0, (⟨#[]⟩ : ByteArray), 0, 0⟩ : GToken)).Data, (b_7.getD (Int.toNat x_6) (⟨0, (⟨#[]⟩ : ByteArray), 0, 0⟩ : GToken)).From, (b_7.getD (Int.toNat x_6) (⟨0, (⟨#[]⟩ : ByteArray), 0, 0⟩ : GToken)).Count⟩ : GToken)).getD (Int.toNat x_6) (⟨0, (⟨#[]⟩ : ByteArray), 0, 0⟩ : GToken)).Count⟩ : GToken)).getD (Int.toNat x_6) (⟨0, (⟨#[]⟩ : ByteArray), 0, 0⟩ : GToken)).Data, (IntKind.wrap .i64 ((IntKind.wrap .i64 (x_5 + 1)) + 1)), (((b_7.set (Int.toNat x_6) (⟨x_5, (b_7.getD (Int.toNat x_6) (⟨0, (⟨#[]⟩ : ByteArray), 0, 0⟩ : GToken)).Data, (b_7.getD (Int.toNat x_6) (⟨0, (⟨#[]⟩ : ByteArray), 0, 0⟩ : GToken)).From, (b_7.getD (Int.toNat x_6) (⟨0, (⟨#[]⟩ : ByteArray), 0, 0⟩ : GToken)).Count⟩ : GToken)).set (Int.toNat x_6) (⟨((b_7.set (Int.toNat x_6) (⟨x_5, (b_7.getD (Int.toNat x_6) (⟨0, (⟨#[]⟩ : ByteArray), 0, 0⟩ : GToken)).Data, (b_7.getD (Int.toNat x_6) (⟨0, (⟨#[]⟩ : ByteArray), 0, 0⟩ : GToken)).From, (b_7.getD (Int.toNat x_6) (⟨0, (⟨#[]⟩ : ByteArray), 0, 0⟩ : GToken)).Count⟩ : GToken)).getD (Int.toNat x_6) (⟨0, (⟨#[]⟩ : ByteArray), 0, 0⟩ : GToken)).Kind, r8, ((b_7.set (Int.toNat x_6) (⟨x_5, (b_7.getD (Int.toNat x_6) (⟨0, (⟨#[]⟩ : ByteArray), 0, 0⟩ : GToken)).Data, (b_7.getD (Int.toNat x_6) (⟨0, (⟨#[]⟩ : ByteArray), 0, 0⟩ : GToken)).From, (b_7.getD (Int.toNat x_6) (⟨0, (⟨#[]⟩ : ByteArray), 0, 0⟩ : GToken)).Count⟩ : GToken)).getD (Int.toNat x_6) (⟨0, (⟨#[]⟩ : ByteArray), 0, 0⟩ : GToken)).From, ((b_7.set (Int.toNat x_6) (⟨x_5, (b_7.getD (Int.toNat x_6) (⟨0, (⟨#[]⟩ : ByteArray), 0, 0⟩ : GToken)).Data, (b_7.getD (Int.toNat x_6) (⟨0, (⟨#[]⟩ : ByteArray), 0, 0⟩ : GToken)).From, (b_7.getD (Int.toNat x_6) (⟨0, (⟨#[]⟩ : ByteArray), 0, 0⟩ : GToken)).Count⟩ : GToken)).getD (Int.toNat x_6) (⟨0, (⟨#[]⟩ : ByteArray), 0, 0⟩ : GToken)).Count⟩ : GToken)).getD (Int.toNat x_6) (⟨0, (⟨#[]⟩ : ByteArray), 0, 0⟩ : GToken)).Count⟩ : GToken)).set (Int.toNat x_6) (⟨((((b_7.set (Int.toNat x_6) (⟨x_5, (b_7.getD (Int.toNat x_6) (⟨0, (⟨#[]⟩ : ByteArray), 0, 0⟩ : GToken)).Data, (b_7.getD (Int.toNat x_6) (⟨0, (⟨#[]⟩ : ByteArray), 0, 0⟩ : GToken)).From, (b_7.getD (Int.toNat x_6) (⟨0, (⟨#[]⟩ : ByteArray), 0, 0⟩ : GToken)).Count⟩ : GToken)).set (Int.toNat x_6) (⟨((b_7.set (Int.toNat x_6) (⟨x_5, (b_7.getD (Int.toNat x_6) (⟨0, (⟨#[]⟩ : ByteArray), 0, 0⟩ : GToken)).Data, (b_7.getD (Int.toNat x_6) (⟨0, (⟨#[]⟩ : ByteArray), 0, 0⟩ : GToken)).From, (b_7.getD (Int.toNat x_6) (⟨0, (⟨#[]⟩ : ByteArray), 0, 0⟩ : GToken)).Count⟩ : GToken)).getD (Int.toNat x_6) (⟨0, (⟨#[]⟩ : ByteArray), 0, 0⟩ : GToken)).Kind, r8, ((b_7.set (Int.toNat x_6) (⟨x_5, (b_7.getD (Int.toNat x_6) (⟨0, (⟨#[]⟩ : ByteArray), 0, 0⟩ : GToken)).Data, (b_7.getD (Int.toNat x_6) (⟨0, (⟨#[]⟩ : ByteArray), 0, 0⟩ : GToken)).From, (b_7.getD (Int.toNat x_6) (⟨0, (⟨#[]⟩ : ByteArray), 0, 0⟩ : GToken)).Count⟩ : GToken)).getD (Int.toNat x_6) (⟨0, (⟨#[]⟩ : ByteArray), 0, 0⟩ : GToken)).From, ((b_7.set (Int.toNat x_6) (⟨x_5, (b_7.getD (Int.toNat x_6) (⟨0, (⟨#[]⟩ : ByteArray), 0, 0⟩ : GToken)).Data, (b_7.getD (Int.toNat x_6) (⟨0, (⟨#[]⟩ : ByteArray), 0, 0⟩ : GToken)).From, (b_7.getD (Int.toNat x_6) (⟨0, (⟨#[]⟩ : ByteArray), 0, 0⟩ : GToken)).Count⟩ : GToken)).getD (Int.toNat x_6) (⟨0, (⟨#[]⟩ : ByteArray), 0, 0⟩ : GToken)).Count⟩ : GToken)).set (Int.toNat x_6) (⟨(((b_7.set (Int.toNat x_6) (⟨x_5, (b_7.getD (Int.toNat x_6) (⟨0, (⟨#[]⟩ : ByteArray), 0, 0⟩ : GToken)).Data, (b_7.getD (Int.toNat x_6) (⟨0, (⟨#[]⟩ : ByteArray), 0, 0⟩ : GToken)).From, (b_7.getD (Int.toNat x_6) (⟨0, (⟨#[]⟩ : ByteArray), 0, 0⟩ : GToken)).Count⟩ : GToken)).set (Int.toNat x_6) (⟨((b_7.set (Int.toNat x_6) (⟨x_5, (b_7.getD (Int.toNat x_6) (⟨0, (⟨#[]⟩ : ByteArray), 0, 0⟩ : GToken)).Data, (b_7.getD (Int.toNat x_6) (⟨0, (⟨#[]⟩ : ByteArray), 0, 0⟩ : GToken)).From, (b_7.getD (Int.toNat x_6) (⟨0, (⟨#[]⟩ : ByteArray), 0, 0⟩ : GToken)).Count⟩ : GToken)).getD (Int.toNat x_6) (⟨0, (⟨#[]⟩ : ByteArray), 0, 0⟩ : GToken)).Kind, r8, ((b_7.set (Int.toNat x_6) (⟨x_5, (b_7.getD (Int.toNat x_6) (⟨0, (⟨#[]⟩ : ByteArray), 0, 0⟩ : GToken)).Data, (b_7.getD (Int.toNat x_6) (⟨0, (⟨#[]⟩ : ByteArray), 0, 0⟩ : GToken)).From, (b_7.getD (Int.toNat x_6) (⟨0, (⟨#[]⟩ : ByteArray), 0, 0⟩ : GToken)).Count⟩ : GToken)).getD (Int.toNat x_6) (⟨0, (⟨#[]⟩ : ByteArray), 0, 0⟩ : GToken)).From, ((b_7.set (Int.toNat x_6) (⟨x_5, (b_7.getD (Int.toNat x_6) (⟨0, (⟨#[]⟩ : ByteArray), 0, 0⟩ : GToken)).Data, (b_7.getD (Int.toNat x_6) (⟨0, (⟨#[]⟩ : ByteArray), 0, 0⟩ : GToken)).From, (b_7.getD (Int.toNat x_6) (⟨0, (⟨#[]⟩ : ByteArray), 0, 0⟩ : GToken)).Count⟩ : GToken)).getD (Int.toNat x_6) (⟨0, (⟨#[]⟩ : ByteArray), 0, 0⟩ : GToken)).Count⟩ : GToken)).getD (Int.toNat x_6) (⟨0, (⟨#[]⟩ : ByteArray), 0, 0⟩ : GToken)).Kind, (((b_7.set (Int.toNat x_6) (⟨x_5, (b_7.getD (Int.toNat x_6) (⟨0, (⟨#[]⟩ : ByteArray), 0, 0⟩ : GToken)).Data, (b_7.getD (Int.toNat x_6) (⟨0, (⟨#[]⟩ : ByteArray), 0, 0⟩ : GToken)).From, (b_7.getD (Int.toNat x_6) (⟨0, (⟨#[]⟩ : ByteArray), 0, 0⟩ : GToken)).Count⟩ : GToken)).set (Int.toNat x_6) (⟨((b_7.set (Int.toNat x_6) (⟨x_5, (b_7.getD (Int.toNat x_6) (⟨0, (⟨#[]⟩ : ByteArray), 0, 0⟩ : GToken)).Data, (b_7.getD (Int.toNat x_6) (⟨0, (⟨#[]⟩ : ByteArray), 0, 0⟩ : GToken)).From, (b_7.getD (Int.toNat x_6) (⟨0, (⟨#[]⟩ : ByteArray), 0, 0⟩ : GToken)).Count⟩ : GToken)).getD (Int.toNat x_6) (⟨0, (⟨#[]⟩ : ByteArray), 0, 0⟩ : GToken)).Kind, r8, ((b_7.set (Int.toNat x_6) (⟨x_5, (b_7.getD (Int.toNat x_6) (⟨0, (⟨#[]⟩ : ByteArray), 0, 0⟩ : GToken)).Data, (b_7.getD (Int.toNat x_6) (⟨0, (⟨#[]⟩ : ByteArray), 0, 0⟩ : GToken)).From, (b_7.getD (Int.toNat x_6) (⟨0, (⟨#[]⟩ : ByteArray), 0, 0⟩ : GToken)).Count⟩ : GToken)).getD (Int.toNat x_6) (⟨0, (⟨#[]⟩ : ByteArray), 0, 0⟩ : GToken)).From, ((b_7.set (Int.toNat x_6) (⟨x_5, (b_7.getD (Int.toNat x_6) (⟨0, (⟨#[]⟩ : ByteArray), 0, 0⟩ : GToken)).Data, (b_7.getD (Int.toNat x_6) (⟨0, (⟨#[]⟩ : ByteArray), 0, 0⟩ : GToken)).From, (b_7.getD (Int.toNat x_6) (⟨0, (⟨#[]⟩ : ByteArray), 0, 0⟩ : GToken)).Count⟩ : GToken)).getD (Int.toNat x_6) (⟨0, (⟨#[]⟩ : ByteArray), 0, 0⟩ : GToken)).Count⟩ : GToken)).getD (Int.toNat x_6) (⟨0, (⟨#[]⟩ : ByteArray), 0, 0⟩ : GToken)).Data, (IntKind.wrap .i64 ((IntKind.wrap .i64 (x_5 + 1)) + 1)), (((b_7.set (Int.toNat x_6) (⟨x_5, (b_7.getD (Int.toNat x_6) (⟨0, (⟨#[]⟩ : ByteArray), 0, 0⟩ : GToken)).Data, (b_7.getD (Int.toNat x_6) (⟨0, (⟨#[]⟩ : ByteArray), 0, 0⟩ : GToken)).From, (b_7.getD (Int.toNat x_6) (⟨0, (⟨#[]⟩ : ByteArray), 0, 0⟩ : GToken)).Count⟩ : GToken)).set (Int.toNat x_6) (⟨((b_7.set (Int.toNat x_6) (⟨x_5, (b_7.getD (Int.toNat x_6) (⟨0, (⟨#[]⟩ : ByteArray), 0, 0⟩ : GToken)).Data, (b_7.getD (Int.toNat x_6) (⟨0, (⟨#[]⟩ : ByteArray), 0, 0⟩ : GToken)).From, (b_7.getD (Int.toNat x_6) (⟨0, (⟨#[]⟩ : ByteArray), 0, 0⟩ : GToken)).Count⟩ : GToken)).getD (Int.toNat x_6) (⟨0, (⟨#[]⟩ : ByteArray), 0, 0⟩ : GToken)).Kind, r8, ((b_7.set (Int.toNat x_6) (⟨x_5, (b_7.getD (Int.toNat x_6) (⟨0, (⟨#[]⟩ : ByteArray), 0, 0⟩ : GToken)).Data, (b_7.getD (Int.toNat x_6) (⟨0, (⟨#[]⟩ : ByteArray), 0, 0⟩ : GToken)).From, (b_7.getD (Int.toNat x_6) (⟨0, (⟨#[]⟩ : ByteArray), 0, 0⟩ : GToken)).Count⟩ : GToken)).getD (Int.toNat x_6) (⟨0, (⟨#[]⟩ : ByteArray), 0, 0⟩ : GToken)).From, ((b_7.set (Int.toNat x_6) (⟨x_5, (b_7.getD (Int.toNat x_6) (⟨0, (⟨#[]⟩ : ByteArray), 0, 0⟩ : GToken)).Data, (b_7.getD (Int.toNat x_6) (⟨0, (⟨#[]⟩ : ByteArray), 0, 0⟩ : GToken)).From, (b_7.getD (Int.toNat x_6) (⟨0, (⟨#[]⟩ : ByteArray), 0, 0⟩ : GToken)).Count⟩ : GToken)).getD (Int.toNat x_6) (⟨0, (⟨#[]⟩ : ByteArray), 0, 0⟩ : GToken)).Count⟩ : GToken)).getD (Int.toNat x_6) (⟨0, (⟨#[]⟩ : ByteArray), 0, 0⟩ : GToken)).Count⟩ : GToken)).getD (Int.toNat x_6) (⟨0, (⟨#[]⟩ : ByteArray), 0, 0⟩ : GToken)).Kind, ((((b_7.set (Int.toNat x_6) (⟨x_5, (b_7.getD (Int.toNat x_6) (⟨0, (⟨#[]⟩ : ByteArray), 0, 0⟩ : GToken)).Data, (b_7.getD (Int.toNat x_6) (⟨0, (⟨#[]⟩ : ByteArray), 0, 0⟩ : GToken)).From, (b_7.getD (Int.toNat x_6) (⟨0, (⟨#[]⟩ : ByteArray), 0, 0⟩ : GToken)).Count⟩ : GToken)).set (Int.toNat x_6) (⟨((b_7.set (Int.toNat x_6) (⟨x_5, (b_7.getD (Int.toNat x_6) (⟨0, (⟨#[]⟩ : ByteArray), 0, 0⟩ : GToken)).Data, (b_7.getD (Int.toNat x_6) (⟨0, (⟨#[]⟩ : ByteArray), 0, 0⟩ : GToken)).From, (b_7.getD (Int.toNat x_6) (⟨0, (⟨#[]⟩ : ByteArray), 0, 0⟩ : GToken)).Count⟩ : GToken)).getD (Int.toNat x_6) (⟨0, (⟨#[]⟩ : ByteArray), 0, 0⟩ : GToken)).Kind, r8, ((b_7.set (Int.toNat x_6) (⟨x_5, (b_7.getD (Int.toNat x_6) (⟨0, (⟨#[]⟩ : ByteArray), 0, 0⟩ : GToken)).Data, (b_7.getD (Int.toNat x_6) (⟨0, (⟨#[]⟩ : ByteArray), 0, 0⟩ : GToken)).From, (b_7.getD (Int.toNat x_6) (⟨0, (⟨#[]⟩ : ByteArray), 0, 0⟩ : GToken)).Count⟩ : GToken)).getD (Int.toNat x_6) (⟨0, (⟨#[]⟩ : ByteArray), 0, 0⟩ : GToken)).From, ((b_7.set (Int.toNat x_6) (⟨x_5, (b_7.getD (Int.toNat x_6) (⟨0, (⟨#[]⟩ : ByteArray), 0, 0⟩ : GToken)).Data, (b_7.getD (Int.toNat x_6) (⟨0, (⟨#[]⟩ : ByteArray), 0, 0⟩ : GToken)).From, (b_7.getD (Int.toNat x_6) (⟨0, (⟨#[]⟩ : ByteArray), 0, 0⟩ : GToken)).Count⟩ : GToken)).getD (Int.toNat x_6) (⟨0, (⟨#[]⟩ : ByteArray), 0, 0⟩ : GToken)).Count⟩ : GToken)).set (Int.toNat x_6) (⟨(((b_7.set (Int.toNat x_6) (⟨x_5, (b_7.getD (Int.toNat x_6) (⟨0, (⟨#[]⟩ : ByteArray), 0, 0⟩ : GToken)).Data, (b_7.getD (Int.toNat x_6) (⟨0, (⟨#[]⟩ : ByteArray), 0, 0⟩ : GToken)).From, (b_7.getD (Int.toNat x_6) (⟨0, (⟨#[]⟩ : ByteArray), 0, 0⟩ : GToken)).Count⟩ : GToken)).set (Int.toNat x_6) (⟨((b_7.set (Int.toNat x_6) (⟨x_5, (b_7.getD (Int.toNat x_6) (⟨0, (⟨#[]⟩ : ByteArray), 0, 0⟩ : GToken)).Data, (b_7.getD (Int.toNat x_6) (⟨0, (⟨#[]⟩ : ByteArray), 0, 0⟩ : GToken)).From, (b_7.getD (Int.toNat x_6) (⟨0, (⟨#[]⟩ : ByteArray), 0, 0⟩ : GToken)).Count⟩ : GToken)).getD (Int.toNat x_6) (⟨0, (⟨#[]⟩ : ByteArray), 0, 0⟩ : GToken)).Kind, r8, ((b_7.set (Int.toNat x_6) (⟨x_5, (b_7.getD (Int.toNat x_6) (⟨0, (⟨#[]⟩ : ByteArray), 0, 0⟩ : GToken)).Data, (b_7.getD (Int.toNat x_6) (⟨0, (⟨#[]⟩ : ByteArray), 0, 0⟩ : GToken)).From, (b_7.getD (Int.toNat x_6) (⟨0, (⟨#[]⟩ : ByteArray), 0, 0⟩ : GToken)).Count⟩ : GToken)).getD (Int.toNat x_6) (⟨0, (⟨#[]⟩ : ByteArray), 0, 0⟩ : GToken)).From, ((b_7.set (Int.toNat x_6) (⟨x_5, (b_7.getD (Int.toNat x_6) (⟨0, (⟨#[]⟩ : ByteArray), 0, 0⟩ : GToken)).Data, (b_7.getD (Int.toNat x_6) (⟨0, (⟨#[]⟩ : ByteArray), 0, 0⟩ : GToken)).From, (b_7.getD (Int.toNat x_6) (⟨0, (⟨#[]⟩ : ByteArray), 0, 0⟩ : GToken)).Count⟩ : GToken)).getD (Int.toNat x_6) (⟨0, (⟨#[]⟩ : ByteArray), 0, 0⟩ : GToken)).Count⟩ : GToken)).getD (Int.toNat x_6) (⟨0, (⟨#[]⟩ : ByteArray), 0, 0⟩ : GToken)).Kind, (((b_7.set (Int.toNat x_6) (⟨x_5, (b_7.getD (Int.toNat x_6) (⟨0, (⟨#[]⟩ : ByteArray), 0, 0⟩ : GToken)).Data, (b_7.getD (Int.toNat x_6) (⟨0, (⟨#[]⟩ : ByteArray), 0, 0⟩ : GToken)).From, (b_7.getD (Int.toNat x_6) (⟨0, (⟨#[]⟩ : ByteArray), 0, 0⟩ : GToken)).Count⟩ : GToken)).set (Int.toNat x_6) (⟨((b_7.set (Int.toNat x_6) (⟨x_5, (b_7.getD (Int.toNat x_6) (⟨0, (⟨#[]⟩ : ByteArray), 0, 0⟩ : GToken)).Data, (b_7.getD (Int.toNat x_6) (⟨0, (⟨#[]⟩ : ByteArray), 0, 0⟩ : GToken)).From, (b_7.getD (Int.toNat x_6) (⟨0, (⟨#[]⟩ : ByteArray), 0, 0⟩ : GToken)).Count⟩ : GToken)).getD (Int.toNat x_6) (⟨0, (⟨#[]⟩ : ByteArray), 0, 0⟩ : GToken)).Kind, r8, ((b_7.set (Int.toNat x_6) (⟨x_5, (b_7.getD (Int.toNat x_6) (⟨0, (⟨#[]⟩ : ByteArray), 0, 0⟩ : GToken)).Data, (b_7.getD (Int.toNat x_6) (⟨0, (⟨#[]⟩ : ByteArray), 0, 0⟩ : GToken)).From, (b_7.getD (Int.toNat x_6) (⟨0, (⟨#[]⟩ : ByteArray), 0, 0⟩ : GToken)).Count⟩ : GToken)).getD (Int.toNat x_6) (⟨0, (⟨#[]⟩ : ByteArray), 0, 0⟩ : GToken)).From, ((b_7.set (Int.toNat x_6) (⟨x_5, (b_7.getD (Int.toNat x_6) (⟨0, (⟨#[]⟩ : ByteArray), 0, 0⟩ : GToken)).Data, (b_7.getD (Int.toNat x_6) (⟨0, (⟨#[]⟩ : ByteArray), 0, 0⟩ : GToken)).From, (b_7.getD (Int.toNat x_6) (⟨0, (⟨#[]⟩ : ByteArray), 0, 0⟩ : GToken)).Count⟩ : GToken)).getD (Int.toNat x_6) (⟨0, (⟨#[]⟩ : ByteArray), 0, 0⟩ : GToken)).Count⟩ : GToken)).getD (Int.toNat x_6) (⟨0, (⟨#[]⟩ : ByteArray), 0, 0⟩ : GToken)).Data, (IntKind.wrap .i64 ((IntKind.wrap .i64 (x_5 + 1)) + 1)), (((b_7.set (Int.toNat x_6) (⟨x_5, (b_7.getD (Int.toNat x_6) (⟨0, (⟨#[]⟩ : ByteArray), 0, 0⟩ : GToken)).Data, (b_7.getD (Int.toNat x_6) (⟨0, (⟨#[]⟩ : ByteArray), 0, 0⟩ : GToken)).From, (b_7.getD (Int.toNat x_6) (⟨0, (⟨#[]⟩ : ByteArray), 0, 0⟩ : GToken)).Count⟩ : GToken)).set (Int.toNat x_6) (⟨((b_7.set (Int.toNat x_6) (⟨x_5, (b_7.getD (Int.toNat x_6) (⟨0, (⟨#[]⟩ : ByteArray), 0, 0⟩ : GToken)).Data, (b_7.getD (Int.toNat x_6) (⟨0, (⟨#[]⟩ : ByteArray), 0, 0⟩ : GToken)).From, (b_7.getD (Int.toNat x_6) (⟨0, (⟨#[]⟩ : ByteArray), 0, 0⟩ : GToken)).Count⟩ : GToken)).getD (Int.toNat x_6) (⟨0, (⟨#[]⟩ : ByteArray), 0, 0⟩ : GToken)).Kind, r8, ((b_7.set (Int.toNat x_6) (⟨x_5, (b_7.getD (Int.toNat x_6) (⟨0, (⟨#[]⟩ : ByteArray), 0, 0⟩ : GToken)).Data, (b_7.getD (Int.toNat x_6) (⟨0, (⟨#[]⟩ : ByteArray), 0, 0⟩ : GToken)).From, (b_7.getD (Int.toNat x_6) (⟨0, (⟨#[]⟩ : ByteArray), 0, 0⟩ : GToken)).Count⟩ : GToken)).getD (Int.toNat x_6) (⟨0, (⟨#[]⟩ : ByteArray), 0, 0⟩ : GToken)).From, ((b_7.set (Int.toNat x_6) (⟨x_5, (b_7.getD (Int.toNat x_6) (⟨0, (⟨#[]⟩ : ByteArray), 0, 0⟩ : GToken)).Data, (b_7.getD (Int.toNat x_6) (⟨0, (⟨#[]⟩ : ByteArray), 0, 0⟩ : GToken)).From, (b_7.getD (Int.toNat x_6) (⟨0, (⟨#[]⟩ : ByteArray), 0, 0⟩ : GToken)).Count⟩ : GToken)).getD (Int.toNat x_6) (⟨0, (⟨#[]⟩ : ByteArray), 0, 0⟩ : GToken)).Count⟩ : GToken)).getD (Int.toNat x_6) (⟨0, (⟨#[]⟩ : ByteArray), 0, 0⟩ : GToken)).Count⟩ : GToken)).getD (Int.toNat x_6) (⟨0, (⟨#[]⟩ : ByteArray), 0, 0⟩ : GToken)).Data, ((((b_7.set (Int.toNat x_6) (⟨x_5, (b_7.getD (Int.toNat x_6) (⟨0, (⟨#[]⟩ : ByteArray), 0, 0⟩ : GToken)).Data, (b_7.getD (Int.toNat x_6) (⟨0, (⟨#[]⟩ : ByteArray), 0, 0⟩ : GToken)).From, (b_7.getD (Int.toNat x_6) (⟨0, (⟨#[]⟩ : ByteArray), 0, 0⟩ : GToken)).Count⟩ : GToken)).set (Int.toNat x_6) (⟨((b_7.set (Int.toNat x_6) (⟨x_5, (b_7.getD (Int.toNat x_6) (⟨0, (⟨#[]⟩ : ByteArray), 0, 0⟩ : GToken)).Data, (b_7.getD (Int.toNat x_6) (⟨0, (⟨#[]⟩ : ByteArray), 0, 0⟩ : GToken)).From, (b_7.getD (Int.toNat x_6) (⟨0, (⟨#[]⟩ : ByteArray), 0, 0⟩ : GToken)).Count⟩ : GToken)).getD (Int.toNat x_6) (⟨0, (⟨#[]⟩ : ByteArray), 0, 0⟩ : GToken)).Kind, r8, ((b_7.set (Int.toNat x_6) (⟨x_5, (b_7.getD (Int.toNat x_6) (⟨0, (⟨#[]⟩ : ByteArray), 0, 0⟩ : GToken)).Data, (b_7.getD (Int.toNat x_6) (⟨0, (⟨#[]⟩ : ByteArray), 0, 0⟩ : GToken)).From, (b_7.getD (Int.toNat x_6) (⟨0, (⟨#[]⟩ : ByteArray), 0, 0⟩ : GToken)).Count⟩ : GToken)).getD (Int.toNat x_6) (⟨0, (⟨#[]⟩ : ByteArray), 0, 0⟩ : GToken)).From, ((b_7.set (Int.toNat x_6) (⟨x_5, (b_7.getD (Int.toNat x_6) (⟨0, (⟨#[]⟩ : ByteArray), 0, 0⟩ : GToken)).Data, (b_7.getD (Int.toNat x_6) (⟨0, (⟨#[]⟩ : ByteArray), 0, 0⟩ : GToken)).From, (b_7.getD (Int.toNat x_6) (⟨0, (⟨#[]⟩ : ByteArray), 0, 0⟩ : GToken)).Count⟩ : GToken)).getD (Int.toNat x_6) (⟨0, (⟨#[]⟩ : ByteArray), 0, 0⟩ : GToken)).Count⟩ : GToken)).set (Int.toNat x_6) (⟨(((b_7.set (Int.toNat x_6) (⟨x_5, (b_7.getD (Int.toNat x_6) (⟨0, (⟨#[]⟩ : ByteArray), 0, 0⟩ : GToken)).Data, (b_7.getD (Int.toNat x_6) (⟨0, (⟨#[]⟩ : ByteArray), 0, 0⟩ : GToken)).From, (b_7.getD (Int.toNat x_6) (⟨0, (⟨#[]⟩ : ByteArray), 0, 0⟩ : GToken)).Count⟩ : GToken)).set (Int.toNat x_6) (⟨((b_7.set (Int.toNat x_6) (⟨x_5, (b_7.getD (Int.toNat x_6) (⟨0, (⟨#[]⟩ : ByteArray), 0, 0⟩ : GToken)).Data, (b_7.getD (Int.toNat x_6) (⟨0, (⟨#[]⟩ : ByteArray), 0, 0⟩ : GToken)).From, (b_7.getD (Int.toNat x_6) (⟨0, (⟨#[]⟩ : ByteArray), 0, 0⟩ : GToken)).Count⟩ : GToken)).getD (Int.toNat x_6) (⟨0, (⟨#[]⟩ : ByteArray), 0, 0⟩ : GToken)).Kind, r8, ((b_7.set (Int.toNat x_6) (⟨x_5, (b_7.getD (Int.toNat x_6) (⟨0, (⟨#[]⟩ : ByteArray), 0, 0⟩ : GToken)).Data, (b_7.getD (Int.toNat x_6) (⟨0, (⟨#[]⟩ : ByteArray), 0, 0⟩ : GToken)).From, (b_7.getD (Int.toNat x_6) (⟨0, (⟨#[]⟩ : ByteArray), 0, 0⟩ : GToken)).Count⟩ : GToken)).getD (Int.toNat x_6) (⟨0, (⟨#[]⟩ : ByteArray), 0, 0⟩ : GToken)).From, ((b_7.set (Int.toNat x_6) (⟨x_5, (b_7.getD (Int.toNat x_6) (⟨0, (⟨#[]⟩ : ByteArray), 0, 0⟩ : GToken)).Data, (b_7.getD (Int.toNat x_6) (⟨0, (⟨#[]⟩ : ByteArray), 0, 0⟩ : GToken)).From, (b_7.getD (Int.toNat x_6) (⟨0, (⟨#[]⟩ : ByteArray), 0, 0⟩ : GToken)).Count⟩ : GToken)).getD (Int.toNat x_6) (⟨0, (⟨#[]⟩ : ByteArray), 0, 0⟩ : GToken)).Count⟩ : GToken)).getD (Int.toNat x_6) (⟨0, (⟨#[]⟩ : ByteArray), 0, 0⟩ : GToken)).Kind, (((b_7.set (Int.toNat x_6) (⟨x_5, (b_7.getD (Int.toNat x_6) (⟨0, (⟨#[]⟩ : ByteArray), 0, 0⟩ : GToken)).Data, (b_7.getD (Int.toNat x_6) (⟨0, (⟨#[]⟩ : ByteArray), 0, 0⟩ : GToken)).From, (b_7.getD (Int.toNat x_6) (⟨0, (⟨#[]⟩ : ByteArray), 0, 0⟩ : GToken)).Count⟩ : GToken)).set (Int.toNat x_6) (⟨((b_7.set (Int.toNat x_6) (⟨x_5, (b_7.getD (Int.toNat x_6) (⟨0, (⟨#[]⟩ : ByteArray), 0, 0⟩ : GToken)).Data, (b_7.getD (Int.toNat x_6) (⟨0, (⟨#[]⟩ : ByteArray), 0, 0⟩ : GToken)).From, (b_7.getD (Int.toNat x_6) (⟨0, (⟨#[]⟩ : ByteArray), 0, 0⟩ : GToken)).Count⟩ : GToken)).getD (Int.toNat x_6) (⟨0, (⟨#[]⟩ : ByteArray), 0, 0⟩ : GToken)).Kind, r8, ((b_7.set (Int.toNat x_6) (⟨x_5, (b_7.getD (Int.toNat x_6) (⟨0, (⟨#[]⟩ : ByteArray), 0, 0⟩ : GToken)).Data, (b_7.getD (Int.toNat x_6) (⟨0, (⟨#[]⟩ : ByteArray), 0, 0⟩ : GToken)).From, (b_7.getD (Int.toNat x_6) (⟨0, (⟨#[]⟩ : ByteArray), 0, 0⟩ : GToken)).Count⟩ : GToken)).getD (Int.toNat x_6) (⟨0, (⟨#[]⟩ : ByteArray), 0, 0⟩ : GToken)).From, ((b_7.set (Int.toNat x_6) (⟨x_5, (b_7.getD (Int.toNat x_6) (⟨0, (⟨#[]⟩ : ByteArray), 0, 0⟩ : GToken)).Data, (b_7.getD (Int.toNat x_6) (⟨0, (⟨#[]⟩ : ByteArray), 0, 0⟩ : GToken)).From, (b_7.getD (Int.toNat x_6) (⟨0, (⟨#[]⟩ : ByteArray), 0, 0⟩ : GToken)).Count⟩ : GToken)).getD (Int.toNat x_6) (⟨0, (⟨#[]⟩ : ByteArray), 0, 0⟩ : GToken)).Count⟩ : GToken)).getD (Int.toNat x_6) (⟨0, (⟨#[]⟩ : ByteArray), 0, 0⟩ : GToken)).Data, (IntKind.wrap .i64 ((IntKind.wrap .i64 (x_5 + 1)) + 1)), (((b_7.set (Int.toNat x_6) (⟨x_5, (b_7.getD (Int.toNat x_6) (⟨0, (⟨#[]⟩ : ByteArray), 0, 0⟩ : GToken)).Data, (b_7.getD (Int.toNat x_6) (⟨0, (⟨#[]⟩ : ByteArray), 0, 0⟩ : GToken)).From, (b_7.getD (Int.toNat x_6) (⟨0, (⟨#[]⟩ : ByteArray), 0, 0⟩ : GToken)).Count⟩ : GToken)).set (Int.toNat x_6) (⟨((b_7.set (Int.toNat x_6) (⟨x_5, (b_7.getD (Int.toNat x_6) (⟨0, (⟨#[]⟩ : ByteArray), 0, 0⟩ : GToken)).Data, (b_7.getD (Int.toNat x_6) (⟨0, (⟨#[]⟩ : ByteArray), 0, 0⟩ : GToken)).From, (b_7.getD (Int.toNat x_6) (⟨0, (⟨#[]⟩ : ByteArray), 0, 0⟩ : GToken)).Count⟩ : GToken)).getD (Int.toNat x_6) (⟨0, (⟨#[]⟩ : ByteArray), 0, 0⟩ : GToken)).Kind, r8, ((b_7.set (Int.toNat x_6) (⟨x_5, (b_7.getD (Int.toNat x_6) (⟨0, (⟨#[]⟩ : ByteArray), 0, 0⟩ : GToken)).Data, (b_7.getD (Int.toNat x_6) (⟨0, (⟨#[]⟩ : ByteArray), 0, 0⟩ : GToken)).From, (b_7.getD (Int.toNat x_6) (⟨0, (⟨#[]⟩ : ByteArray), 0, 0⟩ : GToken)).Count⟩ : GToken)).getD (Int.toNat x_6) (⟨0, (⟨#[]⟩ : ByteArray), 0, 0⟩ : GToken)).From, ((b_7.set (Int.toNat x_6) (⟨x_5, (b_7.getD (Int.toNat x_6) (⟨0, (⟨#[]⟩ : ByteArray), 0, 0⟩ : GToken)).Data, (b_7.getD (Int.toNat x_6) (⟨0, (⟨#[]⟩ : ByteArray), 0, 0⟩ : GToken)).From, (b_7.getD (Int.toNat x_6) (⟨0, (⟨#[]⟩ : ByteArray), 0, 0⟩ : GToken)).Count⟩ : GToken)).getD (Int.toNat x_6) (⟨0, (⟨#[]⟩ : ByteArray), 0, 0⟩ : GToken)).Count⟩ : GToken)).getD (Int.toNat x_6) (⟨0, (⟨#[]⟩ : ByteArray), 0, 0⟩ : GToken)).Count⟩ : GToken)).getD (Int.toNat x_6) (⟨0, (⟨#[]⟩ : ByteArray), 0, 0⟩ : GToken)).From, (IntKind.wrap .i64 ((IntKind.wrap .i64 ((IntKind.wrap .i64 (x_5 + 1)) + 1)) + 1))⟩ : GToken))) else none) else none) else none) else none) else none) else none)) else none) else none) else (some (x_5, b_7)))
def laws_markTokenS.f (k : Nat) (a0 : List GToken) (a1 : Int) : Option (Int × List GToken) := (laws_markTokenS.l0 k a1 0 a0)
theorem laws_markTokenS.le (O : Prim) (hO : O = std) (k : Nat) (a0 : List GToken) (a1 : Int) : Le F O M fi25.kills laws_markTokenS.e (laws_markTokenS.f k a0 a1) (den O M fi25.kills fi25.fn fi25.body (tab.gives 25) (M 25) [.one (.own 64 a0), .one (.lit (.int .i64 a1))] : Tr tab) := by
  refine Le.eqS 0 (by conv => lhs; cbv) ?_
  unfold laws_markTokenS.f
  refine Le.loopS (fun (n : Nat) (v : Int × Int × List GToken) => laws_markTokenS.l0 n v.1 v.2.1 v.2.2) (fun (v : Int × Int × List GToken) => match v with | (x_5, x_6, b_7) => (⟨[], [.one (.at ⟨1, 0, []⟩), .one (.lit (.int .i64 x_5)), D_, D_, D_, .one (.lit (.int .i64 x_6)), D_, D_, D_, D_, D_, D_, D_, D_, D_, D_, D_, D_, D_, D_, D_, D_, D_, D_, D_, D_, D_, D_, D_, D_, D_, D_, D_, D_, D_, D_, D_, D_, D_, D_, D_, D_], [[], [], [], [], [], [], [], [], [], [], [], [], [], [], [], [], [], [], [], [], [], [], [], [], [], [], [], [], [], [], [], [], [], [], [], [], [], [], [], [], [], [], [], []], [.own 64 b_7]⟩ : S tab)) k (a1, 0, a0) (by subst hO; rfl) rfl (fun _ => rfl) ?_
  intro n0 hn0 ih0 v0
  obtain ⟨x_5, x_6, b_7⟩ := v0
  refine Le.eqS 0 (by conv => lhs; cbv) ?_
  show Le F O M _ _ (laws_markTokenS.l0 (n0 + 1) x_5 x_6 b_7) _
  rw [laws_markTokenS.l0]
  refine Le.condP 0 0 (by subst hO; rfl) (by conv => lhs; cbv) (by conv => lhs; cbv) ?_ ?_
  · refine Le.guardP 0 (by subst hO; rfl) (by conv => lhs; cbv) ?_
    refine Le.guardP 0 (by subst hO; rfl) (by conv => lhs; cbv) ?_
    refine Le.callC 0 (fi := fi48) rfl (laws_markText.le O hO n0 (O.wrap .i64 (O.add x_5 1))) (by subst hO; rfl) (by intro r8; conv => lhs; cbv) ?_
    intro r8
    refine Le.guardP 0 (by subst hO; rfl) (by conv => lhs; cbv) ?_
    refine Le.guardP 0 (by subst hO; rfl) (by conv => lhs; cbv) ?_
    refine Le.guardP 0 (by subst hO; rfl) (by conv => lhs; cbv) ?_
    refine Le.guardP 0 (by subst hO; rfl) (by conv => lhs; cbv) ?_
    refine Le.guardP 0 (by subst hO; rfl) (by conv => lhs; cbv) ?_
    refine Le.guardP 0 (by subst hO; rfl) (by conv => lhs; cbv) ?_
    exact Le.again (ih0 n0 (by omega) ((O.wrap .i64 (O.add (O.wrap .i64 (O.add (O.wrap .i64 (O.add (O.wrap .i64 (O.add x_5 1)) 1)) 1)) 1)), (O.wrap .i64 (O.add x_6 1)), (O.set (O.set (O.set (O.set b_7 x_6 (⟨x_5, (O.get (⟨0, (⟨#[]⟩ : ByteArray), 0, 0⟩ : GToken) b_7 x_6).Data, (O.get (⟨0, (⟨#[]⟩ : ByteArray), 0, 0⟩ : GToken) b_7 x_6).From, (O.get (⟨0, (⟨#[]⟩ : ByteArray), 0, 0⟩ : GToken) b_7 x_6).Count⟩ : GToken)) x_6 (⟨(O.get (⟨0, (⟨#[]⟩ : ByteArray), 0, 0⟩ : GToken) (O.set b_7 x_6 (⟨x_5, (O.get (⟨0, (⟨#[]⟩ : ByteArray), 0, 0⟩ : GToken) b_7 x_6).Data, (O.get (⟨0, (⟨#[]⟩ : ByteArray), 0, 0⟩ : GToken) b_7 x_6).From, (O.get (⟨0, (⟨#[]⟩ : ByteArray), 0, 0⟩ : GToken) b_7 x_6).Count⟩ : GToken)) x_6).Kind, r8, (O.get (⟨0, (⟨#[]⟩ : ByteArray), 0, 0⟩ : GToken) (O.set b_7 x_6 (⟨x_5, (O.get (⟨0, (⟨#[]⟩ : ByteArray), 0, 0⟩ : GToken) b_7 x_6).Data, (O.get (⟨0, (⟨#[]⟩ : ByteArray), 0, 0⟩ : GToken) b_7 x_6).From, (O.get (⟨0, (⟨#[]⟩ : ByteArray), 0, 0⟩ : GToken) b_7 x_6).Count⟩ : GToken)) x_6).From, (O.get (⟨0, (⟨#[]⟩ : ByteArray), 0, 0⟩ : GToken) (O.set b_7 x_6 (⟨x_5, (O.get (⟨0, (⟨#[]⟩ : ByteArray), 0, 0⟩ : GToken) b_7 x_6).Data, (O.get (⟨0, (⟨#[]⟩ : ByteArray), 0, 0⟩ : GToken) b_7 x_6).From, (O.get (⟨0, (⟨#[]⟩ : ByteArray), 0, 0⟩ : GToken) b_7 x_6).Count⟩ : GToken)) x_6).Count⟩ : GToken)) x_6 (⟨(O.get (⟨0, (⟨#[]⟩ : ByteArray), 0, 0⟩ : GToken) (O.set (O.set b_7 x_6 (⟨x_5, (O.get (⟨0, (⟨#[]⟩ : ByteArray), 0, 0⟩ : GToken) b_7 x_6).Data, (O.get (⟨0, (⟨#[]⟩ : ByteArray), 0, 0⟩ : GToken) b_7 x_6).From, (O.get (⟨0, (⟨#[]⟩ : ByteArray), 0, 0⟩ : GToken) b_7 x_6).Count⟩ : GToken)) x_6 (⟨(O.get (⟨0, (⟨#[]⟩ : ByteArray), 0, 0⟩ : GToken) (O.set b_7 x_6 (⟨x_5, (O.get (⟨0, (⟨#[]⟩ : ByteArray), 0, 0⟩ : GToken) b_7 x_6).Data, (O.get (⟨0, (⟨#[]⟩ : ByteArray), 0, 0⟩ : GToken) b_7 x_6).From, (O.get (⟨0, (⟨#[]⟩ : ByteArray), 0, 0⟩ : GToken) b_7 x_6).Count⟩ : GToken)) x_6).Kind, r8, (O.get (⟨0, (⟨#[]⟩ : ByteArray), 0, 0⟩ : GToken) (O.set b_7 x_6 (⟨x_5, (O.get (⟨0, (⟨#[]⟩ : ByteArray), 0, 0⟩ : GToken) b_7 x_6).Data, (O.get (⟨0, (⟨#[]⟩ : ByteArray), 0, 0⟩ : GToken) b_7 x_6).From, (O.get (⟨0, (⟨#[]⟩ : ByteArray), 0, 0⟩ : GToken) b_7 x_6).Count⟩ : GToken)) x_6).From, (O.get (⟨0, (⟨#[]⟩ : ByteArray), 0, 0⟩ : GToken) (O.set b_7 x_6 (⟨x_5, (O.get (⟨0, (⟨#[]⟩ : ByteArray), 0, 0⟩ : GToken) b_7 x_6).Data, (O.get (⟨0, (⟨#[]⟩ : ByteArray), 0, 0⟩ : GToken) b_7 x_6).From, (O.get (⟨0, (⟨#[]⟩ : ByteArray), 0, 0⟩ : GToken) b_7 x_6).Count⟩ : GToken)) x_6).Count⟩ : GToken)) x_6).Kind, (O.get (⟨0, (⟨#[]⟩ : ByteArray), 0, 0⟩ : GToken) (O.set (O.set b_7 x_6 (⟨x_5, (O.get (⟨0, (⟨#[]⟩ : ByteArray), 0, 0⟩ : GToken) b_7 x_6).Data, (O.get (⟨0, (⟨#[]⟩ : ByteArray), 0, 0⟩ : GToken) b_7 x_6).From, (O.get (⟨0, (⟨#[]⟩ : ByteArray), 0, 0⟩ : GToken) b_7 x_6).Count⟩ : GToken)) x_6 (⟨(O.get (⟨0, (⟨#[]⟩ : ByteArray), 0, 0⟩ : GToken) (O.set b_7 x_6 (⟨x_5, (O.get (⟨0, (⟨#[]⟩ : ByteArray), 0, 0⟩ : GToken) b_7 x_6).Data, (O.get (⟨0, (⟨#[]⟩ : ByteArray), 0, 0⟩ : GToken) b_7 x_6).From, (O.get (⟨0, (⟨#[]⟩ : ByteArray), 0, 0⟩ : GToken) b_7 x_6).Count⟩ : GToken)) x_6).Kind, r8, (O.get (⟨0, (⟨#[]⟩ : ByteArray), 0, 0⟩ : GToken) (O.set b_7 x_6 (⟨x_5, (O.get (⟨0, (⟨#[]⟩ : ByteArray), 0, 0⟩ : GToken) b_7 x_6).Data, (O.get (⟨0, (⟨#[]⟩ : ByteArray), 0, 0⟩ : GToken) b_7 x_6).From, (O.get (⟨0, (⟨#[]⟩ : ByteArray), 0, 0⟩ : GToken) b_7 x_6).Count⟩ : GToken)) x_6).From, (O.get (⟨0, (⟨#[]⟩ : ByteArray), 0, 0⟩ : GToken) (O.set b_7 x_6 (⟨x_5, (O.get (⟨0, (⟨#[]⟩ : ByteArray), 0, 0⟩ : GToken) b_7 x_6).Data, (O.get (⟨0, (⟨#[]⟩ : ByteArray), 0, 0⟩ : GToken) b_7 x_6).From, (O.get (⟨0, (⟨#[]⟩ : ByteArray), 0, 0⟩ : GToken) b_7 x_6).Count⟩ : GToken)) x_6).Count⟩ : GToken)) x_6).Data, (O.wrap .i64 (O.add (O.wrap .i64 (O.add x_5 1)) 1)), (O.get (⟨0, (⟨#[]⟩ : ByteArray), 0, 0⟩ : GToken) (O.set (O.set b_7 x_6 (⟨x_5, (O.get (⟨0, (⟨#[]⟩ : ByteArray), 0, 0⟩ : GToken) b_7 x_6).Data, (O.get (⟨0, (⟨#[]⟩ : ByteArray), 0, 0⟩ : GToken) b_7 x_6).From, (O.get (⟨0, (⟨#[]⟩ : ByteArray), 0, 0⟩ : GToken) b_7 x_6).Count⟩ : GToken)) x_6 (⟨(O.get (⟨0, (⟨#[]⟩ : ByteArray), 0, 0⟩ : GToken) (O.set b_7 x_6 (⟨x_5, (O.get (⟨0, (⟨#[]⟩ : ByteArray), 0, 0⟩ : GToken) b_7 x_6).Data, (O.get (⟨0, (⟨#[]⟩ : ByteArray), 0, 0⟩ : GToken) b_7 x_6).From, (O.get (⟨0, (⟨#[]⟩ : ByteArray), 0, 0⟩ : GToken) b_7 x_6).Count⟩ : GToken)) x_6).Kind, r8, (O.get (⟨0, (⟨#[]⟩ : ByteArray), 0, 0⟩ : GToken) (O.set b_7 x_6 (⟨x_5, (O.get (⟨0, (⟨#[]⟩ : ByteArray), 0, 0⟩ : GToken) b_7 x_6).Data, (O.get (⟨0, (⟨#[]⟩ : ByteArray), 0, 0⟩ : GToken) b_7 x_6).From, (O.get (⟨0, (⟨#[]⟩ : ByteArray), 0, 0⟩ : GToken) b_7 x_6).Count⟩ : GToken)) x_6).From, (O.get (⟨0, (⟨#[]⟩ : ByteArray), 0, 0⟩ : GToken) (O.set b_7 x_6 (⟨x_5, (O.get (⟨0, (⟨#[]⟩ : ByteArray), 0, 0⟩ : GToken) b_7 x_6).Data, (O.get (⟨0, (⟨#[]⟩ : ByteArray), 0, 0⟩ : GToken) b_7 x_6).From, (O.get (⟨0, (⟨#[]⟩ : ByteArray), 0, 0⟩ : GToken) b_7 x_6).Count⟩ : GToken)) x_6).Count⟩ : GToken)) x_6).Count⟩ : GToken)) x_6 (⟨(O.get (⟨0, (⟨#[]⟩ : ByteArray), 0, 0⟩ : GToken) (O.set (O.set (O.set b_7 x_6 (⟨x_5, (O.get (⟨0, (⟨#[]⟩ : ByteArray), 0, 0⟩ : GToken) b_7 x_6).Data, (O.get (⟨0, (⟨#[]⟩ : ByteArray), 0, 0⟩ : GToken) b_7 x_6).From, (O.get (⟨0, (⟨#[]⟩ : ByteArray), 0, 0⟩ : GToken) b_7 x_6).Count⟩ : GToken)) x_6 (⟨(O.get (⟨0, (⟨#[]⟩ : ByteArray), 0, 0⟩ : GToken) (O.set b_7 x_6 (⟨x_5, (O.get (⟨0, (⟨#[]⟩ : ByteArray), 0, 0⟩ : GToken) b_7 x_6).Data, (O.get (⟨0, (⟨#[]⟩ : ByteArray), 0, 0⟩ : GToken) b_7 x_6).From, (O.get (⟨0, (⟨#[]⟩ : ByteArray), 0, 0⟩ : GToken) b_7 x_6).Count⟩ : GToken)) x_6).Kind, r8, (O.get (⟨0, (⟨#[]⟩ : ByteArray), 0, 0⟩ : GToken) (O.set b_7 x_6 (⟨x_5, (O.get (⟨0, (⟨#[]⟩ : ByteArray), 0, 0⟩ : GToken) b_7 x_6).Data, (O.get (⟨0, (⟨#[]⟩ : ByteArray), 0, 0⟩ : GToken) b_7 x_6).From, (O.get (⟨0, (⟨#[]⟩ : ByteArray), 0, 0⟩ : GToken) b_7 x_6).Count⟩ : GToken)) x_6).From, (O.get (⟨0, (⟨#[]⟩ : ByteArray), 0, 0⟩ : GToken) (O.set b_7 x_6 (⟨x_5, (O.get (⟨0, (⟨#[]⟩ : ByteArray), 0, 0⟩ : GToken) b_7 x_6).Data, (O.get (⟨0, (⟨#[]⟩ : ByteArray), 0, 0⟩ : GToken) b_7 x_6).From, (O.get (⟨0, (⟨#[]⟩ : ByteArray), 0, 0⟩ : GToken) b_7 x_6).Count⟩ : GToken)) x_6).Count⟩ : GToken)) x_6 (⟨(O.get (⟨0, (⟨#[]⟩ : ByteArray), 0, 0⟩ : GToken) (O.set (O.set b_7 x_6 (⟨x_5, (O.get (⟨0, (⟨#[]⟩ : ByteArray), 0, 0⟩ : GToken) b_7 x_6).Data, (O.get (⟨0, (⟨#[]⟩ : ByteArray), 0, 0⟩ : GToken) b_7 x_6).From, (O.get (⟨0, (⟨#[]⟩ : ByteArray), 0, 0⟩ : GToken) b_7 x_6).Count⟩ : GToken)) x_6 (⟨(O.get (⟨0, (⟨#[]⟩ : ByteArray), 0, 0⟩ : GToken) (O.set b_7 x_6 (⟨x_5, (O.get (⟨0, (⟨#[]⟩ : ByteArray), 0, 0⟩ : GToken) b_7 x_6).Data, (O.get (⟨0, (⟨#[]⟩ : ByteArray), 0, 0⟩ : GToken) b_7 x_6).From, (O.get (⟨0, (⟨#[]⟩ : ByteArray), 0, 0⟩ : GToken) b_7 x_6).Count⟩ : GToken)) x_6).Kind, r8, (O.get (⟨0, (⟨#[]⟩ : ByteArray), 0, 0⟩ : GToken) (O.set b_7 x_6 (⟨x_5, (O.get (⟨0, (⟨#[]⟩ : ByteArray), 0, 0⟩ : GToken) b_7 x_6).Data, (O.get (⟨0, (⟨#[]⟩ : ByteArray), 0, 0⟩ : GToken) b_7 x_6).From, (O.get (⟨0, (⟨#[]⟩ : ByteArray), 0, 0⟩ : GToken) b_7 x_6).Count⟩ : GToken)) x_6).From, (O.get (⟨0, (⟨#[]⟩ : ByteArray), 0, 0⟩ : GToken) (O.set b_7 x_6 (⟨x_5, (O.get (⟨0, (⟨#[]⟩ : ByteArray), 0, 0⟩ : GToken) b_7 x_6).Data, (O.get (⟨0, (⟨#[]⟩ : ByteArray), 0, 0⟩ : GToken) b_7 x_6).From, (O.get (⟨0, (⟨#[]⟩ : ByteArray), 0, 0⟩ : GToken) b_7 x_6).Count⟩ : GToken)) x_6).Count⟩ : GToken)) x_6).Kind, (O.get (⟨0, (⟨#[]⟩ : ByteArray), 0, 0⟩ : GToken) (O.set (O.set b_7 x_6 (⟨x_5, (O.get (⟨0, (⟨#[]⟩ : ByteArray), 0, 0⟩ : GToken) b_7 x_6).Data, (O.get (⟨0, (⟨#[]⟩ : ByteArray), 0, 0⟩ : GToken) b_7 x_6).From, (O.get (⟨0, (⟨#[]⟩ : ByteArray), 0, 0⟩ : GToken) b_7 x_6).Count⟩ : GToken)) x_6 (⟨(O.get (⟨0, (⟨#[]⟩ : ByteArray), 0, 0⟩ : GToken) (O.set b_7 x_6 (⟨x_5, (O.get (⟨0, (⟨#[]⟩ : ByteArray), 0, 0⟩ : GToken) b_7 x_6).Data, (O.get (⟨0, (⟨#[]⟩ : ByteArray), 0, 0⟩ : GToken) b_7 x_6).From, (O.get (⟨0, (⟨#[]⟩ : ByteArray), 0, 0⟩ : GToken) b_7 x_6).Count⟩ : GToken)) x_6).Kind, r8, (O.get (⟨0, (⟨#[]⟩ : ByteArray), 0, 0⟩ : GToken) (O.set b_7 x_6 (⟨x_5, (O.get (⟨0, (⟨#[]⟩ : ByteArray), 0, 0⟩ : GToken) b_7 x_6).Data, (O.get (⟨0, (⟨#[]⟩ : ByteArray), 0, 0⟩ : GToken) b_7 x_6).From, (O.get (⟨0, (⟨#[]⟩ : ByteArray), 0, 0⟩ : GToken) b_7 x_6).Count⟩ : GToken)) x_6).From, (O.get (⟨0, (⟨#[]⟩ : ByteArray), 0, 0⟩ : GToken) (O.set b_7 x_6 (⟨x_5, (O.get (⟨0, (⟨#[]⟩ : ByteArray), 0, 0⟩ : GToken) b_7 x_6).Data, (O.get (⟨0, (⟨#[]⟩ : ByteArray), 0, 0⟩ : GToken) b_7 x_6).From, (O.get (⟨0, (⟨#[]⟩ : ByteArray), 0, 0⟩ : GToken) b_7 x_6).Count⟩ : GToken)) x_6).Count⟩ : GToken)) x_6).Data, (O.wrap .i64 (O.add (O.wrap .i64 (O.add x_5 1)) 1)), (O.get (⟨0, (⟨#[]⟩ : ByteArray), 0, 0⟩ : GToken) (O.set (O.set b_7 x_6 (⟨x_5, (O.get (⟨0, (⟨#[]⟩ : ByteArray), 0, 0⟩ : GToken) b_7 x_6).Data, (O.get (⟨0, (⟨#[]⟩ : ByteArray), 0, 0⟩ : GToken) b_7 x_6).From, (O.get (⟨0, (⟨#[]⟩ : ByteArray), 0, 0⟩ : GToken) b_7 x_6).Count⟩ : GToken)) x_6 (⟨(O.get (⟨0, (⟨#[]⟩ : ByteArray), 0, 0⟩ : GToken) (O.set b_7 x_6 (⟨x_5, (O.get (⟨0, (⟨#[]⟩ : ByteArray), 0, 0⟩ : GToken) b_7 x_6).Data, (O.get (⟨0, (⟨#[]⟩ : ByteArray), 0, 0⟩ : GToken) b_7 x_6).From, (O.get (⟨0, (⟨#[]⟩ : ByteArray), 0, 0⟩ : GToken) b_7 x_6).Count⟩ : GToken)) x_6).Kind, r8, (O.get (⟨0, (⟨#[]⟩ : ByteArray), 0, 0⟩ : GToken) (O.set b_7 x_6 (⟨x_5, (O.get (⟨0, (⟨#[]⟩ : ByteArray), 0, 0⟩ : GToken) b_7 x_6).Data, (O.get (⟨0, (⟨#[]⟩ : ByteArray), 0, 0⟩ : GToken) b_7 x_6).From, (O.get (⟨0, (⟨#[]⟩ : ByteArray), 0, 0⟩ : GToken) b_7 x_6).Count⟩ : GToken)) x_6).From, (O.get (⟨0, (⟨#[]⟩ : ByteArray), 0, 0⟩ : GToken) (O.set b_7 x_6 (⟨x_5, (O.get (⟨0, (⟨#[]⟩ : ByteArray), 0, 0⟩ : GToken) b_7 x_6).Data, (O.get (⟨0, (⟨#[]⟩ : ByteArray), 0, 0⟩ : GToken) b_7 x_6).From, (O.get (⟨0, (⟨#[]⟩ : ByteArray), 0, 0⟩ : GToken) b_7 x_6).Count⟩ : GToken)) x_6).Count⟩ : GToken)) x_6).Count⟩ : GToken)) x_6).Kind, (O.get (⟨0, (⟨#[]⟩ : ByteArray), 0, 0⟩ : GToken) (O.set (O.set (O.set b_7 x_6 (⟨x_5, (O.get (⟨0, (⟨#[]⟩ : ByteArray), 0, 0⟩ : GToken) b_7 x_6).Data, (O.get (⟨0, (⟨#[]⟩ : ByteArray), 0, 0⟩ : GToken) b_7 x_6).From, (O.get (⟨0, (⟨#[]⟩ : ByteArray), 0, 0⟩ : GToken) b_7 x_6).Count⟩ : GToken)) x_6 (⟨(O.get (⟨0, (⟨#[]⟩ : ByteArray), 0, 0⟩ : GToken) (O.set b_7 x_6 (⟨x_5, (O.get (⟨0, (⟨#[]⟩ : ByteArray), 0, 0⟩ : GToken) b_7 x_6).Data, (O.get (⟨0, (⟨#[]⟩ : ByteArray), 0, 0⟩ : GToken) b_7 x_6).From, (O.get (⟨0, (⟨#[]⟩ : ByteArray), 0, 0⟩ : GToken) b_7 x_6).Count⟩ : GToken)) x_6).Kind, r8, (O.get (⟨0, (⟨#[]⟩ : ByteArray), 0, 0⟩ : GToken) (O.set b_7 x_6 (⟨x_5, (O.get (⟨0, (⟨#[]⟩ : ByteArray), 0, 0⟩ : GToken) b_7 x_6).Data, (O.get (⟨0, (⟨#[]⟩ : ByteArray), 0, 0⟩ : GToken) b_7 x_6).From, (O.get (⟨0, (⟨#[]⟩ : ByteArray), 0, 0⟩ : GToken) b_7 x_6).Count⟩ : GToken)) x_6).From, (O.get (⟨0, (⟨#[]⟩ : ByteArray), 0, 0⟩ : GToken) (O.set b_7 x_6 (⟨x_5, (O.get (⟨0, (⟨#[]⟩ : ByteArray), 0, 0⟩ : GToken) b_7 x_6).Data, (O.get (⟨0, (⟨#[]⟩ : ByteArray), 0, 0⟩ : GToken) b_7 x_6).From, (O.get (⟨0, (⟨#[]⟩ : ByteArray), 0, 0⟩ : GToken) b_7 x_6).Count⟩ : GToken)) x_6).Count⟩ : GToken)) x_6 (⟨(O.get (⟨0, (⟨#[]⟩ : ByteArray), 0, 0⟩ : GToken) (O.set (O.set b_7 x_6 (⟨x_5, (O.get (⟨0, (⟨#[]⟩ : ByteArray), 0, 0⟩ : GToken) b_7 x_6).Data, (O.get (⟨0, (⟨#[]⟩ : ByteArray), 0, 0⟩ : GToken) b_7 x_6).From, (O.get (⟨0, (⟨#[]⟩ : ByteArray), 0, 0⟩ : GToken) b_7 x_6).Count⟩ : GToken)) x_6 (⟨(O.get (⟨0, (⟨#[]⟩ : ByteArray), 0, 0⟩ : GToken) (O.set b_7 x_6 (⟨x_5, (O.get (⟨0, (⟨#[]⟩ : ByteArray), 0, 0⟩ : GToken) b_7 x_6).Data, (O.get (⟨0, (⟨#[]⟩ : ByteArray), 0, 0⟩ : GToken) b_7 x_6).From, (O.get (⟨0, (⟨#[]⟩ : ByteArray), 0, 0⟩ : GToken) b_7 x_6).Count⟩ : GToken)) x_6).Kind, r8, (O.get (⟨0, (⟨#[]⟩ : ByteArray), 0, 0⟩ : GToken) (O.set b_7 x_6 (⟨x_5, (O.get (⟨0, (⟨#[]⟩ : ByteArray), 0, 0⟩ : GToken) b_7 x_6).Data, (O.get (⟨0, (⟨#[]⟩ : ByteArray), 0, 0⟩ : GToken) b_7 x_6).From, (O.get (⟨0, (⟨#[]⟩ : ByteArray), 0, 0⟩ : GToken) b_7 x_6).Count⟩ : GToken)) x_6).From, (O.get (⟨0, (⟨#[]⟩ : ByteArray), 0, 0⟩ : GToken) (O.set b_7 x_6 (⟨x_5, (O.get (⟨0, (⟨#[]⟩ : ByteArray), 0, 0⟩ : GToken) b_7 x_6).Data, (O.get (⟨0, (⟨#[]⟩ : ByteArray), 0, 0⟩ : GToken) b_7 x_6).From, (O.get (⟨0, (⟨#[]⟩ : ByteArray), 0, 0⟩ : GToken) b_7 x_6).Count⟩ : GToken)) x_6).Count⟩ : GToken)) x_6).Kind, (O.get (⟨0, (⟨#[]⟩ : ByteArray), 0, 0⟩ : GToken) (O.set (O.set b_7 x_6 (⟨x_5, (O.get (⟨0, (⟨#[]⟩ : ByteArray), 0, 0⟩ : GToken) b_7 x_6).Data, (O.get (⟨0, (⟨#[]⟩ : ByteArray), 0, 0⟩ : GToken) b_7 x_6).From, (O.get (⟨0, (⟨#[]⟩ : ByteArray), 0, 0⟩ : GToken) b_7 x_6).Count⟩ : GToken)) x_6 (⟨(O.get (⟨0, (⟨#[]⟩ : ByteArray), 0, 0⟩ : GToken) (O.set b_7 x_6 (⟨x_5, (O.get (⟨0, (⟨#[]⟩ : ByteArray), 0, 0⟩ : GToken) b_7 x_6).Data, (O.get (⟨0, (⟨#[]⟩ : ByteArray), 0, 0⟩ : GToken) b_7 x_6).From, (O.get (⟨0, (⟨#[]⟩ : ByteArray), 0, 0⟩ : GToken) b_7 x_6).Count⟩ : GToken)) x_6).Kind, r8, (O.get (⟨0, (⟨#[]⟩ : ByteArray), 0, 0⟩ : GToken) (O.set b_7 x_6 (⟨x_5, (O.get (⟨0, (⟨#[]⟩ : ByteArray), 0, 0⟩ : GToken) b_7 x_6).Data, (O.get (⟨0, (⟨#[]⟩ : ByteArray), 0, 0⟩ : GToken) b_7 x_6).From, (O.get (⟨0, (⟨#[]⟩ : ByteArray), 0, 0⟩ : GToken) b_7 x_6).Count⟩ : GToken)) x_6).From, (O.get (⟨0, (⟨#[]⟩ : ByteArray), 0, 0⟩ : GToken) (O.set b_7 x_6 (⟨x_5, (O.get (⟨0, (⟨#[]⟩ : ByteArray), 0, 0⟩ : GToken) b_7 x_6).Data, (O.get (⟨0, (⟨#[]⟩ : ByteArray), 0, 0⟩ : GToken) b_7 x_6).From, (O.get (⟨0, (⟨#[]⟩ : ByteArray), 0, 0⟩ : GToken) b_7 x_6).Count⟩ : GToken)) x_6).Count⟩ : GToken)) x_6).Data, (O.wrap .i64 (O.add (O.wrap .i64 (O.add x_5 1)) 1)), (O.get (⟨0, (⟨#[]⟩ : ByteArray), 0, 0⟩ : GToken) (O.set (O.set b_7 x_6 (⟨x_5, (O.get (⟨0, (⟨#[]⟩ : ByteArray), 0, 0⟩ : GToken) b_7 x_6).Data, (O.get (⟨0, (⟨#[]⟩ : ByteArray), 0, 0⟩ : GToken) b_7 x_6).From, (O.get (⟨0, (⟨#[]⟩ : ByteArray), 0, 0⟩ : GToken) b_7 x_6).Count⟩ : GToken)) x_6 (⟨(O.get (⟨0, (⟨#[]⟩ : ByteArray), 0, 0⟩ : GToken) (O.set b_7 x_6 (⟨x_5, (O.get (⟨0, (⟨#[]⟩ : ByteArray), 0, 0⟩ : GToken) b_7 x_6).Data, (O.get (⟨0, (⟨#[]⟩ : ByteArray), 0, 0⟩ : GToken) b_7 x_6).From, (O.get (⟨0, (⟨#[]⟩ : ByteArray), 0, 0⟩ : GToken) b_7 x_6).Count⟩ : GToken)) x_6).Kind, r8, (O.get (⟨0, (⟨#[]⟩ : ByteArray), 0, 0⟩ : GToken) (O.set b_7 x_6 (⟨x_5, (O.get (⟨0, (⟨#[]⟩ : ByteArray), 0, 0⟩ : GToken) b_7 x_6).Data, (O.get (⟨0, (⟨#[]⟩ : ByteArray), 0, 0⟩ : GToken) b_7 x_6).From, (O.get (⟨0, (⟨#[]⟩ : ByteArray), 0, 0⟩ : GToken) b_7 x_6).Count⟩ : GToken)) x_6).From, (O.get (⟨0, (⟨#[]⟩ : ByteArray), 0, 0⟩ : GToken) (O.set b_7 x_6 (⟨x_5, (O.get (⟨0, (⟨#[]⟩ : ByteArray), 0, 0⟩ : GToken) b_7 x_6).Data, (O.get (⟨0, (⟨#[]⟩ : ByteArray), 0, 0⟩ : GToken) b_7 x_6).From, (O.get (⟨0, (⟨#[]⟩ : ByteArray), 0, 0⟩ : GToken) b_7 x_6).Count⟩ : GToken)) x_6).Count⟩ : GToken)) x_6).Count⟩ : GToken)) x_6).Data, (O.get (⟨0, (⟨#[]⟩ : ByteArray), 0, 0⟩ : GToken) (O.set (O.set (O.set b_7 x_6 (⟨x_5, (O.get (⟨0, (⟨#[]⟩ : ByteArray), 0, 0⟩ : GToken) b_7 x_6).Data, (O.get (⟨0, (⟨#[]⟩ : ByteArray), 0, 0⟩ : GToken) b_7 x_6).From, (O.get (⟨0, (⟨#[]⟩ : ByteArray), 0, 0⟩ : GToken) b_7 x_6).Count⟩ : GToken)) x_6 (⟨(O.get (⟨0, (⟨#[]⟩ : ByteArray), 0, 0⟩ : GToken) (O.set b_7 x_6 (⟨x_5, (O.get (⟨0, (⟨#[]⟩ : ByteArray), 0, 0⟩ : GToken) b_7 x_6).Data, (O.get (⟨0, (⟨#[]⟩ : ByteArray), 0, 0⟩ : GToken) b_7 x_6).From, (O.get (⟨0, (⟨#[]⟩ : ByteArray), 0, 0⟩ : GToken) b_7 x_6).Count⟩ : GToken)) x_6).Kind, r8, (O.get (⟨0, (⟨#[]⟩ : ByteArray), 0, 0⟩ : GToken) (O.set b_7 x_6 (⟨x_5, (O.get (⟨0, (⟨#[]⟩ : ByteArray), 0, 0⟩ : GToken) b_7 x_6).Data, (O.get (⟨0, (⟨#[]⟩ : ByteArray), 0, 0⟩ : GToken) b_7 x_6).From, (O.get (⟨0, (⟨#[]⟩ : ByteArray), 0, 0⟩ : GToken) b_7 x_6).Count⟩ : GToken)) x_6).From, (O.get (⟨0, (⟨#[]⟩ : ByteArray), 0, 0⟩ : GToken) (O.set b_7 x_6 (⟨x_5, (O.get (⟨0, (⟨#[]⟩ : ByteArray), 0, 0⟩ : GToken) b_7 x_6).Data, (O.get (⟨0, (⟨#[]⟩ : ByteArray), 0, 0⟩ : GToken) b_7 x_6).From, (O.get (⟨0, (⟨#[]⟩ : ByteArray), 0, 0⟩ : GToken) b_7 x_6).Count⟩ : GToken)) x_6).Count⟩ : GToken)) x_6 (⟨(O.get (⟨0, (⟨#[]⟩ : ByteArray), 0, 0⟩ : GToken) (O.set (O.set b_7 x_6 (⟨x_5, (O.get (⟨0, (⟨#[]⟩ : ByteArray), 0, 0⟩ : GToken) b_7 x_6).Data, (O.get (⟨0, (⟨#[]⟩ : ByteArray), 0, 0⟩ : GToken) b_7 x_6).From, (O.get (⟨0, (⟨#[]⟩ : ByteArray), 0, 0⟩ : GToken) b_7 x_6).Count⟩ : GToken)) x_6 (⟨(O.get (⟨0, (⟨#[]⟩ : ByteArray), 0, 0⟩ : GToken) (O.set b_7 x_6 (⟨x_5, (O.get (⟨0, (⟨#[]⟩ : ByteArray), 0, 0⟩ : GToken) b_7 x_6).Data, (O.get (⟨0, (⟨#[]⟩ : ByteArray), 0, 0⟩ : GToken) b_7 x_6).From, (O.get (⟨0, (⟨#[]⟩ : ByteArray), 0, 0⟩ : GToken) b_7 x_6).Count⟩ : GToken)) x_6).Kind, r8, (O.get (⟨0, (⟨#[]⟩ : ByteArray), 0, 0⟩ : GToken) (O.set b_7 x_6 (⟨x_5, (O.get (⟨0, (⟨#[]⟩ : ByteArray), 0, 0⟩ : GToken) b_7 x_6).Data, (O.get (⟨0, (⟨#[]⟩ : ByteArray), 0, 0⟩ : GToken) b_7 x_6).From, (O.get (⟨0, (⟨#[]⟩ : ByteArray), 0, 0⟩ : GToken) b_7 x_6).Count⟩ : GToken)) x_6).From, (O.get (⟨0, (⟨#[]⟩ : ByteArray), 0, 0⟩ : GToken) (O.set b_7 x_6 (⟨x_5, (O.get (⟨0, (⟨#[]⟩ : ByteArray), 0, 0⟩ : GToken) b_7 x_6).Data, (O.get (⟨0, (⟨#[]⟩ : ByteArray), 0, 0⟩ : GToken) b_7 x_6).From, (O.get (⟨0, (⟨#[]⟩ : ByteArray), 0, 0⟩ : GToken) b_7 x_6).Count⟩ : GToken)) x_6).Count⟩ : GToken)) x_6).Kind, (O.get (⟨0, (⟨#[]⟩ : ByteArray), 0, 0⟩ : GToken) (O.set (O.set b_7 x_6 (⟨x_5, (O.get (⟨0, (⟨#[]⟩ : ByteArray), 0, 0⟩ : GToken) b_7 x_6).Data, (O.get (⟨0, (⟨#[]⟩ : ByteArray), 0, 0⟩ : GToken) b_7 x_6).From, (O.get (⟨0, (⟨#[]⟩ : ByteArray), 0, 0⟩ : GToken) b_7 x_6).Count⟩ : GToken)) x_6 (⟨(O.get (⟨0, (⟨#[]⟩ : ByteArray), 0, 0⟩ : GToken) (O.set b_7 x_6 (⟨x_5, (O.get (⟨0, (⟨#[]⟩ : ByteArray), 0, 0⟩ : GToken) b_7 x_6).Data, (O.get (⟨0, (⟨#[]⟩ : ByteArray), 0, 0⟩ : GToken) b_7 x_6).From, (O.get (⟨0, (⟨#[]⟩ : ByteArray), 0, 0⟩ : GToken) b_7 x_6).Count⟩ : GToken)) x_6).Kind, r8, (O.get (⟨0, (⟨#[]⟩ : ByteArray), 0, 0⟩ : GToken) (O.set b_7 x_6 (⟨x_5, (O.get (⟨0, (⟨#[]⟩ : ByteArray), 0, 0⟩ : GToken) b_7 x_6).Data, (O.get (⟨0, (⟨#[]⟩ : ByteArray), 0, 0⟩ : GToken) b_7 x_6).From, (O.get (⟨0, (⟨#[]⟩ : ByteArray), 0, 0⟩ : GToken) b_7 x_6).Count⟩ : GToken)) x_6).From, (O.get (⟨0, (⟨#[]⟩ : ByteArray), 0, 0⟩ : GToken) (O.set b_7 x_6 (⟨x_5, (O.get (⟨0, (⟨#[]⟩ : ByteArray), 0, 0⟩ : GToken) b_7 x_6).Data, (O.get (⟨0, (⟨#[]⟩ : ByteArray), 0, 0⟩ : GToken) b_7 x_6).From, (O.get (⟨0, (⟨#[]⟩ : ByteArray), 0, 0⟩ : GToken) b_7 x_6).Count⟩ : GToken)) x_6).Count⟩ : GToken)) x_6).Data, (O.wrap .i64 (O.add (O.wrap .i64 (O.add x_5 1)) 1)), (O.get (⟨0, (⟨#[]⟩ : ByteArray), 0, 0⟩ : GToken) (O.set (O.set b_7 x_6 (⟨x_5, (O.get (⟨0, (⟨#[]⟩ : ByteArray), 0, 0⟩ : GToken) b_7 x_6).Data, (O.get (⟨0, (⟨#[]⟩ : ByteArray), 0, 0⟩ : GToken) b_7 x_6).From, (O.get (⟨0, (⟨#[]⟩ : ByteArray), 0, 0⟩ : GToken) b_7 x_6).Count⟩ : GToken)) x_6 (⟨(O.get (⟨0, (⟨#[]⟩ : ByteArray), 0, 0⟩ : GToken) (O.set b_7 x_6 (⟨x_5, (O.get (⟨0, (⟨#[]⟩ : ByteArray), 0, 0⟩ : GToken) b_7 x_6).Data, (O.get (⟨0, (⟨#[]⟩ : ByteArray), 0, 0⟩ : GToken) b_7 x_6).From, (O.get (⟨0, (⟨#[]⟩ : ByteArray), 0, 0⟩ : GToken) b_7 x_6).Count⟩ : GToken)) x_6).Kind, r8, (O.get (⟨0, (⟨#[]⟩ : ByteArray), 0, 0⟩ : GToken) (O.set b_7 x_6 (⟨x_5, (O.get (⟨0, (⟨#[]⟩ : ByteArray), 0, 0⟩ : GToken) b_7 x_6).Data, (O.get (⟨0, (⟨#[]⟩ : ByteArray), 0, 0⟩ : GToken) b_7 x_6).From, (O.get (⟨0, (⟨#[]⟩ : ByteArray), 0, 0⟩ : GToken) b_7 x_6).Count⟩ : GToken)) x_6).From, (O.get (⟨0, (⟨#[]⟩ : ByteArray), 0, 0⟩ : GToken) (O.set b_7 x_6 (⟨x_5, (O.get (⟨0, (⟨#[]⟩ : ByteArray), 0, 0⟩ : GToken) b_7 x_6).Data, (O.get (⟨0, (⟨#[]⟩ : ByteArray), 0, 0⟩ : GToken) b_7 x_6).From, (O.get (⟨0, (⟨#[]⟩ : ByteArray), 0, 0⟩ : GToken) b_7 x_6).Count⟩ : GToken)) x_6).Count⟩ : GToken)) x_6).Count⟩ : GToken)) x_6).From, (O.wrap .i64 (O.add (O.wrap .i64 (O.add (O.wrap .i64 (O.add x_5 1)) 1)) 1))⟩ : GToken)))) (by subst hO; rfl) rfl
  · exact Le.ret2 (by subst hO; rfl)
/-! ### loop.example/g00100/laws.markMsg -/
def laws_markMsg.e (r : Int × GMsg) : Res tab := (([.lit (.int .i64 r.2.Kind), .lit (.int .i64 r.2.Place), .lit (.int .i64 r.2.Sig.Size), .lit (.int .i64 r.2.Sig.Rest), .own 59 r.2.Sig.Weak, .own 9 r.2.Sig.Strong, .own 64 r.2.Tokens, .lit (.string r.2.Sum)], []), .one (.lit (.int .i64 r.1)))
def laws_markMsg.f (k : Nat) (a0 : GMsg) (a1 : Int) : Option (Int × GMsg) := ((laws_markSig.f k a0.Sig a1).bind fun r0 => ((laws_markTokenS.f k a0.Tokens r0.1).bind fun r1 => (some (r1.1, (⟨a0.Kind, a0.Place, (⟨a0.Sig.Size, a0.Sig.Rest, r0.2.Weak, r0.2.Strong⟩ : GSig), r1.2, a0.Sum⟩ : GMsg)))))
theorem laws_markMsg.le (O : Prim) (hO : O = std) (k : Nat) (a0 : GMsg) (a1 : Int) : Le F O M fi10.kills laws_markMsg.e (laws_markMsg.f k a0 a1) (den O M fi10.kills fi10.fn fi10.body (tab.gives 10) (M 10) [.agg [.lit (.int .i64 a0.Kind), .lit (.int .i64 a0.Place), .lit (.int .i64 a0.Sig.Size), .lit (.int .i64 a0.Sig.Rest), .own 59 a0.Sig.Weak, .own 9 a0.Sig.Strong, .own 64 a0.Tokens, .lit (.string a0.Sum)], .one (.lit (.int .i64 a1))] : Tr tab) := by
  refine Le.eqS 0 (by conv => lhs; cbv) ?_
  unfold laws_markMsg.f
  refine Le.callC 0 (fi := fi24) rfl (laws_markSig.le O hO k a0.Sig a1) (by subst hO; rfl) (by intro r0; conv => lhs; cbv) ?_
  intro r0
  refine Le.callC 0 (fi := fi25) rfl (laws_markTokenS.le O hO k a0.Tokens r0.1) (by subst hO; rfl) (by intro r1; conv => lhs; cbv) ?_
  intro r1
  exact Le.ret2 (by subst hO; rfl)
/-! ### loop.example/g00100/laws.heldUint32S -/
def laws_heldUint32S.e (r : Int) : Res tab := (([], []), .one (.lit (.int .i64 r)))
def laws_heldUint32S.l0 : Nat → (List Int) → Int → Int → Option Int
  | 0, _, _, _ => none
  | k + 1, a0, x_2, x_3 => (if x_3 < (a0.length : Int) then (if 0 ≤ x_3 then (if x_3 < (a0.length : Int) then (if (a0.getD (Int.toNat x_3) 0) = (IntKind.wrap .u32 x_2) then (laws_heldUint32S.l0 k a0 (IntKind.wrap .i64 (x_2 + 1)) (IntKind.wrap .i64 (x_3 + 1))) else (some (-1))) else none) else none) else (some x_2))
def laws_heldUint32S.f (k : Nat) (a0 : List Int) (a1 : Int) : Option Int := (laws_heldUint32S.l0 k a0 a1 0)
theorem laws_heldUint32S.le (O : Prim) (hO : O = std) (k : Nat) (a0 : List Int) (a1 : Int) : Le F O M fi49.kills laws_heldUint32S.e (laws_heldUint32S.f k a0 a1) (den O M fi49.kills fi49.fn fi49.body (tab.gives 49) (M 49) [.one (.imm 59 a0), .one (.lit (.int .i64 a1))] : Tr tab) := by
  refine Le.eqS 0 (by conv => lhs; cbv) ?_
  unfold laws_heldUint32S.f
  refine Le.loopS (fun (n : Nat) (v : Int × Int) => laws_heldUint32S.l0 n a0 v.1 v.2) (fun (v : Int × Int) => match v with | (x_2, x_3) => (⟨[], [.one (.imm 59 a0), .one (.lit (.int .i64 x_2)), D_, D_, D_, .one (.lit (.int .i64 x_3)), D_, D_, D_, D_, D_, D_, D_, D_, D_, D_, D_, D_, D_, D_, D_, D_], [[], [], [], [], [], [], [], [], [], [], [], [], [], [], [], [], [], [], [], [], [], [], [], []], []⟩ : S tab)) k (a1, 0) (by subst hO; rfl) rfl (fun _ => rfl) ?_
  intro n0 hn0 ih0 v0
  obtain ⟨x_2, x_3⟩ := v0
  refine Le.eqS 0 (by conv => lhs; cbv) ?_
  show Le F O M _ _ (laws_heldUint32S.l0 (n0 + 1) a0 x_2 x_3) _
  rw [laws_heldUint32S.l0]
  refine Le.condP 0 0 (by subst hO; rfl) (by conv => lhs; cbv) (by conv => lhs; cbv) ?_ ?_
  · refine Le.guardP 0 (by subst hO; rfl) (by conv => lhs; cbv) ?_
    refine Le.guardP 0 (by subst hO; rfl) (by conv => lhs; cbv) ?_
    refine Le.condN 0 0 (by subst hO; exact (Bool.not_not _).symm) (by conv => lhs; cbv) (by conv => lhs; cbv) ?_ ?_
    · exact Le.ret2 (by subst hO; rfl)
    · exact Le.again (ih0 n0 (by omega) ((O.wrap .i64 (O.add x_2 1)), (O.wrap .i64 (O.add x_3 1)))) (by subst hO; rfl) rfl
  · exact Le.ret2 (by subst hO; rfl)
/-! ### loop.example/g00100/laws.heldStringS -/
def laws_heldStringS.e (r : Int) : Res tab := (([], []), .one (.lit (.int .i64 r)))
def laws_heldStringS.l0 : Nat → (List ByteArray) → Int → Int → Option Int
  | 0, _, _, _ => none
  | k + 1, a0, x_4, x_5 => (if x_5 < (a0.length : Int) then (if 0 ≤ x_5 then (if x_5 < (a0.length : Int) then ((laws_markText.f k x_4).bind fun r6 => (if (a0.getD (Int.toNat x_5) (⟨#[]⟩ : ByteArray)) = r6 then (laws_heldStringS.l0 k a0 (IntKind.wrap .i64 (x_4 + 1)) (IntKind.wrap .i64 (x_5 + 1))) else (some (-1)))) else none) else none) else (some x_4))
def laws_heldStringS.f (k : Nat) (a0 : List ByteArray) (a1 : Int) : Option Int := (laws_heldStringS.l0 k a0 a1 0)
theorem laws_heldStringS.le (O : Prim) (hO : O = std) (k : Nat) (a0 : List ByteArray) (a1 : Int) : Le F O M fi50.kills laws_heldStringS.e (laws_heldStringS.f k a0 a1) (den O M fi50.kills fi50.fn fi50.body (tab.gives 50) (M 50) [.one (.imm 9 a0), .one (.lit (.int .i64 a1))] : Tr tab) := by
  refine Le.eqS 0 (by conv => lhs; cbv) ?_
  unfold laws_heldStringS.f
  refine Le.loopS (fun (n : Nat) (v : Int × Int) => laws_heldStringS.l0 n a0 v.1 v.2) (fun (v : Int × Int) => match v with | (x_4, x_5) => (⟨[], [.one (.imm 9 a0), .one (.lit (.int .i64 x_4)), D_, D_, D_, .one (.lit (.int .i64 x_5)), D_, D_, D_, D_, D_, D_, D_, D_, D_, D_, D_, D_, D_, D_, D_, D_], [[], [], [], [], [], [], [], [], [], [], [], [], [], [], [], [], [], [], [], [], [], [], [], []], []⟩ : S tab)) k (a1, 0) (by subst hO; rfl) rfl (fun _ => rfl) ?_
  intro n0 hn0 ih0 v0
  obtain ⟨x_4, x_5⟩ := v0
  refine Le.eqS 0 (by conv => lhs; cbv) ?_
  show Le F O M _ _ (laws_heldStringS.l0 (n0 + 1) a0 x_4 x_5) _
  rw [laws_heldStringS.l0]
  refine Le.condP 0 0 (by subst hO; rfl) (by conv => lhs; cbv) (by conv => lhs; cbv) ?_ ?_
  · refine Le.guardP 0 (by subst hO; rfl) (by conv => lhs; cbv) ?_
    refine Le.guardP 0 (by subst hO; rfl) (by conv => lhs; cbv) ?_
    refine Le.callC 0 (fi := fi48) rfl (laws_markText.le O hO n0 x_4) (by subst hO; rfl) (by intro r6; conv => lhs; cbv) ?_
    intro r6
    refine Le.condN 0 0 (by subst hO; exact (seq_dec _ _).trans (Bool.not_not _).symm) (by conv => lhs; cbv) (by conv => lhs; cbv) ?_ ?_
    · exact Le.ret2 (by subst hO; rfl)
    · exact Le.again (ih0 n0 (by omega) ((O.wrap .i64 (O.add x_4 1)), (O.wrap .i64 (O.add x_5 1)))) (by subst hO; rfl) rfl
  · exact Le.ret2 (by subst hO; rfl)
/-! ### loop.example/g00100/laws.heldSig -/
def laws_heldSig.e (r : Int) : Res tab := (([], []), .one (.lit (.int .i64 r)))
def laws_heldSig.f (k : Nat) (a0 : GSig) (a1 : Int) : Option Int := ((laws_heldUint32S.f k a0.Weak a1).bind fun r0 => (if r0 < 0 then (some (-1)) else ((laws_heldStringS.f k a0.Strong r0).bind fun r1 => (if r1 < 0 then (some (-1)) else (some r1)))))
theorem laws_heldSig.le (O : Prim) (hO : O = std) (k : Nat) (a0 : GSig) (a1 : Int) : Le F O M fi26.kills laws_heldSig.e (laws_heldSig.f k a0 a1) (den O M fi26.kills fi26.fn fi26.body (tab.gives 26) (M 26) [.agg [.lit (.int .i64 a0.Size), .lit (.int .i64 a0.Rest), .imm 59 a0.Weak, .imm 9 a0.Strong], .one (.lit (.int .i64 a1))] : Tr tab) := by
  refine Le.eqS 0 (by conv => lhs; cbv) ?_
  unfold laws_heldSig.f
  refine Le.callC 0 (fi := fi49) rfl (laws_heldUint32S.le O hO k a0.Weak a1) (by subst hO; rfl) (by intro r0; conv => lhs; cbv) ?_
  intro r0
  refine Le.condP 0 0 (by subst hO; rfl) (by conv => lhs; cbv) (by conv => lhs; cbv) ?_ ?_
  · exact Le.ret2 (by subst hO; rfl)
  · refine Le.callC 0 (fi := fi50) rfl (laws_heldStringS.le O hO k a0.Strong r0) (by subst hO; rfl) (by intro r1; conv => lhs; cbv) ?_
    intro r1
    refine Le.condP 0 0 (by subst hO; rfl) (by conv => lhs; cbv) (by conv => lhs; cbv) ?_ ?_
    · exact Le.ret2 (by subst hO; rfl)
    · exact Le.ret2 (by subst hO; rfl)
/-! ### loop.example/g00100/laws.heldTokenS -/
def laws_heldTokenS.e (r : Int) : Res tab := (([], []), .one (.lit (.int .i64 r)))
def laws_heldTokenS.l0 : Nat → (List GToken) → Int → Int → Option Int
  | 0, _, _, _ => none
  | k + 1, a0, x_4, x_5 => (if x_5 < (a0.length : Int) then (if 0 ≤ x_5 then (if x_5 < (a0.length : Int) then (if (a0.getD (Int.toNat x_5) (⟨0, (⟨#[]⟩ : ByteArray), 0, 0⟩ : GToken)).Kind = x_4 then (if 0 ≤ x_5 then (if x_5 < (a0.length : Int) then ((laws_markText.f k (IntKind.wrap .i64 (x_4 + 1))).bind fun r6 => (if (a0.getD (Int.toNat x_5) (⟨0, (⟨#[]⟩ : ByteArray), 0, 0⟩ : GToken)).Data = r6 then (if 0 ≤ x_5 then (if x_5 < (a0.length : Int) then (if (a0.getD (Int.toNat x_5) (⟨0, (⟨#[]⟩ : ByteArray), 0, 0⟩ : GToken)).From = (IntKind.wrap .i64 ((IntKind.wrap .i64 (x_4 + 1)) + 1)) then (if 0 ≤ x_5 then (if x_5 < (a0.length : Int) then (if (a0.getD (Int.toNat x_5) (⟨0, (⟨#[]⟩ : ByteArray), 0, 0⟩ : GToken)).Count = (IntKind.wrap .i64 ((IntKind.wrap .i64 ((IntKind.wrap .i64 (x_4 + 1)) + 1)) + 1)) then (laws_heldTokenS.l0 k a0 (IntKind.wrap .i64 ((IntKind.wrap .i64 ((IntKind.wrap .i64 ((IntKind.wrap .i64 (x_4 + 1)) + 1)) + 1)) + 1)) (IntKind.wrap .i64 (x_5 + 1))) else (some (-1))) else none) else none) else (some (-1))) else none) else none) else (some (-1)))) else none) else none) else (some (-1))) else none) else none) else (some x_4))
def laws_heldTokenS.f (k : Nat) (a0 : List GToken) (a1 : Int) : Option Int := (laws_heldTokenS.l0 k a0 a1 0)
theorem laws_heldTokenS.le (O : Prim) (hO : O = std) (k : Nat) (a0 : List GToken) (a1 : Int) : Le F O M fi27.kills laws_heldTokenS.e (laws_heldTokenS.f k a0 a1) (den O M fi27.kills fi27.fn fi27.body (tab.gives 27) (M 27) [.one (.imm 64 a0), .one (.lit (.int .i64 a1))] : Tr tab) := by
  refine Le.eqS 0 (by conv => lhs; cbv) ?_
  unfold laws_heldTokenS.f
  refine Le.loopS (fun (n : Nat) (v : Int × Int) => laws_heldTokenS.l0 n a0 v.1 v.2) (fun (v : Int × Int) => match v with | (x_4, x_5) => (⟨[], [.one (.imm 64 a0), .one (.lit (.int .i64 x_4)), D_, D_, D_, .one (.lit (.int .i64 x_5)), D_, D_, D_, D_, D_, D_, D_, D_, D_, D_, D_, D_, D_, D_, D_, D_, D_, D_, D_, D_, D_, D_, D_, D_, D_, D_, D_, D_, D_, D_, D_, D_, D_, D_, D_, D_, D_, D_, D_, D_, D_, D_, D_, D_], [[], [], [], [], [], [], [], [], [], [], [], [], [], [], [], [], [], [], [], [], [], [], [], [], [], [], [], [], [], [], [], [], [], [], [], [], [], [], [], [], [], [], [], [], [], [], [], [], [], [], [], []], []⟩ : S tab)) k (a1, 0) (by subst hO; rfl) rfl (fun _ => rfl) ?_
  intro n0 hn0 ih0 v0
  obtain ⟨x_4, x_5⟩ := v0
  refine Le.eqS 0 (by conv => lhs; cbv) ?_
  show Le F O M _ _ (laws_heldTokenS.l0 (n0 + 1) a0 x_4 x_5) _
  rw [laws_heldTokenS.l0]
  refine Le.condP 0 0 (by subst hO; rfl) (by conv => lhs; cbv) (by conv => lhs; cbv) ?_ ?_
  · refine Le.guardP 0 (by subst hO; rfl) (by conv => lhs; cbv) ?_
    refine Le.guardP 0 (by subst hO; rfl) (by conv => lhs; cbv) ?_
    refine Le.condN 0 0 (by subst hO; exact (Bool.not_not _).symm) (by conv => lhs; cbv) (by conv => lhs; cbv) ?_ ?_
    · exact Le.ret2 (by subst hO; rfl)
    · refine Le.guardP 0 (by subst hO; rfl) (by conv => lhs; cbv) ?_
      refine Le.guardP 0 (by subst hO; rfl) (by conv => lhs; cbv) ?_
      refine Le.callC 0 (fi := fi48) rfl (laws_markText.le O hO n0 (O.wrap .i64 (O.add x_4 1))) (by subst hO; rfl) (by intro r6; conv => lhs; cbv) ?_
      intro r6
      refine Le.condN 0 0 (by subst hO; exact (seq_dec _ _).trans (Bool.not_not _).symm) (by conv => lhs; cbv) (by conv => lhs; cbv) ?_ ?_
      · exact Le.ret2 (by subst hO; rfl)
      · refine Le.guardP 0 (by subst hO; rfl) (by conv => lhs; cbv) ?_
        refine Le.guardP 0 (by subst hO; rfl) (by conv => lhs; cbv) ?_
        refine Le.condN 0 0 (by subst hO; exact (Bool.not_not _).symm) (by conv => lhs; cbv) (by conv => lhs; cbv) ?_ ?_
        · exact Le.ret2 (by subst hO; rfl)
        · refine Le.guardP 0 (by subst hO; rfl) (by conv => lhs; cbv) ?_
          refine Le.guardP 0 (by subst hO; rfl) (by conv => lhs; cbv) ?_
          refine Le.condN 0 0 (by subst hO; exact (Bool.not_not _).symm) (by conv => lhs; cbv) (by conv => lhs; cbv) ?_ ?_
          · exact Le.ret2 (by subst hO; rfl)
          · exact Le.again (ih0 n0 (by omega) ((O.wrap .i64 (O.add (O.wrap .i64 (O.add (O.wrap .i64 (O.add (O.wrap .i64 (O.add x_4 1)) 1)) 1)) 1)), (O.wrap .i64 (O.add x_5 1)))) (by subst hO; rfl) rfl
  · exact Le.ret2 (by subst hO; rfl)
/-! ### loop.example/g00100/laws.heldMsg -/
def laws_heldMsg.e (r : Int) : Res tab := (([], []), .one (.lit (.int .i64 r)))
def laws_heldMsg.f (k : Nat) (a0 : GMsg) (a1 : Int) : Option Int := ((laws_heldSig.f k a0.Sig a1).bind fun r0 => (if r0 < 0 then (some (-1)) else ((laws_heldTokenS.f k a0.Tokens r0).bind fun r1 => (if r1 < 0 then (some (-1)) else (some r1)))))
theorem laws_heldMsg.le (O : Prim) (hO : O = std) (k : Nat) (a0 : GMsg) (a1 : Int) : Le F O M fi11.kills laws_heldMsg.e (laws_heldMsg.f k a0 a1) (den O M fi11.kills fi11.fn fi11.body (tab.gives 11) (M 11) [.agg [.lit (.int .i64 a0.Kind), .lit (.int .i64 a0.Place), .lit (.int .i64 a0.Sig.Size), .lit (.int .i64 a0.Sig.Rest), .imm 59 a0.Sig.Weak, .imm 9 a0.Sig.Strong, .imm 64 a0.Tokens, .lit (.string a0.Sum)], .one (.lit (.int .i64 a1))] : Tr tab) := by
  refine Le.eqS 0 (by conv => lhs; cbv) ?_
  unfold laws_heldMsg.f
  refine Le.callC 0 (fi := fi26) rfl (laws_heldSig.le O hO k a0.Sig a1) (by subst hO; rfl) (by intro r0; conv => lhs; cbv) ?_
  intro r0
  refine Le.condP 0 0 (by subst hO; rfl) (by conv => lhs; cbv) (by conv => lhs; cbv) ?_ ?_
  · exact Le.ret2 (by subst hO; rfl)
  · refine Le.callC 0 (fi := fi27) rfl (laws_heldTokenS.le O hO k a0.Tokens r0) (by subst hO; rfl) (by intro r1; conv => lhs; cbv) ?_
    intro r1
    refine Le.condP 0 0 (by subst hO; rfl) (by conv => lhs; cbv) (by conv => lhs; cbv) ?_ ?_
    · exact Le.ret2 (by subst hO; rfl)
    · exact Le.ret2 (by subst hO; rfl)
/-! ### loop.example/g00100/laws.FnExactGetMsg -/
def laws_FnExactGetMsg.e (r : Bool) : Res tab := (([], []), .one (.lit (.bool r)))
def laws_FnExactGetMsg.f (k : Nat) (a0 : List Int) : Option Bool := (if 1048576 < (a0.length : Int) then (some true) else ((laws_toByteS.f k a0).bind fun r0 => ((spec_GetMsg.f k r0).bind fun r1 => ((laws_toByteS.f k a0).bind fun r2 => ((impl_GetMsg.f k r2).bind fun r3 => ((laws_eqMsg.f k r3.1 r1.1).bind fun r4 => (if r4 = true then (if (r3.2 == r1.2) = true then ((laws_toByteS.f k a0).bind fun r5 => ((laws_eqByteS.f k r2 r5).bind fun r6 => (if r6 = true then ((laws_markByteS.f k r2 1).bind fun r7 => (if r7.1 < 0 then (some false) else ((laws_eqMsg.f k r3.1 r1.1).bind fun r8 => (if r8 = true then (if (r3.2 == r1.2) = true then ((laws_markMsg.f k r3.1 1).bind fun r9 => ((laws_heldMsg.f k (⟨r3.1.Kind, r3.1.Place, (⟨r3.1.Sig.Size, r3.1.Sig.Rest, r9.2.Sig.Weak, r9.2.Sig.Strong⟩ : GSig), r9.2.Tokens, r3.1.Sum⟩ : GMsg) 1).bind fun r10 => (if r10 < 0 then (some false) else (if r10 = r9.1 then ((laws_toByteS.f k a0).bind fun r11 => ((impl_GetMsg.f k r11).bind fun r12 => ((laws_eqMsg.f k r12.1 r1.1).bind fun r13 => (if r13 = true then (if (r12.2 == r1.2) = true then ((laws_heldMsg.f k (⟨r3.1.Kind, r3.1.Place, (⟨r3.1.Sig.Size, r3.1.Sig.Rest, r9.2.Sig.Weak, r9.2.Sig.Strong⟩ : GSig), r9.2.Tokens, r3.1.Sum⟩ : GMsg) 1).bind fun r14 => (if r14 < 0 then (some false) else (if r14 = r9.1 then (some true) else (some false)))) else (some false)) else (some false))))) else (some false))))) else (some false)) else (some false))))) else (some false)))) else (some false)) else (some false))))))))
theorem laws_FnExactGetMsg.le (O : Prim) (hO : O = std) (k : Nat) (a0 : List Int) : Le F O M fi3.kills laws_FnExactGetMsg.e (laws_FnExactGetMsg.f k a0) (den O M fi3.kills fi3.fn fi3.body (tab.gives 3) (M 3) [.one (.imm 5 a0)] : Tr tab) := by
  refine Le.eqS 0 (by conv => lhs; cbv) ?_
  unfold laws_FnExactGetMsg.f
  refine Le.condP 0 0 (by subst hO; rfl) (by conv => lhs; cbv) (by conv => lhs; cbv) ?_ ?_
  · exact Le.ret2 (by subst hO; rfl)
  · refine Le.callC 0 (fi := fi5) rfl (laws_toByteS.le O hO k a0) (by subst hO; rfl) (by intro r0; conv => lhs; cbv) ?_
    intro r0
    refine Le.callC 0 (fi := fi4) rfl (spec_GetMsg.le O hO k r0) (by subst hO; rfl) (by intro r1; conv => lhs; cbv) ?_
    intro r1
    refine Le.callC 0 (fi := fi5) rfl (laws_toByteS.le O hO k a0) (by subst hO; rfl) (by intro r2; conv => lhs; cbv) ?_
    intro r2
    refine Le.callC 0 (fi := fi6) rfl (impl_GetMsg.le O hO k r2) (by subst hO; rfl) (by intro r3; conv => lhs; cbv) ?_
    intro r3
    refine Le.callC 0 (fi := fi7) rfl (laws_eqMsg.le O hO k r3.1 r1.1) (by subst hO; rfl) (by intro r4; conv => lhs; cbv) ?_
    intro r4
    refine Le.condN 4 3 (by subst hO; exact Bool.decide_eq_true.trans (Bool.not_not _).symm) (by conv => lhs; cbv) (by conv => lhs; cbv) ?_ ?_
    · exact Le.ret2 (by subst hO; rfl)
    · refine Le.condN 0 0 (by subst hO; exact Bool.decide_eq_true.trans (Bool.not_not _).symm) (by conv => lhs; cbv) (by conv => lhs; cbv) ?_ ?_
      · exact Le.ret2 (by subst hO; rfl)
      · refine Le.callC 0 (fi := fi5) rfl (laws_toByteS.le O hO k a0) (by subst hO; rfl) (by intro r5; conv => lhs; cbv) ?_
        intro r5
        refine Le.callC 0 (fi := fi8) rfl (laws_eqByteS.le O hO k r2 r5) (by subst hO; rfl) (by intro r6; conv => lhs; cbv) ?_
        intro r6
        refine Le.condN 0 0 (by subst hO; exact Bool.decide_eq_true.trans (Bool.not_not _).symm) (by conv => lhs; cbv) (by conv => lhs; cbv) ?_ ?_
        · exact Le.ret2 (by subst hO; rfl)
        · refine Le.callC 0 (fi := fi9) rfl (laws_markByteS.le O hO k r2 1) (by subst hO; rfl) (by intro r7; conv => lhs; cbv) ?_
          intro r7
          refine Le.condP 9 2 (by subst hO; rfl) (by conv => lhs; cbv) (by conv => lhs; cbv) ?_ ?_
          · exact Le.ret2 (by subst hO; rfl)
          · refine Le.callC 2 (fi := fi7) rfl (laws_eqMsg.le O hO k r3.1 r1.1) (by subst hO; rfl) (by intro r8; conv => lhs; cbv) ?_
            intro r8
            refine Le.condN 4 3 (by subst hO; exact Bool.decide_eq_true.trans (Bool.not_not _).symm) (by conv => lhs; cbv) (by conv => lhs; cbv) ?_ ?_
            · exact Le.ret2 (by subst hO; rfl)
            · refine Le.condN 0 0 (by subst hO; exact Bool.decide_eq_true.trans (Bool.not_not _).symm) (by conv => lhs; cbv) (by conv => lhs; cbv) ?_ ?_
              · exact Le.ret2 (by subst hO; rfl)
              · refine Le.callC 0 (fi := fi10) rfl (laws_markMsg.le O hO k r3.1 1) (by subst hO; rfl) (by intro r9; conv => lhs; cbv) ?_
                intro r9
                refine Le.callC 0 (fi := fi11) rfl (laws_heldMsg.le O hO k (⟨r3.1.Kind, r3.1.Place, (⟨r3.1.Sig.Size, r3.1.Sig.Rest, r9.2.Sig.Weak, r9.2.Sig.Strong⟩ : GSig), r9.2.Tokens, r3.1.Sum⟩ : GMsg) 1) (by subst hO; rfl) (by intro r10; conv => lhs; cbv) ?_
                intro r10
                refine Le.condP 0 0 (by subst hO; rfl) (by conv => lhs; cbv) (by conv => lhs; cbv) ?_ ?_
                · exact Le.ret2 (by subst hO; rfl)
                · refine Le.condN 0 0 (by subst hO; exact (Bool.not_not _).symm) (by conv => lhs; cbv) (by conv => lhs; cbv) ?_ ?_
                  · exact Le.ret2 (by subst hO; rfl)
                  · refine Le.callC 0 (fi := fi5) rfl (laws_toByteS.le O hO k a0) (by subst hO; rfl) (by intro r11; conv => lhs; cbv) ?_
                    intro r11
                    refine Le.callC 0 (fi := fi6) rfl (impl_GetMsg.le O hO k r11) (by subst hO; rfl) (by intro r12; conv => lhs; cbv) ?_
                    intro r12
                    refine Le.callC 0 (fi := fi7) rfl (laws_eqMsg.le O hO k r12.1 r1.1) (by subst hO; rfl) (by intro r13; conv => lhs; cbv) ?_
                    intro r13
                    refine Le.condN 4 3 (by subst hO; exact Bool.decide_eq_true.trans (Bool.not_not _).symm) (by conv => lhs; cbv) (by conv => lhs; cbv) ?_ ?_
                    · exact Le.ret2 (by subst hO; rfl)
                    · refine Le.condN 0 0 (by subst hO; exact Bool.decide_eq_true.trans (Bool.not_not _).symm) (by conv => lhs; cbv) (by conv => lhs; cbv) ?_ ?_
                      · exact Le.ret2 (by subst hO; rfl)
                      · refine Le.callC 0 (fi := fi11) rfl (laws_heldMsg.le O hO k (⟨r3.1.Kind, r3.1.Place, (⟨r3.1.Sig.Size, r3.1.Sig.Rest, r9.2.Sig.Weak, r9.2.Sig.Strong⟩ : GSig), r9.2.Tokens, r3.1.Sum⟩ : GMsg) 1) (by subst hO; rfl) (by intro r14; conv => lhs; cbv) ?_
                        intro r14
                        refine Le.condP 0 0 (by subst hO; rfl) (by conv => lhs; cbv) (by conv => lhs; cbv) ?_ ?_
                        · exact Le.ret2 (by subst hO; rfl)
                        · refine Le.condN 0 0 (by subst hO; exact (Bool.not_not _).symm) (by conv => lhs; cbv) (by conv => lhs; cbv) ?_ ?_
                          · exact Le.ret2 (by subst hO; rfl)
                          · exact Le.ret2 (by subst hO; rfl)
end Go.I
