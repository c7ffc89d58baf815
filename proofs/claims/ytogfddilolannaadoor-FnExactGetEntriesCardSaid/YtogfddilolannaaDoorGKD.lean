/- The functions that the law reaches, by name, and the law's call from its plain statement. No condition. -/
import Derived.Test.YtogfddilolannaaDoorKC
import Derived.Test.YtogfddilolannaaDoorKGITab
import Derived.Test.YtogfddilolannaaDoorXStrG
/-! GIStr -/
set_option linter.unusedVariables false
namespace Go.I
open Go.RowKit Go.Proofs.YtogfddilolannaaDoorW.PrintWords Go.Proofs.YtogfddilolannaaDoorW
def strings_Split.e (r : List ByteArray) : Res tab := (([], []), .one (.imm 9 r))
def strings_Split.con (xs : List (WT tab)) (r : Res tab) : Prop := ∃ (s t : ByteArray), ∃ b, xs = [.one (.lit (.string s)), .one (.lit (.string t))] ∧ strings_Split.f s t = some b ∧ r = strings_Split.e b
def strings_Contains.e (r : Bool) : Res tab := (([], []), .one (.lit (.bool r)))
def strings_Contains.con (xs : List (WT tab)) (r : Res tab) : Prop := ∃ (s t : ByteArray), ∃ b, xs = [.one (.lit (.string s)), .one (.lit (.string t))] ∧ strings_Contains.f s t = some b ∧ r = strings_Contains.e b
theorem strings_Split.ok     {M : FuncId → List Md} (hM : M 62 = []) {As : List (Arg tab)} {w : World} {ok0 : Nat → Prop} {r : Res tab} (hm : Modes (M 62) As) (hp : Pre w ok0 As) (hc : strings_Split.con (As.map (·.x)) r) : Calls Go.Proofs.Tryd.prog 62 (As.map (·.c)).toArray w fun
      | .returned v, w1 => ∃ E Os, Post (tab.gives 62) w ok0 As r v w1 E Os
      | _, _ => False := by
  have hv := modes_val hM hm
  obtain ⟨s, t, b, h1, h2, rfl⟩ := hc
  unfold strings_Split.f at h2
  split at h2
  case isFalse => cases h2
  rename_i hst
  injection h2 with h2
  rw [args2 h1 hp hv]
  refine (XStr.split_one s t w hst.1 hst.2).mono fun e w1 he => ?_
  obtain ⟨rfl, rfl⟩ := he
  rw [h2]
  have hb : Below w.heap.size w (w.alloc (.cells (b.map Value.string).toArray 9)) := (Below.refl _ _).alloc (Nat.le_refl _) _
  have hlen : b.length ≤ 4294967282 := by
    have := Lib.splitB_length_le t 0 (Lib.countB s t) s
    have h3 := Lib.countB_le t (by omega) s.size s (Nat.le_refl _)
    rw [← h2]
    omega
  have hq := qrow_new w 9 1 b.length (b.map Value.string) (by simp) (by unfold maxLen; omega)
  have ho := own_strs (B := tab) (e := 9) (l := (b : List ByteArray)) (cs := b.map Value.string) rfl hq (fun j x hx => ⟨.string x, by rw [List.getElem?_map]; exact congrArg (Option.map Value.string) hx, rfl, rfl⟩)
  refine ⟨[⟨.imm 9 b, _, none_⟩], [], post_imm hv hp rfl rfl (fun y hy => by rw [List.mem_singleton.1 hy]) (fun y hy => ?_) rfl hb⟩
  rw [List.mem_singleton.1 hy]
  exact .inr (.inl ⟨_, _, _, rfl, ho.toImm (fun k hk => by simp [Value.ownBlock] at hk; subst hk; exact ⟨by simp, .inr (Nat.le_refl _)⟩)⟩)
theorem strings_Contains.ok     {M : FuncId → List Md} (hM : M 71 = []) {As : List (Arg tab)} {w : World} {ok0 : Nat → Prop} {r : Res tab} (hm : Modes (M 71) As) (hp : Pre w ok0 As) (hc : strings_Contains.con (As.map (·.x)) r) : Calls Go.Proofs.Tryd.prog 71 (As.map (·.c)).toArray w fun
      | .returned v, w1 => ∃ E Os, Post (tab.gives 71) w ok0 As r v w1 E Os
      | _, _ => False := by
  have hv := modes_val hM hm
  obtain ⟨s, t, b, h1, h2, rfl⟩ := hc
  unfold strings_Contains.f at h2
  split at h2
  case isFalse => cases h2
  rename_i ht
  injection h2 with h2
  rw [args2 h1 hp hv]
  refine (XStr.contains_one s t w ht).mono fun e w1 he => ?_
  obtain ⟨rfl, rfl⟩ := he
  rw [h2]
  exact ⟨_, [], post_one hv hp rfl (Below.refl _ _)⟩
end Go.I

/-! GIRa -/
set_option linter.unusedVariables false
set_option linter.unusedSimpArgs false
set_option maxRecDepth 100000
set_option maxHeartbeats 4000000
namespace Go.I
open Go
def M : FuncId → List Md
  | 17 => [.own, .val]
  | 18 => [.own, .val]
  | 39 => [.ptr 2]
  | 40 => [.ptr 2]
  | 41 => [.ptr 2]
  | 42 => [.ptr 2, .val]
  | 47 => [.ptr 3, .val]
  | 56 => [.ptr 2, .val]
  | 57 => [.ptr 2]
  | 58 => [.ptr 2]
  | 63 => [.ptr 2]
  | 64 => [.ptr 2]
  | 65 => [.ptr 2]
  | 78 => [.ptr 2, .val]
  | 79 => [.ptr 2]
  | 83 => [.ptr 3, .val]
  | 84 => [.ptr 3, .val]
  | 86 => [.ptr 3]
  | 89 => [.ptr 3, .val]
  | 96 => [.ptr 2]
  | 105 => [.ptr 2, .val]
  | 109 => [.ptr 2, .val]
  | 110 => [.ptr 3]
  | 111 => [.ptr 3, .val]
  | 112 => [.ptr 3, .val]
  | 113 => [.ptr 3, .val]
  | 124 => [.ptr 2, .val]
  | 174 => [.ptr 4]
  | 175 => [.ptr 4]
  | 176 => [.ptr 1]
  | 177 => [.ptr 1]
  | 178 => [.ptr 11]
  | 181 => [.ptr 2]
  | 183 => [.ptr 3]
  | 184 => [.ptr 1]
  | _ => []
def kl4 : KL := ⟨fun _ => [], fun _ => .no, fun _ => [], false, fun _ => []⟩
noncomputable def fi4 : Fi tab := ⟨Go.Proofs.Tryd.f4, Go.Proofs.Tryd.f4.body.getD .skip, kl4, fun _ _ => False⟩
def kl13 : KL := ⟨fun n => match n with
  | 0 => [2, 5, 6, 7, 8, 9, 10, 11, 12, 13, 14, 15, 16, 17, 18, 19, 20]
  | _ => [], fun _ => .no, fun _ => [], false, fun _ => []⟩
noncomputable def fi13 : Fi tab := ⟨Go.Proofs.Tryd.f13, Go.Proofs.Tryd.f13.body.getD .skip, kl13, fun _ _ => False⟩
def kl12 : KL := ⟨fun n => match n with
  | 0 => [2, 3, 9, 10, 11, 12, 13, 14, 15, 16, 17, 18, 19, 20, 22, 23, 24, 25, 26, 27, 28, 29, 30, 31, 32, 33, 34, 35, 36, 37, 38, 39, 40, 41, 42, 43, 44, 45, 47, 48, 49, 50, 51, 52, 53, 54, 55, 56, 57, 58, 59, 60, 61, 62, 63, 64, 65, 66, 67, 68, 69, 70, 71, 72, 73, 74, 75, 76, 77, 78, 79, 80, 81, 82, 83, 84, 85, 86, 87, 88, 89, 1000012]
  | _ => [], fun n => match n with
  | 15 => .op 1 (.op 3 (.op 5 (.op 7 (.op 9 (.op 11 (.op 13 (.op 15 (.op 17 (.op 19 (.op 21 (.op 23 (.op 24 (.nil)))))))))))))
  | 28 => .op 1 (.op 3 (.op 5 (.op 7 (.op 9 (.op 11 (.op 13 (.op 15 (.op 17 (.op 19 (.op 21 (.op 23 (.op 25 (.op 27 (.op 33 (.op 35 (.op 28 (.op 31 (.op 37 (.op 39 (.op 41 (.op 43 (.op 44 (.op 47 (.op 49 (.nil)))))))))))))))))))))))))
  | _ => .no, fun _ => [], true, fun _ => []⟩
noncomputable def fi12 : Fi tab := ⟨Go.Proofs.Tryd.f12, Go.Proofs.Tryd.f12.body.getD .skip, kl12, fun _ _ => False⟩
def kl39 : KL := ⟨fun _ => [], fun _ => .no, fun _ => [], false, fun _ => []⟩
noncomputable def fi39 : Fi tab := ⟨Go.Proofs.Tryd.f39, Go.Proofs.Tryd.f39.body.getD .skip, kl39, fun _ _ => False⟩
def kl75 : KL := ⟨fun n => match n with
  | 0 => [2, 3, 7, 8, 9, 10, 11, 12, 13, 14, 15, 16, 17, 18, 19, 20, 21, 22, 23]
  | 4 => [7, 8, 9, 10, 11, 12, 13, 14, 15, 16, 17, 18, 19, 20, 21, 24, 25, 26, 27, 28, 29, 30, 31, 32, 33, 34, 35, 36, 37, 38, 39, 40, 41, 42, 43, 44, 45]
  | _ => [], fun _ => .no, fun _ => [], false, fun _ => []⟩
noncomputable def fi75 : Fi tab := ⟨Go.Proofs.Tryd.f75, Go.Proofs.Tryd.f75.body.getD .skip, kl75, fun _ _ => False⟩
def kl51 : KL := ⟨fun n => match n with
  | 0 => [2, 4, 5, 6, 8, 9, 10, 11, 12, 13, 14, 15, 16, 17, 18]
  | _ => [], fun _ => .no, fun _ => [], false, fun _ => []⟩
noncomputable def fi51 : Fi tab := ⟨Go.Proofs.Tryd.f51, Go.Proofs.Tryd.f51.body.getD .skip, kl51, fun _ _ => False⟩
def kl40 : KL := ⟨fun _ => [], fun _ => .no, fun _ => [], false, fun _ => []⟩
noncomputable def fi40 : Fi tab := ⟨Go.Proofs.Tryd.f40, Go.Proofs.Tryd.f40.body.getD .skip, kl40, fun _ _ => False⟩
def kl76 : KL := ⟨fun _ => [], fun _ => .no, fun _ => [], false, fun _ => []⟩
noncomputable def fi76 : Fi tab := ⟨Go.Proofs.Tryd.f76, Go.Proofs.Tryd.f76.body.getD .skip, kl76, fun _ _ => False⟩
def kl25 : KL := ⟨fun n => match n with
  | 0 => [2, 6, 7, 8, 9, 10, 12, 13, 14, 15, 16, 17, 18, 19, 20, 21, 22, 23, 24, 25, 26, 27, 28, 29, 30, 31, 32, 33, 34, 35, 36, 37, 38, 39, 40, 41, 42, 43, 44, 45, 46, 47, 48, 49, 50, 51, 52, 53, 54, 55, 56, 57, 58, 59, 60, 61, 62, 63, 64, 65, 66, 67, 68, 69, 70, 71, 72, 73, 74, 75, 76, 77, 78, 79, 80, 81, 82, 83, 84, 85, 86, 87, 88, 89, 90, 91, 92, 93, 94, 95, 96, 97, 98, 99, 100, 1000006]
  | _ => [], fun _ => .no, fun _ => [], true, fun _ => []⟩
noncomputable def fi25 : Fi tab := ⟨Go.Proofs.Tryd.f25, Go.Proofs.Tryd.f25.body.getD .skip, kl25, fun _ _ => False⟩
def kl50 : KL := ⟨fun n => match n with
  | 0 => [2, 4, 5, 6, 7, 8, 9, 10, 11, 12, 13, 14, 15, 16, 17, 18, 19, 20, 21, 22, 23, 24, 25, 26, 27, 28, 29, 30, 31, 32, 33, 34, 35, 36, 37, 38, 39, 40, 41, 42, 43, 44, 45, 46, 47, 48, 49, 50, 51, 52, 53, 54, 55, 56, 57, 58, 59, 60, 61, 62, 63, 64, 65, 1000004, 1000005]
  | _ => [], fun n => match n with
  | 8 => .op 1 (.op 2 (.op 5 (.op 7 (.op 9 (.op 11 (.op 12 (.op 15 (.op 17 (.op 19 (.op 21 (.op 23 (.op 25 (.op 27 (.op 29 (.op 31 (.op 33 (.op 35 (.op 37 (.op 39 (.op 41 (.op 43 (.op 45 (.op 47 (.op 49 (.op 51 (.op 53 (.op 55 (.op 57 (.op 59 (.op 61 (.op 63 (.op 65 (.nil)))))))))))))))))))))))))))))))))
  | _ => .no, fun _ => [], false, fun _ => []⟩
noncomputable def fi50 : Fi tab := ⟨Go.Proofs.Tryd.f50, Go.Proofs.Tryd.f50.body.getD .skip, kl50, fun _ _ => False⟩
def kl34 : KL := ⟨fun n => match n with
  | 2 => [0, 2, 4, 5, 6, 7, 8, 9, 10, 11, 12, 13, 14, 15, 16, 17, 18, 19, 20, 21, 22, 23, 37, 38, 53, 54, 55, 56, 57, 58, 59, 60, 61, 62, 63, 64, 65, 66, 67, 68, 69, 70, 71, 72, 73, 74, 75, 76, 77, 78, 79, 80, 81, 82, 83, 84, 85, 86]
  | _ => [], fun _ => .no, fun _ => [], false, fun _ => []⟩
noncomputable def fi34 : Fi tab := ⟨Go.Proofs.Tryd.f34, Go.Proofs.Tryd.f34.body.getD .skip, kl34, fun _ _ => False⟩
def kl66 : KL := ⟨fun n => match n with
  | 0 => [0, 2, 5, 6, 7, 8, 9, 10, 11, 12, 13, 14, 15, 16, 17, 18, 19, 20, 21]
  | _ => [], fun _ => .no, fun _ => [], false, fun _ => []⟩
noncomputable def fi66 : Fi tab := ⟨Go.Proofs.Tryd.f66, Go.Proofs.Tryd.f66.body.getD .skip, kl66, fun _ _ => False⟩
def kl101 : KL := ⟨fun n => match n with
  | 0 => [2, 6, 7, 8, 9, 10, 11, 12, 13, 14, 15, 16, 17, 18, 19, 20, 21, 22, 23, 24, 25]
  | _ => [], fun _ => .no, fun _ => [], false, fun _ => []⟩
noncomputable def fi101 : Fi tab := ⟨Go.Proofs.Tryd.f101, Go.Proofs.Tryd.f101.body.getD .skip, kl101, fun _ _ => False⟩
def kl102 : KL := ⟨fun n => match n with
  | 0 => [2, 4, 5, 6, 7, 8, 9, 10, 11, 12, 13, 14, 15, 16, 17, 18, 19, 20, 21, 22, 23, 24, 25, 26, 27, 28, 29, 30, 31, 32, 33, 34, 35, 36, 37, 38, 39, 40, 41, 42, 43, 44, 45, 46, 47, 48, 49, 50, 51, 52, 53, 54, 55, 56, 57]
  | _ => [], fun _ => .no, fun _ => [], false, fun _ => []⟩
noncomputable def fi102 : Fi tab := ⟨Go.Proofs.Tryd.f102, Go.Proofs.Tryd.f102.body.getD .skip, kl102, fun _ _ => False⟩
def kl67 : KL := ⟨fun _ => [], fun _ => .no, fun _ => [], false, fun _ => []⟩
noncomputable def fi67 : Fi tab := ⟨Go.Proofs.Tryd.f67, Go.Proofs.Tryd.f67.body.getD .skip, kl67, fun _ _ => False⟩
def kl52 : KL := ⟨fun n => match n with
  | 0 => [4, 6, 7, 8, 9, 10, 11, 12, 13, 14, 15, 16, 17, 18, 19, 20, 21, 22, 23, 24, 25, 26]
  | _ => [], fun n => match n with
  | 2 => .op 1 (.op 3 (.op 5 (.op 7 (.op 9 (.op 11 (.op 13 (.op 15 (.op 17 (.op 19 (.op 21 (.op 23 (.op 25 (.op 27 (.op 29 (.op 31 (.op 33 (.op 35 (.nil))))))))))))))))))
  | _ => .no, fun _ => [], false, fun _ => []⟩
noncomputable def fi52 : Fi tab := ⟨Go.Proofs.Tryd.f52, Go.Proofs.Tryd.f52.body.getD .skip, kl52, fun _ _ => False⟩
def kl53 : KL := ⟨fun _ => [], fun _ => .no, fun _ => [], false, fun _ => []⟩
noncomputable def fi53 : Fi tab := ⟨Go.Proofs.Tryd.f53, Go.Proofs.Tryd.f53.body.getD .skip, kl53, fun _ _ => False⟩
def kl14 : KL := ⟨fun n => match n with
  | 0 => [2, 3, 9, 10, 11, 12, 13, 14, 15, 16, 17, 18, 19, 20, 21, 22, 23, 24, 25, 26, 27, 28, 29, 30, 31, 32, 33, 34, 35, 36, 37, 38]
  | _ => [], fun n => match n with
  | 10 => .op 1 (.op 3 (.op 5 (.op 7 (.op 9 (.op 11 (.op 12 (.op 15 (.op 17 (.op 19 (.op 21 (.op 25 (.op 27 (.op 22 (.op 29 (.nil)))))))))))))))
  | _ => .no, fun _ => [], false, fun _ => []⟩
noncomputable def fi14 : Fi tab := ⟨Go.Proofs.Tryd.f14, Go.Proofs.Tryd.f14.body.getD .skip, kl14, fun _ _ => False⟩
def kl41 : KL := ⟨fun _ => [], fun _ => .no, fun _ => [], false, fun _ => []⟩
noncomputable def fi41 : Fi tab := ⟨Go.Proofs.Tryd.f41, Go.Proofs.Tryd.f41.body.getD .skip, kl41, fun _ _ => False⟩
def kl77 : KL := ⟨fun n => match n with
  | 0 => [2, 3, 6, 7, 8, 9, 10, 11, 12, 13, 14, 15, 16, 17, 18, 19, 20, 21, 22, 23, 24, 25, 26, 27, 28, 29]
  | _ => [], fun _ => .no, fun _ => [], false, fun _ => []⟩
noncomputable def fi77 : Fi tab := ⟨Go.Proofs.Tryd.f77, Go.Proofs.Tryd.f77.body.getD .skip, kl77, fun _ _ => False⟩
def kl78 : KL := ⟨fun _ => [], fun _ => .no, fun _ => [], false, fun _ => []⟩
noncomputable def fi78 : Fi tab := ⟨Go.Proofs.Tryd.f78, Go.Proofs.Tryd.f78.body.getD .skip, kl78, fun _ _ => False⟩
def kl42 : KL := ⟨fun _ => [], fun n => match n with
  | 6 => .op 1 (.op 3 (.op 5 (.op 7 (.op 9 (.op 11 (.op 13 (.op 17 (.op 19 (.op 21 (.op 23 (.alt (.op 14 (.op 25 (.op 26 (.nil)))) (.op 26 (.op 14 (.op 25 (.nil)))))))))))))))
  | _ => .no, fun n => match n with
  | 6 => [129]
  | _ => [], false, fun _ => []⟩
noncomputable def fi42 : Fi tab := ⟨Go.Proofs.Tryd.f42, Go.Proofs.Tryd.f42.body.getD .skip, kl42, fun _ _ => False⟩
def kl79 : KL := ⟨fun _ => [], fun _ => .no, fun _ => [], false, fun _ => []⟩
noncomputable def fi79 : Fi tab := ⟨Go.Proofs.Tryd.f79, Go.Proofs.Tryd.f79.body.getD .skip, kl79, fun _ _ => False⟩
def kl108 : KL := ⟨fun _ => [], fun _ => .no, fun _ => [], false, fun _ => []⟩
noncomputable def fi108 : Fi tab := ⟨Go.Proofs.Tryd.f108, Go.Proofs.Tryd.f108.body.getD .skip, kl108, fun _ _ => False⟩
def kl24 : KL := ⟨fun n => match n with
  | 0 => [2, 3, 4, 5, 6, 7, 11, 12, 13, 14, 15, 16, 17, 18, 19, 20, 21, 22, 23, 24, 25, 26, 27, 28, 29, 30, 31, 32, 33, 1000004]
  | _ => [], fun n => match n with
  | 6 => .op 1 (.op 2 (.op 5 (.op 7 (.op 9 (.op 11 (.op 13 (.op 15 (.op 17 (.op 19 (.op 21 (.op 23 (.op 25 (.op 27 (.op 29 (.op 31 (.op 33 (.nil)))))))))))))))))
  | _ => .no, fun _ => [], false, fun _ => []⟩
noncomputable def fi24 : Fi tab := ⟨Go.Proofs.Tryd.f24, Go.Proofs.Tryd.f24.body.getD .skip, kl24, fun _ _ => False⟩
def kl49 : KL := ⟨fun _ => [], fun _ => .no, fun _ => [], false, fun _ => []⟩
noncomputable def fi49 : Fi tab := ⟨Go.Proofs.Tryd.f49, Go.Proofs.Tryd.f49.body.getD .skip, kl49, fun _ _ => False⟩
def kl37 : KL := ⟨fun _ => [], fun _ => .no, fun _ => [], false, fun _ => []⟩
noncomputable def fi37 : Fi tab := ⟨Go.Proofs.Tryd.f37, Go.Proofs.Tryd.f37.body.getD .skip, kl37, fun _ _ => False⟩
def kl69 : KL := ⟨fun _ => [], fun _ => .no, fun _ => [], false, fun _ => []⟩
noncomputable def fi69 : Fi tab := ⟨Go.Proofs.Tryd.f69, Go.Proofs.Tryd.f69.body.getD .skip, kl69, fun _ _ => False⟩
def kl103 : KL := ⟨fun n => match n with
  | 0 => [0, 2, 5, 6, 7, 8, 9, 10, 11, 12, 13, 17, 18, 19, 20, 21, 22, 23]
  | _ => [], fun _ => .no, fun _ => [], true, fun _ => []⟩
noncomputable def fi103 : Fi tab := ⟨Go.Proofs.Tryd.f103, Go.Proofs.Tryd.f103.body.getD .skip, kl103, fun _ _ => False⟩
noncomputable def fi62 : Fi tab := ⟨Go.Proofs.Tryd.f62, Go.Proofs.Tryd.f62.body.getD .skip, ⟨fun _ => [], fun _ => .no, fun _ => [], false, fun _ => []⟩, strings_Split.con⟩
def kl122 : KL := ⟨fun n => match n with
  | 0 => [2, 3, 4, 5, 8, 9, 10, 11, 12, 13, 14, 15, 16, 17, 18, 19, 20, 21, 22, 23, 24, 25, 26, 27, 28, 29, 30, 31, 32, 33, 34, 35, 36, 37, 38, 39, 40, 41, 42, 43, 44, 45, 46, 47, 48]
  | _ => [], fun _ => .no, fun _ => [], false, fun _ => []⟩
noncomputable def fi122 : Fi tab := ⟨Go.Proofs.Tryd.f122, Go.Proofs.Tryd.f122.body.getD .skip, kl122, fun _ _ => False⟩
def kl70 : KL := ⟨fun _ => [], fun _ => .no, fun _ => [], false, fun _ => []⟩
noncomputable def fi70 : Fi tab := ⟨Go.Proofs.Tryd.f70, Go.Proofs.Tryd.f70.body.getD .skip, kl70, fun _ _ => False⟩
noncomputable def fi71 : Fi tab := ⟨Go.Proofs.Tryd.f71, Go.Proofs.Tryd.f71.body.getD .skip, ⟨fun _ => [], fun _ => .no, fun _ => [], false, fun _ => []⟩, strings_Contains.con⟩
def kl43 : KL := ⟨fun n => match n with
  | 0 => [0, 2, 5, 6, 7, 8, 9, 10, 11, 12, 16, 17, 18, 19, 20, 21, 22, 23, 24, 25, 26, 27, 28, 29, 30, 31, 32, 33, 34, 35, 36, 37, 38, 39, 40, 41, 42, 43, 44, 45, 46, 47, 48, 49, 50, 51, 52, 53, 54, 55, 56, 57, 58, 59, 60, 61, 62, 63, 64, 65, 66, 67, 68, 69, 70, 71, 72, 73, 74, 75, 76, 77, 78, 79, 80, 81, 82, 83, 84, 85, 86, 1000006]
  | _ => [], fun n => match n with
  | 8 => .op 1 (.op 5 (.op 7 (.op 9 (.op 11 (.op 2 (.op 12 (.op 15 (.nil))))))))
  | 11 => .op 1 (.op 3 (.op 7 (.op 9 (.op 15 (.op 17 (.op 4 (.op 10 (.op 13 (.op 18 (.op 21 (.nil)))))))))))
  | 14 => .op 1 (.op 3 (.op 7 (.op 9 (.op 4 (.op 10 (.op 13 (.nil)))))))
  | _ => .no, fun _ => [], false, fun _ => []⟩
noncomputable def fi43 : Fi tab := ⟨Go.Proofs.Tryd.f43, Go.Proofs.Tryd.f43.body.getD .skip, kl43, fun _ _ => False⟩
def kl80 : KL := ⟨fun n => match n with
  | 0 => [2, 4, 5, 6, 7, 8, 9, 10, 11, 12]
  | _ => [], fun _ => .no, fun _ => [], false, fun _ => []⟩
noncomputable def fi80 : Fi tab := ⟨Go.Proofs.Tryd.f80, Go.Proofs.Tryd.f80.body.getD .skip, kl80, fun _ _ => False⟩
def kl81 : KL := ⟨fun n => match n with
  | 0 => [4, 6, 7, 8, 9, 10, 11, 12, 13, 14, 15, 16, 17, 18, 19, 20, 21, 22, 23, 24, 25, 26]
  | _ => [], fun n => match n with
  | 2 => .op 1 (.op 3 (.op 5 (.op 7 (.op 9 (.op 11 (.op 13 (.op 15 (.op 17 (.op 19 (.op 21 (.op 23 (.op 25 (.op 27 (.op 29 (.op 31 (.op 33 (.op 35 (.nil))))))))))))))))))
  | _ => .no, fun _ => [], false, fun _ => []⟩
noncomputable def fi81 : Fi tab := ⟨Go.Proofs.Tryd.f81, Go.Proofs.Tryd.f81.body.getD .skip, kl81, fun _ _ => False⟩
def kl82 : KL := ⟨fun _ => [], fun _ => .no, fun _ => [], false, fun _ => []⟩
noncomputable def fi82 : Fi tab := ⟨Go.Proofs.Tryd.f82, Go.Proofs.Tryd.f82.body.getD .skip, kl82, fun _ _ => False⟩
def kl15 : KL := ⟨fun n => match n with
  | 0 => [4, 6, 7, 8, 9, 10, 11, 12, 13, 14, 15, 16, 17, 18, 19, 20, 21, 22, 23, 24, 25, 26]
  | _ => [], fun n => match n with
  | 6 => .op 1 (.op 3 (.op 5 (.op 7 (.op 9 (.op 11 (.op 13 (.op 15 (.op 16 (.nil)))))))))
  | _ => .no, fun _ => [], false, fun _ => []⟩
noncomputable def fi15 : Fi tab := ⟨Go.Proofs.Tryd.f15, Go.Proofs.Tryd.f15.body.getD .skip, kl15, fun _ _ => False⟩
def kl44 : KL := ⟨fun _ => [], fun _ => .no, fun _ => [], false, fun _ => []⟩
noncomputable def fi44 : Fi tab := ⟨Go.Proofs.Tryd.f44, Go.Proofs.Tryd.f44.body.getD .skip, kl44, fun _ _ => False⟩
def kl16 : KL := ⟨fun n => match n with
  | 0 => [4, 6, 7, 8, 9, 10, 11, 12, 13, 14, 15, 16, 17, 18, 19, 20, 21, 22, 23, 24, 25]
  | _ => [], fun n => match n with
  | 6 => .op 1 (.op 3 (.op 5 (.op 7 (.op 9 (.op 11 (.op 13 (.op 15 (.nil))))))))
  | _ => .no, fun _ => [], false, fun _ => []⟩
noncomputable def fi16 : Fi tab := ⟨Go.Proofs.Tryd.f16, Go.Proofs.Tryd.f16.body.getD .skip, kl16, fun _ _ => False⟩
def kl17 : KL := ⟨fun n => match n with
  | 0 => [4, 6, 7, 8, 9, 10, 11, 12, 13, 14, 15, 16, 17, 18]
  | _ => [], fun _ => .no, fun _ => [], false, fun _ => []⟩
noncomputable def fi17 : Fi tab := ⟨Go.Proofs.Tryd.f17, Go.Proofs.Tryd.f17.body.getD .skip, kl17, fun _ _ => False⟩
def kl18 : KL := ⟨fun n => match n with
  | 0 => [4, 6, 7, 8, 9, 10, 11, 12, 13, 14, 15, 16, 17, 18, 19, 20, 21, 22, 23, 24, 25, 26, 27, 28, 29, 30, 31, 32, 33, 34, 35, 36, 37, 38, 39, 40, 41, 42, 43, 44, 45, 46, 47, 48, 49, 50, 51, 52, 53, 54, 55, 56, 57, 58, 59, 60, 61, 62]
  | _ => [], fun _ => .no, fun _ => [], false, fun _ => []⟩
noncomputable def fi18 : Fi tab := ⟨Go.Proofs.Tryd.f18, Go.Proofs.Tryd.f18.body.getD .skip, kl18, fun _ _ => False⟩
def kl45 : KL := ⟨fun n => match n with
  | 0 => [2, 4, 5, 6, 7, 8, 9, 10, 11, 12, 13, 14, 15, 16, 17]
  | _ => [], fun _ => .no, fun _ => [], false, fun _ => []⟩
noncomputable def fi45 : Fi tab := ⟨Go.Proofs.Tryd.f45, Go.Proofs.Tryd.f45.body.getD .skip, kl45, fun _ _ => False⟩
def kl19 : KL := ⟨fun n => match n with
  | 0 => [4, 6, 7, 8, 9, 10, 11, 12, 13, 14, 15, 16, 17, 18, 19, 20, 21, 22, 23, 24, 25, 26, 27, 28, 29, 30, 31, 32, 33, 34, 35, 36, 37, 38, 39, 40, 41, 42, 43, 44, 45, 46, 47, 48, 49, 50, 51, 52, 53, 54, 55, 56, 57, 58, 59, 60, 61, 62, 63, 64, 65, 66, 67, 68, 69, 70, 71, 72, 73, 74, 75, 76]
  | _ => [], fun n => match n with
  | 4 => .op 1 (.op 3 (.op 5 (.op 7 (.op 9 (.op 11 (.op 12 (.nil)))))))
  | 19 => .op 1 (.op 3 (.op 5 (.op 7 (.op 9 (.op 11 (.op 12 (.nil)))))))
  | _ => .no, fun _ => [], false, fun _ => []⟩
noncomputable def fi19 : Fi tab := ⟨Go.Proofs.Tryd.f19, Go.Proofs.Tryd.f19.body.getD .skip, kl19, fun _ _ => False⟩
noncomputable def F : FuncId → Option (Fi tab)
  | 4 => some fi4
  | 12 => some fi12
  | 13 => some fi13
  | 14 => some fi14
  | 15 => some fi15
  | 16 => some fi16
  | 17 => some fi17
  | 18 => some fi18
  | 19 => some fi19
  | 24 => some fi24
  | 25 => some fi25
  | 34 => some fi34
  | 37 => some fi37
  | 39 => some fi39
  | 40 => some fi40
  | 41 => some fi41
  | 42 => some fi42
  | 43 => some fi43
  | 44 => some fi44
  | 45 => some fi45
  | 49 => some fi49
  | 50 => some fi50
  | 51 => some fi51
  | 52 => some fi52
  | 53 => some fi53
  | 62 => some fi62
  | 66 => some fi66
  | 67 => some fi67
  | 69 => some fi69
  | 70 => some fi70
  | 71 => some fi71
  | 75 => some fi75
  | 76 => some fi76
  | 77 => some fi77
  | 78 => some fi78
  | 79 => some fi79
  | 80 => some fi80
  | 81 => some fi81
  | 82 => some fi82
  | 101 => some fi101
  | 102 => some fi102
  | 103 => some fi103
  | 108 => some fi108
  | 122 => some fi122
  | _ => none
end Go.I

/-! GILaw -/
set_option linter.unusedVariables false
set_option maxRecDepth 100000
set_option maxHeartbeats 4000000
namespace Go.I
open Go.RowKit
theorem fo4 : Go.Proofs.Tryd.prog.funcs[4]? = some fi4.fn ∧ fi4.fn.body = some fi4.body ∧ (fi4.fn.name == "runtime.NumGoroutine") = false ∧ drOK fi4.kills fi4.body = true := ⟨Go.Proofs.Tryd.func4, rfl, by kernel_rfl, by kernel_rfl⟩
theorem fo12 : Go.Proofs.Tryd.prog.funcs[12]? = some fi12.fn ∧ fi12.fn.body = some fi12.body ∧ (fi12.fn.name == "runtime.NumGoroutine") = false ∧ drOK fi12.kills fi12.body = true := ⟨Go.Proofs.Tryd.func12, rfl, by kernel_rfl, by kernel_rfl⟩
theorem fo13 : Go.Proofs.Tryd.prog.funcs[13]? = some fi13.fn ∧ fi13.fn.body = some fi13.body ∧ (fi13.fn.name == "runtime.NumGoroutine") = false ∧ drOK fi13.kills fi13.body = true := ⟨Go.Proofs.Tryd.func13, rfl, by kernel_rfl, by kernel_rfl⟩
theorem fo14 : Go.Proofs.Tryd.prog.funcs[14]? = some fi14.fn ∧ fi14.fn.body = some fi14.body ∧ (fi14.fn.name == "runtime.NumGoroutine") = false ∧ drOK fi14.kills fi14.body = true := ⟨Go.Proofs.Tryd.func14, rfl, by kernel_rfl, by kernel_rfl⟩
theorem fo15 : Go.Proofs.Tryd.prog.funcs[15]? = some fi15.fn ∧ fi15.fn.body = some fi15.body ∧ (fi15.fn.name == "runtime.NumGoroutine") = false ∧ drOK fi15.kills fi15.body = true := ⟨Go.Proofs.Tryd.func15, rfl, by kernel_rfl, by kernel_rfl⟩
theorem fo16 : Go.Proofs.Tryd.prog.funcs[16]? = some fi16.fn ∧ fi16.fn.body = some fi16.body ∧ (fi16.fn.name == "runtime.NumGoroutine") = false ∧ drOK fi16.kills fi16.body = true := ⟨Go.Proofs.Tryd.func16, rfl, by kernel_rfl, by kernel_rfl⟩
theorem fo17 : Go.Proofs.Tryd.prog.funcs[17]? = some fi17.fn ∧ fi17.fn.body = some fi17.body ∧ (fi17.fn.name == "runtime.NumGoroutine") = false ∧ drOK fi17.kills fi17.body = true := ⟨Go.Proofs.Tryd.func17, rfl, by kernel_rfl, by kernel_rfl⟩
theorem fo18 : Go.Proofs.Tryd.prog.funcs[18]? = some fi18.fn ∧ fi18.fn.body = some fi18.body ∧ (fi18.fn.name == "runtime.NumGoroutine") = false ∧ drOK fi18.kills fi18.body = true := ⟨Go.Proofs.Tryd.func18, rfl, by kernel_rfl, by kernel_rfl⟩
theorem fo19 : Go.Proofs.Tryd.prog.funcs[19]? = some fi19.fn ∧ fi19.fn.body = some fi19.body ∧ (fi19.fn.name == "runtime.NumGoroutine") = false ∧ drOK fi19.kills fi19.body = true := ⟨Go.Proofs.Tryd.func19, rfl, by kernel_rfl, by kernel_rfl⟩
theorem fo24 : Go.Proofs.Tryd.prog.funcs[24]? = some fi24.fn ∧ fi24.fn.body = some fi24.body ∧ (fi24.fn.name == "runtime.NumGoroutine") = false ∧ drOK fi24.kills fi24.body = true := ⟨Go.Proofs.Tryd.func24, rfl, by kernel_rfl, by kernel_rfl⟩
theorem fo25 : Go.Proofs.Tryd.prog.funcs[25]? = some fi25.fn ∧ fi25.fn.body = some fi25.body ∧ (fi25.fn.name == "runtime.NumGoroutine") = false ∧ drOK fi25.kills fi25.body = true := ⟨Go.Proofs.Tryd.func25, rfl, by kernel_rfl, by kernel_rfl⟩
theorem fo34 : Go.Proofs.Tryd.prog.funcs[34]? = some fi34.fn ∧ fi34.fn.body = some fi34.body ∧ (fi34.fn.name == "runtime.NumGoroutine") = false ∧ drOK fi34.kills fi34.body = true := ⟨Go.Proofs.Tryd.func34, rfl, by kernel_rfl, by kernel_rfl⟩
theorem fo37 : Go.Proofs.Tryd.prog.funcs[37]? = some fi37.fn ∧ fi37.fn.body = some fi37.body ∧ (fi37.fn.name == "runtime.NumGoroutine") = false ∧ drOK fi37.kills fi37.body = true := ⟨Go.Proofs.Tryd.func37, rfl, by kernel_rfl, by kernel_rfl⟩
theorem fo39 : Go.Proofs.Tryd.prog.funcs[39]? = some fi39.fn ∧ fi39.fn.body = some fi39.body ∧ (fi39.fn.name == "runtime.NumGoroutine") = false ∧ drOK fi39.kills fi39.body = true := ⟨Go.Proofs.Tryd.func39, rfl, by kernel_rfl, by kernel_rfl⟩
theorem fo40 : Go.Proofs.Tryd.prog.funcs[40]? = some fi40.fn ∧ fi40.fn.body = some fi40.body ∧ (fi40.fn.name == "runtime.NumGoroutine") = false ∧ drOK fi40.kills fi40.body = true := ⟨Go.Proofs.Tryd.func40, rfl, by kernel_rfl, by kernel_rfl⟩
theorem fo41 : Go.Proofs.Tryd.prog.funcs[41]? = some fi41.fn ∧ fi41.fn.body = some fi41.body ∧ (fi41.fn.name == "runtime.NumGoroutine") = false ∧ drOK fi41.kills fi41.body = true := ⟨Go.Proofs.Tryd.func41, rfl, by kernel_rfl, by kernel_rfl⟩
theorem fo42 : Go.Proofs.Tryd.prog.funcs[42]? = some fi42.fn ∧ fi42.fn.body = some fi42.body ∧ (fi42.fn.name == "runtime.NumGoroutine") = false ∧ drOK fi42.kills fi42.body = true := ⟨Go.Proofs.Tryd.func42, rfl, by kernel_rfl, by kernel_rfl⟩
theorem fo43 : Go.Proofs.Tryd.prog.funcs[43]? = some fi43.fn ∧ fi43.fn.body = some fi43.body ∧ (fi43.fn.name == "runtime.NumGoroutine") = false ∧ drOK fi43.kills fi43.body = true := ⟨Go.Proofs.Tryd.func43, rfl, by kernel_rfl, by kernel_rfl⟩
theorem fo44 : Go.Proofs.Tryd.prog.funcs[44]? = some fi44.fn ∧ fi44.fn.body = some fi44.body ∧ (fi44.fn.name == "runtime.NumGoroutine") = false ∧ drOK fi44.kills fi44.body = true := ⟨Go.Proofs.Tryd.func44, rfl, by kernel_rfl, by kernel_rfl⟩
theorem fo45 : Go.Proofs.Tryd.prog.funcs[45]? = some fi45.fn ∧ fi45.fn.body = some fi45.body ∧ (fi45.fn.name == "runtime.NumGoroutine") = false ∧ drOK fi45.kills fi45.body = true := ⟨Go.Proofs.Tryd.func45, rfl, by kernel_rfl, by kernel_rfl⟩
theorem fo49 : Go.Proofs.Tryd.prog.funcs[49]? = some fi49.fn ∧ fi49.fn.body = some fi49.body ∧ (fi49.fn.name == "runtime.NumGoroutine") = false ∧ drOK fi49.kills fi49.body = true := ⟨Go.Proofs.Tryd.func49, rfl, by kernel_rfl, by kernel_rfl⟩
theorem fo50 : Go.Proofs.Tryd.prog.funcs[50]? = some fi50.fn ∧ fi50.fn.body = some fi50.body ∧ (fi50.fn.name == "runtime.NumGoroutine") = false ∧ drOK fi50.kills fi50.body = true := ⟨Go.Proofs.Tryd.func50, rfl, by kernel_rfl, by kernel_rfl⟩
theorem fo51 : Go.Proofs.Tryd.prog.funcs[51]? = some fi51.fn ∧ fi51.fn.body = some fi51.body ∧ (fi51.fn.name == "runtime.NumGoroutine") = false ∧ drOK fi51.kills fi51.body = true := ⟨Go.Proofs.Tryd.func51, rfl, by kernel_rfl, by kernel_rfl⟩
theorem fo52 : Go.Proofs.Tryd.prog.funcs[52]? = some fi52.fn ∧ fi52.fn.body = some fi52.body ∧ (fi52.fn.name == "runtime.NumGoroutine") = false ∧ drOK fi52.kills fi52.body = true := ⟨Go.Proofs.Tryd.func52, rfl, by kernel_rfl, by kernel_rfl⟩
theorem fo53 : Go.Proofs.Tryd.prog.funcs[53]? = some fi53.fn ∧ fi53.fn.body = some fi53.body ∧ (fi53.fn.name == "runtime.NumGoroutine") = false ∧ drOK fi53.kills fi53.body = true := ⟨Go.Proofs.Tryd.func53, rfl, by kernel_rfl, by kernel_rfl⟩
theorem fo62 : Go.Proofs.Tryd.prog.funcs[62]? = some fi62.fn ∧ fi62.fn.body = some fi62.body ∧ (fi62.fn.name == "runtime.NumGoroutine") = false ∧ drOK fi62.kills fi62.body = true := ⟨Go.Proofs.Tryd.func62, rfl, by kernel_rfl, by kernel_rfl⟩
theorem fo66 : Go.Proofs.Tryd.prog.funcs[66]? = some fi66.fn ∧ fi66.fn.body = some fi66.body ∧ (fi66.fn.name == "runtime.NumGoroutine") = false ∧ drOK fi66.kills fi66.body = true := ⟨Go.Proofs.Tryd.func66, rfl, by kernel_rfl, by kernel_rfl⟩
theorem fo67 : Go.Proofs.Tryd.prog.funcs[67]? = some fi67.fn ∧ fi67.fn.body = some fi67.body ∧ (fi67.fn.name == "runtime.NumGoroutine") = false ∧ drOK fi67.kills fi67.body = true := ⟨Go.Proofs.Tryd.func67, rfl, by kernel_rfl, by kernel_rfl⟩
theorem fo69 : Go.Proofs.Tryd.prog.funcs[69]? = some fi69.fn ∧ fi69.fn.body = some fi69.body ∧ (fi69.fn.name == "runtime.NumGoroutine") = false ∧ drOK fi69.kills fi69.body = true := ⟨Go.Proofs.Tryd.func69, rfl, by kernel_rfl, by kernel_rfl⟩
theorem fo70 : Go.Proofs.Tryd.prog.funcs[70]? = some fi70.fn ∧ fi70.fn.body = some fi70.body ∧ (fi70.fn.name == "runtime.NumGoroutine") = false ∧ drOK fi70.kills fi70.body = true := ⟨Go.Proofs.Tryd.func70, rfl, by kernel_rfl, by kernel_rfl⟩
theorem fo71 : Go.Proofs.Tryd.prog.funcs[71]? = some fi71.fn ∧ fi71.fn.body = some fi71.body ∧ (fi71.fn.name == "runtime.NumGoroutine") = false ∧ drOK fi71.kills fi71.body = true := ⟨Go.Proofs.Tryd.func71, rfl, by kernel_rfl, by kernel_rfl⟩
theorem fo75 : Go.Proofs.Tryd.prog.funcs[75]? = some fi75.fn ∧ fi75.fn.body = some fi75.body ∧ (fi75.fn.name == "runtime.NumGoroutine") = false ∧ drOK fi75.kills fi75.body = true := ⟨Go.Proofs.Tryd.func75, rfl, by kernel_rfl, by kernel_rfl⟩
theorem fo76 : Go.Proofs.Tryd.prog.funcs[76]? = some fi76.fn ∧ fi76.fn.body = some fi76.body ∧ (fi76.fn.name == "runtime.NumGoroutine") = false ∧ drOK fi76.kills fi76.body = true := ⟨Go.Proofs.Tryd.func76, rfl, by kernel_rfl, by kernel_rfl⟩
theorem fo77 : Go.Proofs.Tryd.prog.funcs[77]? = some fi77.fn ∧ fi77.fn.body = some fi77.body ∧ (fi77.fn.name == "runtime.NumGoroutine") = false ∧ drOK fi77.kills fi77.body = true := ⟨Go.Proofs.Tryd.func77, rfl, by kernel_rfl, by kernel_rfl⟩
theorem fo78 : Go.Proofs.Tryd.prog.funcs[78]? = some fi78.fn ∧ fi78.fn.body = some fi78.body ∧ (fi78.fn.name == "runtime.NumGoroutine") = false ∧ drOK fi78.kills fi78.body = true := ⟨Go.Proofs.Tryd.func78, rfl, by kernel_rfl, by kernel_rfl⟩
theorem fo79 : Go.Proofs.Tryd.prog.funcs[79]? = some fi79.fn ∧ fi79.fn.body = some fi79.body ∧ (fi79.fn.name == "runtime.NumGoroutine") = false ∧ drOK fi79.kills fi79.body = true := ⟨Go.Proofs.Tryd.func79, rfl, by kernel_rfl, by kernel_rfl⟩
theorem fo80 : Go.Proofs.Tryd.prog.funcs[80]? = some fi80.fn ∧ fi80.fn.body = some fi80.body ∧ (fi80.fn.name == "runtime.NumGoroutine") = false ∧ drOK fi80.kills fi80.body = true := ⟨Go.Proofs.Tryd.func80, rfl, by kernel_rfl, by kernel_rfl⟩
theorem fo81 : Go.Proofs.Tryd.prog.funcs[81]? = some fi81.fn ∧ fi81.fn.body = some fi81.body ∧ (fi81.fn.name == "runtime.NumGoroutine") = false ∧ drOK fi81.kills fi81.body = true := ⟨Go.Proofs.Tryd.func81, rfl, by kernel_rfl, by kernel_rfl⟩
theorem fo82 : Go.Proofs.Tryd.prog.funcs[82]? = some fi82.fn ∧ fi82.fn.body = some fi82.body ∧ (fi82.fn.name == "runtime.NumGoroutine") = false ∧ drOK fi82.kills fi82.body = true := ⟨Go.Proofs.Tryd.func82, rfl, by kernel_rfl, by kernel_rfl⟩
theorem fo101 : Go.Proofs.Tryd.prog.funcs[101]? = some fi101.fn ∧ fi101.fn.body = some fi101.body ∧ (fi101.fn.name == "runtime.NumGoroutine") = false ∧ drOK fi101.kills fi101.body = true := ⟨Go.Proofs.Tryd.func101, rfl, by kernel_rfl, by kernel_rfl⟩
theorem fo102 : Go.Proofs.Tryd.prog.funcs[102]? = some fi102.fn ∧ fi102.fn.body = some fi102.body ∧ (fi102.fn.name == "runtime.NumGoroutine") = false ∧ drOK fi102.kills fi102.body = true := ⟨Go.Proofs.Tryd.func102, rfl, by kernel_rfl, by kernel_rfl⟩
theorem fo103 : Go.Proofs.Tryd.prog.funcs[103]? = some fi103.fn ∧ fi103.fn.body = some fi103.body ∧ (fi103.fn.name == "runtime.NumGoroutine") = false ∧ drOK fi103.kills fi103.body = true := ⟨Go.Proofs.Tryd.func103, rfl, by kernel_rfl, by kernel_rfl⟩
theorem fo108 : Go.Proofs.Tryd.prog.funcs[108]? = some fi108.fn ∧ fi108.fn.body = some fi108.body ∧ (fi108.fn.name == "runtime.NumGoroutine") = false ∧ drOK fi108.kills fi108.body = true := ⟨Go.Proofs.Tryd.func108, rfl, by kernel_rfl, by kernel_rfl⟩
theorem fo122 : Go.Proofs.Tryd.prog.funcs[122]? = some fi122.fn ∧ fi122.fn.body = some fi122.body ∧ (fi122.fn.name == "runtime.NumGoroutine") = false ∧ drOK fi122.kills fi122.body = true := ⟨Go.Proofs.Tryd.func122, rfl, by kernel_rfl, by kernel_rfl⟩
theorem funOK : FunOK Go.Proofs.Tryd.prog F := by
  intro f fi h
  unfold F at h
  split at h
  · injection h with h; subst h; exact fo4
  · injection h with h; subst h; exact fo12
  · injection h with h; subst h; exact fo13
  · injection h with h; subst h; exact fo14
  · injection h with h; subst h; exact fo15
  · injection h with h; subst h; exact fo16
  · injection h with h; subst h; exact fo17
  · injection h with h; subst h; exact fo18
  · injection h with h; subst h; exact fo19
  · injection h with h; subst h; exact fo24
  · injection h with h; subst h; exact fo25
  · injection h with h; subst h; exact fo34
  · injection h with h; subst h; exact fo37
  · injection h with h; subst h; exact fo39
  · injection h with h; subst h; exact fo40
  · injection h with h; subst h; exact fo41
  · injection h with h; subst h; exact fo42
  · injection h with h; subst h; exact fo43
  · injection h with h; subst h; exact fo44
  · injection h with h; subst h; exact fo45
  · injection h with h; subst h; exact fo49
  · injection h with h; subst h; exact fo50
  · injection h with h; subst h; exact fo51
  · injection h with h; subst h; exact fo52
  · injection h with h; subst h; exact fo53
  · injection h with h; subst h; exact fo62
  · injection h with h; subst h; exact fo66
  · injection h with h; subst h; exact fo67
  · injection h with h; subst h; exact fo69
  · injection h with h; subst h; exact fo70
  · injection h with h; subst h; exact fo71
  · injection h with h; subst h; exact fo75
  · injection h with h; subst h; exact fo76
  · injection h with h; subst h; exact fo77
  · injection h with h; subst h; exact fo78
  · injection h with h; subst h; exact fo79
  · injection h with h; subst h; exact fo80
  · injection h with h; subst h; exact fo81
  · injection h with h; subst h; exact fo82
  · injection h with h; subst h; exact fo101
  · injection h with h; subst h; exact fo102
  · injection h with h; subst h; exact fo103
  · injection h with h; subst h; exact fo108
  · injection h with h; subst h; exact fo122
  · cases h
theorem conOK : ConOK Go.Proofs.Tryd.prog tab M F := by
  intro f fi h As w ok0 r hm hp hc
  unfold F at h
  split at h
  · injection h with h; subst h; exact hc.elim
  · injection h with h; subst h; exact hc.elim
  · injection h with h; subst h; exact hc.elim
  · injection h with h; subst h; exact hc.elim
  · injection h with h; subst h; exact hc.elim
  · injection h with h; subst h; exact hc.elim
  · injection h with h; subst h; exact hc.elim
  · injection h with h; subst h; exact hc.elim
  · injection h with h; subst h; exact hc.elim
  · injection h with h; subst h; exact hc.elim
  · injection h with h; subst h; exact hc.elim
  · injection h with h; subst h; exact hc.elim
  · injection h with h; subst h; exact hc.elim
  · injection h with h; subst h; exact hc.elim
  · injection h with h; subst h; exact hc.elim
  · injection h with h; subst h; exact hc.elim
  · injection h with h; subst h; exact hc.elim
  · injection h with h; subst h; exact hc.elim
  · injection h with h; subst h; exact hc.elim
  · injection h with h; subst h; exact hc.elim
  · injection h with h; subst h; exact hc.elim
  · injection h with h; subst h; exact hc.elim
  · injection h with h; subst h; exact hc.elim
  · injection h with h; subst h; exact hc.elim
  · injection h with h; subst h; exact hc.elim
  · injection h with h; subst h; exact strings_Split.ok (M := M) rfl hm hp hc
  · injection h with h; subst h; exact hc.elim
  · injection h with h; subst h; exact hc.elim
  · injection h with h; subst h; exact hc.elim
  · injection h with h; subst h; exact hc.elim
  · injection h with h; subst h; exact strings_Contains.ok (M := M) rfl hm hp hc
  · injection h with h; subst h; exact hc.elim
  · injection h with h; subst h; exact hc.elim
  · injection h with h; subst h; exact hc.elim
  · injection h with h; subst h; exact hc.elim
  · injection h with h; subst h; exact hc.elim
  · injection h with h; subst h; exact hc.elim
  · injection h with h; subst h; exact hc.elim
  · injection h with h; subst h; exact hc.elim
  · injection h with h; subst h; exact hc.elim
  · injection h with h; subst h; exact hc.elim
  · injection h with h; subst h; exact hc.elim
  · injection h with h; subst h; exact hc.elim
  · injection h with h; subst h; exact hc.elim
  · cases h
end Go.I
