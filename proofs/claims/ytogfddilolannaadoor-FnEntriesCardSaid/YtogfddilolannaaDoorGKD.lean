/- The functions that the law reaches, by name, and the law's call from its plain statement. No condition. -/
import Derived.Test.YtogfddilolannaaDoorKC
import Derived.Test.YtogfddilolannaaDoorKGITab
import Derived.Test.YtogfddilolannaaDoorXStrG
/-! GIStr -/
set_option linter.unusedVariables false
namespace Go.I
open Go.RowKit Go.Proofs.YtogfddilolannaaDoorW.PrintWords Go.Proofs.YtogfddilolannaaDoorW
def strings_Split.e (r : List ByteArray) : Res tab := (([], []), .one (.imm 9 r))
def strings_Split.con (xs : List (WT tab)) (r : Res tab) : Prop := ∃ (s t : ByteArray), ∃ b, xs = [.one (.lit (.string s)), .one (.lit (.string t))] ∧ strings_Split.f s t = some b ∧ r = strings_Split.e b
def strings_Contains.e (r : Bool) : Res tab := (([], []), .one (.lit (.bool r)))
def strings_Contains.con (xs : List (WT tab)) (r : Res tab) : Prop := ∃ (s t : ByteArray), ∃ b, xs = [.one (.lit (.string s)), .one (.lit (.string t))] ∧ strings_Contains.f s t = some b ∧ r = strings_Contains.e b
theorem strings_Split.ok     {M : FuncId → List Md} (hM : M 62 = []) {As : List (Arg tab)} {w : World} {ok0 : Nat → Prop} {r : Res tab} (hm : Modes (M 62) As) (hp : Pre w ok0 As) (hc : strings_Split.con (As.map (·.x)) r) : Calls Go.Proofs.Tryd.prog 62 (As.map (·.c)).toArray w fun
      | .returned v, w1 => ∃ E Os, Post (tab.gives 62) w ok0 As r v w1 E Os
      | _, _ => False := by
  have hv := modes_val hM hm
  obtain ⟨s, t, b, h1, h2, rfl⟩ := hc
  unfold strings_Split.f at h2
  split at h2
  case isFalse => cases h2
  rename_i hst
  injection h2 with h2
  rw [args2 h1 hp hv]
  refine (XStr.split_one s t w hst.1 hst.2).mono fun e w1 he => ?_
  obtain ⟨rfl, rfl⟩ := he
  rw [h2]
  have hb : Below w.heap.size w (w.alloc (.cells (b.map Value.string).toArray 9)) := (Below.refl _ _).alloc (Nat.le_refl _) _
  have hlen : b.length ≤ 4294967282 := by
    have := Lib.splitB_length_le t 0 (Lib.countB s t) s
    have h3 := Lib.countB_le t (by omega) s.size s (Nat.le_refl _)
    rw [← h2]
    omega
  have hq := qrow_new w 9 1 b.length (b.map Value.string) (by simp) (by unfold maxLen; omega)
  have ho := own_strs (B := tab) (e := 9) (l := (b : List ByteArray)) (cs := b.map Value.string) rfl hq (fun j x hx => ⟨.string x, by rw [List.getElem?_map]; exact congrArg (Option.map Value.string) hx, rfl, rfl⟩)
  refine ⟨[⟨.imm 9 b, _, none_⟩], [], post_imm hv hp rfl rfl (fun y hy => by rw [List.mem_singleton.1 hy]) (fun y hy => ?_) rfl hb⟩
  rw [List.mem_singleton.1 hy]
  exact .inr (.inl ⟨_, _, _, rfl, ho.toImm (fun k hk => by simp [Value.ownBlock] at hk; subst hk; exact ⟨by simp, .inr (Nat.le_refl _)⟩)⟩)
theorem strings_Contains.ok     {M : FuncId → List Md} (hM : M 71 = []) {As : List (Arg tab)} {w : World} {ok0 : Nat → Prop} {r : Res tab} (hm : Modes (M 71) As) (hp : Pre w ok0 As) (hc : strings_Contains.con (As.map (·.x)) r) : Calls Go.Proofs.Tryd.prog 71 (As.map (·.c)).toArray w fun
      | .returned v, w1 => ∃ E Os, Post (tab.gives 71) w ok0 As r v w1 E Os
      | _, _ => False := by
  have hv := modes_val hM hm
  obtain ⟨s, t, b, h1, h2, rfl⟩ := hc
  unfold strings_Contains.f at h2
  split at h2
  case isFalse => cases h2
  rename_i ht
  injection h2 with h2
  rw [args2 h1 hp hv]
  refine (XStr.contains_one s t w ht).mono fun e w1 he => ?_
  obtain ⟨rfl, rfl⟩ := he
  rw [h2]
  exact ⟨_, [], post_one hv hp rfl (Below.refl _ _)⟩
end Go.I

/-! GIRa -/
set_option linter.unusedVariables false
set_option linter.unusedSimpArgs false
set_option maxRecDepth 100000
set_option maxHeartbeats 4000000
namespace Go.I
open Go
def M : FuncId → List Md
  | 17 => [.own, .val]
  | 18 => [.own, .val]
  | 39 => [.ptr 2]
  | 40 => [.ptr 2]
  | 41 => [.ptr 2]
  | 42 => [.ptr 2, .val]
  | 47 => [.ptr 3, .val]
  | 56 => [.ptr 2, .val]
  | 57 => [.ptr 2]
  | 58 => [.ptr 2]
  | 63 => [.ptr 2]
  | 64 => [.ptr 2]
  | 65 => [.ptr 2]
  | 78 => [.ptr 2, .val]
  | 79 => [.ptr 2]
  | 83 => [.ptr 3, .val]
  | 84 => [.ptr 3, .val]
  | 86 => [.ptr 3]
  | 89 => [.ptr 3, .val]
  | 96 => [.ptr 2]
  | 105 => [.ptr 2, .val]
  | 109 => [.ptr 2, .val]
  | 110 => [.ptr 3]
  | 111 => [.ptr 3, .val]
  | 112 => [.ptr 3, .val]
  | 113 => [.ptr 3, .val]
  | 124 => [.ptr 2, .val]
  | 174 => [.ptr 4]
  | 175 => [.ptr 4]
  | 176 => [.ptr 1]
  | 177 => [.ptr 1]
  | 178 => [.ptr 11]
  | 181 => [.ptr 2]
  | 183 => [.ptr 3]
  | 184 => [.ptr 1]
  | _ => []
def kl5 : KL := ⟨fun n => match n with
  | 0 => [0, 2, 6, 13, 14, 15, 16, 17, 18, 19, 20, 21, 22, 23, 24, 25, 26, 27, 28, 29, 30, 31, 32, 33, 34, 35, 36, 37, 38, 39, 40, 41, 42, 43, 44, 45, 46, 47, 48, 49, 50, 51, 52, 53, 54, 55, 56, 57, 58, 59, 60, 61, 1000006]
  | 4 => [3, 5, 9, 18, 19, 20, 21, 62, 63, 64, 65, 66, 67, 68, 69, 70, 71, 72, 73, 74, 75, 76, 77, 78, 79, 80, 81, 82, 83, 84, 85, 86, 87, 88, 89, 90, 91, 92, 93, 94, 95, 96, 97, 98, 99, 100, 101, 102, 103, 104, 105]
  | _ => [], fun n => match n with
  | 9 => .op 1 (.op 3 (.op 5 (.op 7 (.op 9 (.op 11 (.op 13 (.op 15 (.op 17 (.op 19 (.op 21 (.op 23 (.op 25 (.op 27 (.op 29 (.op 31 (.op 33 (.op 35 (.op 37 (.op 39 (.op 41 (.op 43 (.op 45 (.op 47 (.op 49 (.op 51 (.op 53 (.op 55 (.nil))))))))))))))))))))))))))))
  | 19 => .op 1 (.op 3 (.op 5 (.op 7 (.op 9 (.op 11 (.op 13 (.op 15 (.nil))))))))
  | _ => .no, fun _ => [], false, fun n => match n with
  | 19 => [4, 8]
  | _ => []⟩
noncomputable def fi5 : Fi tab := ⟨Go.Proofs.Tryd.f5, Go.Proofs.Tryd.f5.body.getD .skip, kl5, fun _ _ => False⟩
def kl20 : KL := ⟨fun _ => [], fun _ => .no, fun _ => [], false, fun _ => []⟩
noncomputable def fi20 : Fi tab := ⟨Go.Proofs.Tryd.f20, Go.Proofs.Tryd.f20.body.getD .skip, kl20, fun _ _ => False⟩
def kl21 : KL := ⟨fun _ => [], fun _ => .no, fun _ => [], true, fun _ => []⟩
noncomputable def fi21 : Fi tab := ⟨Go.Proofs.Tryd.f21, Go.Proofs.Tryd.f21.body.getD .skip, kl21, fun _ _ => False⟩
def kl46 : KL := ⟨fun n => match n with
  | 0 => [2, 5, 6, 7, 8, 9, 10, 11, 12, 13, 14, 15, 16, 17, 18, 19, 20, 21, 22, 23, 24, 25, 26, 27]
  | _ => [], fun _ => .no, fun _ => [], false, fun _ => []⟩
noncomputable def fi46 : Fi tab := ⟨Go.Proofs.Tryd.f46, Go.Proofs.Tryd.f46.body.getD .skip, kl46, fun _ _ => False⟩
def kl48 : KL := ⟨fun _ => [], fun _ => .no, fun _ => [], false, fun _ => []⟩
noncomputable def fi48 : Fi tab := ⟨Go.Proofs.Tryd.f48, Go.Proofs.Tryd.f48.body.getD .skip, kl48, fun _ _ => False⟩
def kl47 : KL := ⟨fun n => match n with
  | 0 => [4, 7, 8, 9, 13, 14, 15, 16, 17, 18, 19, 20, 21, 22, 23, 24, 25, 26, 27, 28, 29, 30, 31, 32, 33, 34, 35, 36, 37, 38, 39, 40, 41, 42, 43, 44, 45, 46, 47, 48, 49, 50, 51, 52, 53, 54, 55, 56, 57, 58]
  | 4 => [1, 6, 12, 14, 15, 16, 59, 60, 61, 62, 63, 64, 65, 66, 67, 68, 69, 70, 71, 72, 73, 74, 75, 76, 77, 78, 79, 80, 81, 82, 83, 84, 85, 86, 87, 88, 89, 90, 91, 92, 93, 94, 95, 96, 97, 98]
  | _ => [], fun _ => .no, fun _ => [], false, fun _ => []⟩
noncomputable def fi47 : Fi tab := ⟨Go.Proofs.Tryd.f47, Go.Proofs.Tryd.f47.body.getD .skip, kl47, fun _ _ => False⟩
def kl83 : KL := ⟨fun _ => [], fun _ => .no, fun _ => [], false, fun _ => []⟩
noncomputable def fi83 : Fi tab := ⟨Go.Proofs.Tryd.f83, Go.Proofs.Tryd.f83.body.getD .skip, kl83, fun _ _ => False⟩
def kl84 : KL := ⟨fun _ => [], fun _ => .no, fun _ => [], false, fun _ => []⟩
noncomputable def fi84 : Fi tab := ⟨Go.Proofs.Tryd.f84, Go.Proofs.Tryd.f84.body.getD .skip, kl84, fun _ _ => False⟩
def kl110 : KL := ⟨fun _ => [], fun n => match n with
  | 2 => .op 1 (.op 3 (.op 5 (.op 7 (.op 9 (.op 11 (.op 13 (.op 15 (.op 17 (.op 19 (.op 21 (.op 23 (.nil))))))))))))
  | 3 => .op 1 (.op 3 (.op 5 (.op 7 (.op 9 (.op 11 (.op 13 (.op 15 (.op 17 (.nil)))))))))
  | 4 => .op 1 (.op 3 (.op 5 (.op 7 (.op 9 (.op 11 (.op 13 (.op 15 (.op 17 (.op 19 (.op 21 (.op 23 (.op 25 (.op 27 (.nil))))))))))))))
  | _ => .no, fun _ => [], false, fun _ => []⟩
noncomputable def fi110 : Fi tab := ⟨Go.Proofs.Tryd.f110, Go.Proofs.Tryd.f110.body.getD .skip, kl110, fun _ _ => False⟩
def kl86 : KL := ⟨fun _ => [], fun _ => .no, fun _ => [], false, fun _ => []⟩
noncomputable def fi86 : Fi tab := ⟨Go.Proofs.Tryd.f86, Go.Proofs.Tryd.f86.body.getD .skip, kl86, fun _ _ => False⟩
def kl111 : KL := ⟨fun _ => [], fun _ => .no, fun _ => [], false, fun _ => []⟩
noncomputable def fi111 : Fi tab := ⟨Go.Proofs.Tryd.f111, Go.Proofs.Tryd.f111.body.getD .skip, kl111, fun _ _ => False⟩
def kl85 : KL := ⟨fun _ => [], fun _ => .no, fun _ => [], false, fun _ => []⟩
noncomputable def fi85 : Fi tab := ⟨Go.Proofs.Tryd.f85, Go.Proofs.Tryd.f85.body.getD .skip, kl85, fun _ _ => False⟩
def kl66 : KL := ⟨fun n => match n with
  | 0 => [0, 2, 5, 6, 7, 8, 9, 10, 11, 12, 13, 14, 15, 16, 17, 18, 19, 20, 21]
  | _ => [], fun _ => .no, fun _ => [], false, fun _ => []⟩
noncomputable def fi66 : Fi tab := ⟨Go.Proofs.Tryd.f66, Go.Proofs.Tryd.f66.body.getD .skip, kl66, fun _ _ => False⟩
def kl101 : KL := ⟨fun n => match n with
  | 0 => [2, 6, 7, 8, 9, 10, 11, 12, 13, 14, 15, 16, 17, 18, 19, 20, 21, 22, 23, 24, 25]
  | _ => [], fun _ => .no, fun _ => [], false, fun _ => []⟩
noncomputable def fi101 : Fi tab := ⟨Go.Proofs.Tryd.f101, Go.Proofs.Tryd.f101.body.getD .skip, kl101, fun _ _ => False⟩
def kl102 : KL := ⟨fun n => match n with
  | 0 => [2, 4, 5, 6, 7, 8, 9, 10, 11, 12, 13, 14, 15, 16, 17, 18, 19, 20, 21, 22, 23, 24, 25, 26, 27, 28, 29, 30, 31, 32, 33, 34, 35, 36, 37, 38, 39, 40, 41, 42, 43, 44, 45, 46, 47, 48, 49, 50, 51, 52, 53, 54, 55, 56, 57]
  | _ => [], fun _ => .no, fun _ => [], false, fun _ => []⟩
noncomputable def fi102 : Fi tab := ⟨Go.Proofs.Tryd.f102, Go.Proofs.Tryd.f102.body.getD .skip, kl102, fun _ _ => False⟩
def kl67 : KL := ⟨fun _ => [], fun _ => .no, fun _ => [], false, fun _ => []⟩
noncomputable def fi67 : Fi tab := ⟨Go.Proofs.Tryd.f67, Go.Proofs.Tryd.f67.body.getD .skip, kl67, fun _ _ => False⟩
def kl87 : KL := ⟨fun n => match n with
  | 0 => [4, 6, 7, 8, 9, 10, 11, 12, 13, 14, 15, 16, 17, 18]
  | _ => [], fun _ => .no, fun _ => [], false, fun _ => []⟩
noncomputable def fi87 : Fi tab := ⟨Go.Proofs.Tryd.f87, Go.Proofs.Tryd.f87.body.getD .skip, kl87, fun _ _ => False⟩
def kl89 : KL := ⟨fun _ => [], fun _ => .no, fun _ => [], false, fun _ => []⟩
noncomputable def fi89 : Fi tab := ⟨Go.Proofs.Tryd.f89, Go.Proofs.Tryd.f89.body.getD .skip, kl89, fun _ _ => False⟩
def kl112 : KL := ⟨fun _ => [], fun _ => .no, fun _ => [], false, fun _ => []⟩
noncomputable def fi112 : Fi tab := ⟨Go.Proofs.Tryd.f112, Go.Proofs.Tryd.f112.body.getD .skip, kl112, fun _ _ => False⟩
def kl113 : KL := ⟨fun n => match n with
  | 0 => [4, 6, 7, 8, 9, 10, 11, 12, 13, 14, 15, 16, 17, 18, 19, 20, 21, 22, 23, 24, 25, 26, 27, 28, 29, 30, 31, 32, 33, 34, 35, 42, 43, 44, 51, 52, 53, 54, 55, 62, 63, 64, 65, 66, 67, 68, 69, 70, 71, 72]
  | 6 => [13, 14, 15, 16, 17, 18, 26, 27, 34, 35, 36, 37, 38, 39, 40, 41, 42, 43, 44, 45, 46, 47, 48, 49, 50]
  | 10 => [13, 14, 15, 16, 17, 18, 26, 27, 34, 35, 51, 52, 53, 54, 55, 56, 57, 58, 59, 60, 61, 62, 63, 64, 65, 66, 67, 68, 69, 70, 71, 72, 73, 74, 75, 76, 77, 78, 79, 80, 81, 82, 83]
  | _ => [], fun _ => .no, fun _ => [], false, fun _ => []⟩
noncomputable def fi113 : Fi tab := ⟨Go.Proofs.Tryd.f113, Go.Proofs.Tryd.f113.body.getD .skip, kl113, fun _ _ => False⟩
def kl88 : KL := ⟨fun n => match n with
  | 0 => [1, 4, 8, 9, 10, 11, 12, 13, 14, 15, 16, 17, 18, 19, 20, 21, 22, 23, 24, 25, 26, 27, 28, 29, 30, 31, 32, 33, 34, 35, 36, 37, 38, 39, 40, 41, 42, 43, 44, 45]
  | _ => [], fun n => match n with
  | 6 => .op 1 (.op 3 (.op 5 (.op 7 (.op 9 (.op 11 (.op 13 (.op 15 (.op 17 (.op 19 (.op 21 (.nil)))))))))))
  | 9 => .op 1 (.op 3 (.op 5 (.op 7 (.op 9 (.op 11 (.op 13 (.nil)))))))
  | _ => .no, fun _ => [], false, fun _ => []⟩
noncomputable def fi88 : Fi tab := ⟨Go.Proofs.Tryd.f88, Go.Proofs.Tryd.f88.body.getD .skip, kl88, fun _ _ => False⟩
def kl90 : KL := ⟨fun n => match n with
  | 0 => [2, 5, 6, 7, 8, 9, 14, 15, 16, 17, 18, 19, 35, 36, 37, 38, 39, 40]
  | 4 => [10, 11, 12, 13, 16, 17, 18, 19, 20, 21, 22, 23, 24, 25, 26, 27, 28, 29, 30, 31, 32, 33, 34]
  | _ => [], fun n => match n with
  | 9 => .op 1 (.op 3 (.op 5 (.op 7 (.op 9 (.op 11 (.op 13 (.op 15 (.op 17 (.op 19 (.nil))))))))))
  | _ => .no, fun _ => [], false, fun _ => []⟩
noncomputable def fi90 : Fi tab := ⟨Go.Proofs.Tryd.f90, Go.Proofs.Tryd.f90.body.getD .skip, kl90, fun _ _ => False⟩
def kl22 : KL := ⟨fun _ => [], fun _ => .no, fun _ => [], false, fun _ => []⟩
noncomputable def fi22 : Fi tab := ⟨Go.Proofs.Tryd.f22, Go.Proofs.Tryd.f22.body.getD .skip, kl22, fun _ _ => False⟩
def kl23 : KL := ⟨fun _ => [], fun _ => .no, fun _ => [], true, fun _ => []⟩
noncomputable def fi23 : Fi tab := ⟨Go.Proofs.Tryd.f23, Go.Proofs.Tryd.f23.body.getD .skip, kl23, fun _ _ => False⟩
def kl24 : KL := ⟨fun n => match n with
  | 0 => [2, 3, 4, 5, 6, 7, 11, 12, 13, 14, 15, 16, 17, 18, 19, 20, 21, 22, 23, 24, 25, 26, 27, 28, 29, 30, 31, 32, 33, 1000004]
  | _ => [], fun n => match n with
  | 6 => .op 1 (.op 2 (.op 5 (.op 7 (.op 9 (.op 11 (.op 13 (.op 15 (.op 17 (.op 19 (.op 21 (.op 23 (.op 25 (.op 27 (.op 29 (.op 31 (.op 33 (.nil)))))))))))))))))
  | _ => .no, fun _ => [], false, fun _ => []⟩
noncomputable def fi24 : Fi tab := ⟨Go.Proofs.Tryd.f24, Go.Proofs.Tryd.f24.body.getD .skip, kl24, fun _ _ => False⟩
def kl49 : KL := ⟨fun _ => [], fun _ => .no, fun _ => [], false, fun _ => []⟩
noncomputable def fi49 : Fi tab := ⟨Go.Proofs.Tryd.f49, Go.Proofs.Tryd.f49.body.getD .skip, kl49, fun _ _ => False⟩
def kl37 : KL := ⟨fun _ => [], fun _ => .no, fun _ => [], false, fun _ => []⟩
noncomputable def fi37 : Fi tab := ⟨Go.Proofs.Tryd.f37, Go.Proofs.Tryd.f37.body.getD .skip, kl37, fun _ _ => False⟩
def kl69 : KL := ⟨fun _ => [], fun _ => .no, fun _ => [], false, fun _ => []⟩
noncomputable def fi69 : Fi tab := ⟨Go.Proofs.Tryd.f69, Go.Proofs.Tryd.f69.body.getD .skip, kl69, fun _ _ => False⟩
def kl103 : KL := ⟨fun n => match n with
  | 0 => [0, 2, 5, 6, 7, 8, 9, 10, 11, 12, 13, 17, 18, 19, 20, 21, 22, 23]
  | _ => [], fun _ => .no, fun _ => [], true, fun _ => []⟩
noncomputable def fi103 : Fi tab := ⟨Go.Proofs.Tryd.f103, Go.Proofs.Tryd.f103.body.getD .skip, kl103, fun _ _ => False⟩
noncomputable def fi62 : Fi tab := ⟨Go.Proofs.Tryd.f62, Go.Proofs.Tryd.f62.body.getD .skip, ⟨fun _ => [], fun _ => .no, fun _ => [], false, fun _ => []⟩, strings_Split.con⟩
def kl122 : KL := ⟨fun n => match n with
  | 0 => [2, 3, 4, 5, 8, 9, 10, 11, 12, 13, 14, 15, 16, 17, 18, 19, 20, 21, 22, 23, 24, 25, 26, 27, 28, 29, 30, 31, 32, 33, 34, 35, 36, 37, 38, 39, 40, 41, 42, 43, 44, 45, 46, 47, 48]
  | _ => [], fun _ => .no, fun _ => [], false, fun _ => []⟩
noncomputable def fi122 : Fi tab := ⟨Go.Proofs.Tryd.f122, Go.Proofs.Tryd.f122.body.getD .skip, kl122, fun _ _ => False⟩
def kl70 : KL := ⟨fun _ => [], fun _ => .no, fun _ => [], false, fun _ => []⟩
noncomputable def fi70 : Fi tab := ⟨Go.Proofs.Tryd.f70, Go.Proofs.Tryd.f70.body.getD .skip, kl70, fun _ _ => False⟩
noncomputable def fi71 : Fi tab := ⟨Go.Proofs.Tryd.f71, Go.Proofs.Tryd.f71.body.getD .skip, ⟨fun _ => [], fun _ => .no, fun _ => [], false, fun _ => []⟩, strings_Contains.con⟩
def kl43 : KL := ⟨fun n => match n with
  | 0 => [0, 2, 5, 6, 7, 8, 9, 10, 11, 12, 16, 17, 18, 19, 20, 21, 22, 23, 24, 25, 26, 27, 28, 29, 30, 31, 32, 33, 34, 35, 36, 37, 38, 39, 40, 41, 42, 43, 44, 45, 46, 47, 48, 49, 50, 51, 52, 53, 54, 55, 56, 57, 58, 59, 60, 61, 62, 63, 64, 65, 66, 67, 68, 69, 70, 71, 72, 73, 74, 75, 76, 77, 78, 79, 80, 81, 82, 83, 84, 85, 86, 1000006]
  | _ => [], fun n => match n with
  | 8 => .op 1 (.op 5 (.op 7 (.op 9 (.op 11 (.op 2 (.op 12 (.op 15 (.nil))))))))
  | 11 => .op 1 (.op 3 (.op 7 (.op 9 (.op 15 (.op 17 (.op 4 (.op 10 (.op 13 (.op 18 (.op 21 (.nil)))))))))))
  | 14 => .op 1 (.op 3 (.op 7 (.op 9 (.op 4 (.op 10 (.op 13 (.nil)))))))
  | _ => .no, fun _ => [], false, fun _ => []⟩
noncomputable def fi43 : Fi tab := ⟨Go.Proofs.Tryd.f43, Go.Proofs.Tryd.f43.body.getD .skip, kl43, fun _ _ => False⟩
def kl80 : KL := ⟨fun n => match n with
  | 0 => [2, 4, 5, 6, 7, 8, 9, 10, 11, 12]
  | _ => [], fun _ => .no, fun _ => [], false, fun _ => []⟩
noncomputable def fi80 : Fi tab := ⟨Go.Proofs.Tryd.f80, Go.Proofs.Tryd.f80.body.getD .skip, kl80, fun _ _ => False⟩
def kl81 : KL := ⟨fun n => match n with
  | 0 => [4, 6, 7, 8, 9, 10, 11, 12, 13, 14, 15, 16, 17, 18, 19, 20, 21, 22, 23, 24, 25, 26]
  | _ => [], fun n => match n with
  | 2 => .op 1 (.op 3 (.op 5 (.op 7 (.op 9 (.op 11 (.op 13 (.op 15 (.op 17 (.op 19 (.op 21 (.op 23 (.op 25 (.op 27 (.op 29 (.op 31 (.op 33 (.op 35 (.nil))))))))))))))))))
  | _ => .no, fun _ => [], false, fun _ => []⟩
noncomputable def fi81 : Fi tab := ⟨Go.Proofs.Tryd.f81, Go.Proofs.Tryd.f81.body.getD .skip, kl81, fun _ _ => False⟩
def kl82 : KL := ⟨fun _ => [], fun _ => .no, fun _ => [], false, fun _ => []⟩
noncomputable def fi82 : Fi tab := ⟨Go.Proofs.Tryd.f82, Go.Proofs.Tryd.f82.body.getD .skip, kl82, fun _ _ => False⟩
def kl14 : KL := ⟨fun n => match n with
  | 0 => [2, 3, 9, 10, 11, 12, 13, 14, 15, 16, 17, 18, 19, 20, 21, 22, 23, 24, 25, 26, 27, 28, 29, 30, 31, 32, 33, 34, 35, 36, 37, 38]
  | _ => [], fun n => match n with
  | 10 => .op 1 (.op 3 (.op 5 (.op 7 (.op 9 (.op 11 (.op 12 (.op 15 (.op 17 (.op 19 (.op 21 (.op 25 (.op 27 (.op 22 (.op 29 (.nil)))))))))))))))
  | _ => .no, fun _ => [], true, fun _ => []⟩
noncomputable def fi14 : Fi tab := ⟨Go.Proofs.Tryd.f14, Go.Proofs.Tryd.f14.body.getD .skip, kl14, fun _ _ => False⟩
def kl41 : KL := ⟨fun _ => [], fun _ => .no, fun _ => [], false, fun _ => []⟩
noncomputable def fi41 : Fi tab := ⟨Go.Proofs.Tryd.f41, Go.Proofs.Tryd.f41.body.getD .skip, kl41, fun _ _ => False⟩
def kl77 : KL := ⟨fun n => match n with
  | 0 => [2, 3, 6, 7, 8, 9, 10, 11, 12, 13, 14, 15, 16, 17, 18, 19, 20, 21, 22, 23, 24, 25, 26, 27, 28, 29]
  | _ => [], fun _ => .no, fun _ => [], false, fun _ => []⟩
noncomputable def fi77 : Fi tab := ⟨Go.Proofs.Tryd.f77, Go.Proofs.Tryd.f77.body.getD .skip, kl77, fun _ _ => False⟩
def kl78 : KL := ⟨fun _ => [], fun _ => .no, fun _ => [], false, fun _ => []⟩
noncomputable def fi78 : Fi tab := ⟨Go.Proofs.Tryd.f78, Go.Proofs.Tryd.f78.body.getD .skip, kl78, fun _ _ => False⟩
def kl42 : KL := ⟨fun _ => [], fun n => match n with
  | 6 => .op 1 (.op 3 (.op 5 (.op 7 (.op 9 (.op 11 (.op 13 (.op 17 (.op 19 (.op 21 (.op 23 (.alt (.op 14 (.op 25 (.op 26 (.nil)))) (.op 26 (.op 14 (.op 25 (.nil)))))))))))))))
  | _ => .no, fun n => match n with
  | 6 => [129]
  | _ => [], false, fun _ => []⟩
noncomputable def fi42 : Fi tab := ⟨Go.Proofs.Tryd.f42, Go.Proofs.Tryd.f42.body.getD .skip, kl42, fun _ _ => False⟩
def kl79 : KL := ⟨fun _ => [], fun _ => .no, fun _ => [], false, fun _ => []⟩
noncomputable def fi79 : Fi tab := ⟨Go.Proofs.Tryd.f79, Go.Proofs.Tryd.f79.body.getD .skip, kl79, fun _ _ => False⟩
def kl108 : KL := ⟨fun _ => [], fun _ => .no, fun _ => [], false, fun _ => []⟩
noncomputable def fi108 : Fi tab := ⟨Go.Proofs.Tryd.f108, Go.Proofs.Tryd.f108.body.getD .skip, kl108, fun _ _ => False⟩
def kl25 : KL := ⟨fun n => match n with
  | 0 => [2, 6, 7, 8, 9, 10, 12, 13, 14, 15, 16, 17, 18, 19, 20, 21, 22, 23, 24, 25, 26, 27, 28, 29, 30, 31, 32, 33, 34, 35, 36, 37, 38, 39, 40, 41, 42, 43, 44, 45, 46, 47, 48, 49, 50, 51, 52, 53, 54, 55, 56, 57, 58, 59, 60, 61, 62, 63, 64, 65, 66, 67, 68, 69, 70, 71, 72, 73, 74, 75, 76, 77, 78, 79, 80, 81, 82, 83, 84, 85, 86, 87, 88, 89, 90, 91, 92, 93, 94, 95, 96, 97, 98, 99, 100, 1000006]
  | _ => [], fun _ => .no, fun _ => [], true, fun _ => []⟩
noncomputable def fi25 : Fi tab := ⟨Go.Proofs.Tryd.f25, Go.Proofs.Tryd.f25.body.getD .skip, kl25, fun _ _ => False⟩
def kl50 : KL := ⟨fun n => match n with
  | 0 => [2, 4, 5, 6, 7, 8, 9, 10, 11, 12, 13, 14, 15, 16, 17, 18, 19, 20, 21, 22, 23, 24, 25, 26, 27, 28, 29, 30, 31, 32, 33, 34, 35, 36, 37, 38, 39, 40, 41, 42, 43, 44, 45, 46, 47, 48, 49, 50, 51, 52, 53, 54, 55, 56, 57, 58, 59, 60, 61, 62, 63, 64, 65, 1000004, 1000005]
  | _ => [], fun n => match n with
  | 8 => .op 1 (.op 2 (.op 5 (.op 7 (.op 9 (.op 11 (.op 12 (.op 15 (.op 17 (.op 19 (.op 21 (.op 23 (.op 25 (.op 27 (.op 29 (.op 31 (.op 33 (.op 35 (.op 37 (.op 39 (.op 41 (.op 43 (.op 45 (.op 47 (.op 49 (.op 51 (.op 53 (.op 55 (.op 57 (.op 59 (.op 61 (.op 63 (.op 65 (.nil)))))))))))))))))))))))))))))))))
  | _ => .no, fun _ => [], false, fun _ => []⟩
noncomputable def fi50 : Fi tab := ⟨Go.Proofs.Tryd.f50, Go.Proofs.Tryd.f50.body.getD .skip, kl50, fun _ _ => False⟩
def kl34 : KL := ⟨fun n => match n with
  | 2 => [0, 2, 4, 5, 6, 7, 8, 9, 10, 11, 12, 13, 14, 15, 16, 17, 18, 19, 20, 21, 22, 23, 37, 38, 53, 54, 55, 56, 57, 58, 59, 60, 61, 62, 63, 64, 65, 66, 67, 68, 69, 70, 71, 72, 73, 74, 75, 76, 77, 78, 79, 80, 81, 82, 83, 84, 85, 86]
  | _ => [], fun _ => .no, fun _ => [], false, fun _ => []⟩
noncomputable def fi34 : Fi tab := ⟨Go.Proofs.Tryd.f34, Go.Proofs.Tryd.f34.body.getD .skip, kl34, fun _ _ => False⟩
def kl51 : KL := ⟨fun n => match n with
  | 0 => [2, 4, 5, 6, 8, 9, 10, 11, 12, 13, 14, 15, 16, 17, 18]
  | _ => [], fun _ => .no, fun _ => [], false, fun _ => []⟩
noncomputable def fi51 : Fi tab := ⟨Go.Proofs.Tryd.f51, Go.Proofs.Tryd.f51.body.getD .skip, kl51, fun _ _ => False⟩
def kl52 : KL := ⟨fun n => match n with
  | 0 => [4, 6, 7, 8, 9, 10, 11, 12, 13, 14, 15, 16, 17, 18, 19, 20, 21, 22, 23, 24, 25, 26]
  | _ => [], fun n => match n with
  | 2 => .op 1 (.op 3 (.op 5 (.op 7 (.op 9 (.op 11 (.op 13 (.op 15 (.op 17 (.op 19 (.op 21 (.op 23 (.op 25 (.op 27 (.op 29 (.op 31 (.op 33 (.op 35 (.nil))))))))))))))))))
  | _ => .no, fun _ => [], false, fun _ => []⟩
noncomputable def fi52 : Fi tab := ⟨Go.Proofs.Tryd.f52, Go.Proofs.Tryd.f52.body.getD .skip, kl52, fun _ _ => False⟩
def kl53 : KL := ⟨fun _ => [], fun _ => .no, fun _ => [], false, fun _ => []⟩
noncomputable def fi53 : Fi tab := ⟨Go.Proofs.Tryd.f53, Go.Proofs.Tryd.f53.body.getD .skip, kl53, fun _ _ => False⟩
noncomputable def F : FuncId → Option (Fi tab)
  | 5 => some fi5
  | 14 => some fi14
  | 20 => some fi20
  | 21 => some fi21
  | 22 => some fi22
  | 23 => some fi23
  | 24 => some fi24
  | 25 => some fi25
  | 34 => some fi34
  | 37 => some fi37
  | 41 => some fi41
  | 42 => some fi42
  | 43 => some fi43
  | 46 => some fi46
  | 47 => some fi47
  | 48 => some fi48
  | 49 => some fi49
  | 50 => some fi50
  | 51 => some fi51
  | 52 => some fi52
  | 53 => some fi53
  | 62 => some fi62
  | 66 => some fi66
  | 67 => some fi67
  | 69 => some fi69
  | 70 => some fi70
  | 71 => some fi71
  | 77 => some fi77
  | 78 => some fi78
  | 79 => some fi79
  | 80 => some fi80
  | 81 => some fi81
  | 82 => some fi82
  | 83 => some fi83
  | 84 => some fi84
  | 85 => some fi85
  | 86 => some fi86
  | 87 => some fi87
  | 88 => some fi88
  | 89 => some fi89
  | 90 => some fi90
  | 101 => some fi101
  | 102 => some fi102
  | 103 => some fi103
  | 108 => some fi108
  | 110 => some fi110
  | 111 => some fi111
  | 112 => some fi112
  | 113 => some fi113
  | 122 => some fi122
  | _ => none
end Go.I

/-! GILaw -/
set_option linter.unusedVariables false
set_option maxRecDepth 100000
set_option maxHeartbeats 4000000
namespace Go.I
open Go.RowKit
theorem fo5 : Go.Proofs.Tryd.prog.funcs[5]? = some fi5.fn ∧ fi5.fn.body = some fi5.body ∧ (fi5.fn.name == "runtime.NumGoroutine") = false ∧ drOK fi5.kills fi5.body = true := ⟨Go.Proofs.Tryd.func5, rfl, by kernel_rfl, by kernel_rfl⟩
theorem fo14 : Go.Proofs.Tryd.prog.funcs[14]? = some fi14.fn ∧ fi14.fn.body = some fi14.body ∧ (fi14.fn.name == "runtime.NumGoroutine") = false ∧ drOK fi14.kills fi14.body = true := ⟨Go.Proofs.Tryd.func14, rfl, by kernel_rfl, by kernel_rfl⟩
theorem fo20 : Go.Proofs.Tryd.prog.funcs[20]? = some fi20.fn ∧ fi20.fn.body = some fi20.body ∧ (fi20.fn.name == "runtime.NumGoroutine") = false ∧ drOK fi20.kills fi20.body = true := ⟨Go.Proofs.Tryd.func20, rfl, by kernel_rfl, by kernel_rfl⟩
theorem fo21 : Go.Proofs.Tryd.prog.funcs[21]? = some fi21.fn ∧ fi21.fn.body = some fi21.body ∧ (fi21.fn.name == "runtime.NumGoroutine") = false ∧ drOK fi21.kills fi21.body = true := ⟨Go.Proofs.Tryd.func21, rfl, by kernel_rfl, by kernel_rfl⟩
theorem fo22 : Go.Proofs.Tryd.prog.funcs[22]? = some fi22.fn ∧ fi22.fn.body = some fi22.body ∧ (fi22.fn.name == "runtime.NumGoroutine") = false ∧ drOK fi22.kills fi22.body = true := ⟨Go.Proofs.Tryd.func22, rfl, by kernel_rfl, by kernel_rfl⟩
theorem fo23 : Go.Proofs.Tryd.prog.funcs[23]? = some fi23.fn ∧ fi23.fn.body = some fi23.body ∧ (fi23.fn.name == "runtime.NumGoroutine") = false ∧ drOK fi23.kills fi23.body = true := ⟨Go.Proofs.Tryd.func23, rfl, by kernel_rfl, by kernel_rfl⟩
theorem fo24 : Go.Proofs.Tryd.prog.funcs[24]? = some fi24.fn ∧ fi24.fn.body = some fi24.body ∧ (fi24.fn.name == "runtime.NumGoroutine") = false ∧ drOK fi24.kills fi24.body = true := ⟨Go.Proofs.Tryd.func24, rfl, by kernel_rfl, by kernel_rfl⟩
theorem fo25 : Go.Proofs.Tryd.prog.funcs[25]? = some fi25.fn ∧ fi25.fn.body = some fi25.body ∧ (fi25.fn.name == "runtime.NumGoroutine") = false ∧ drOK fi25.kills fi25.body = true := ⟨Go.Proofs.Tryd.func25, rfl, by kernel_rfl, by kernel_rfl⟩
theorem fo34 : Go.Proofs.Tryd.prog.funcs[34]? = some fi34.fn ∧ fi34.fn.body = some fi34.body ∧ (fi34.fn.name == "runtime.NumGoroutine") = false ∧ drOK fi34.kills fi34.body = true := ⟨Go.Proofs.Tryd.func34, rfl, by kernel_rfl, by kernel_rfl⟩
theorem fo37 : Go.Proofs.Tryd.prog.funcs[37]? = some fi37.fn ∧ fi37.fn.body = some fi37.body ∧ (fi37.fn.name == "runtime.NumGoroutine") = false ∧ drOK fi37.kills fi37.body = true := ⟨Go.Proofs.Tryd.func37, rfl, by kernel_rfl, by kernel_rfl⟩
theorem fo41 : Go.Proofs.Tryd.prog.funcs[41]? = some fi41.fn ∧ fi41.fn.body = some fi41.body ∧ (fi41.fn.name == "runtime.NumGoroutine") = false ∧ drOK fi41.kills fi41.body = true := ⟨Go.Proofs.Tryd.func41, rfl, by kernel_rfl, by kernel_rfl⟩
theorem fo42 : Go.Proofs.Tryd.prog.funcs[42]? = some fi42.fn ∧ fi42.fn.body = some fi42.body ∧ (fi42.fn.name == "runtime.NumGoroutine") = false ∧ drOK fi42.kills fi42.body = true := ⟨Go.Proofs.Tryd.func42, rfl, by kernel_rfl, by kernel_rfl⟩
theorem fo43 : Go.Proofs.Tryd.prog.funcs[43]? = some fi43.fn ∧ fi43.fn.body = some fi43.body ∧ (fi43.fn.name == "runtime.NumGoroutine") = false ∧ drOK fi43.kills fi43.body = true := ⟨Go.Proofs.Tryd.func43, rfl, by kernel_rfl, by kernel_rfl⟩
theorem fo46 : Go.Proofs.Tryd.prog.funcs[46]? = some fi46.fn ∧ fi46.fn.body = some fi46.body ∧ (fi46.fn.name == "runtime.NumGoroutine") = false ∧ drOK fi46.kills fi46.body = true := ⟨Go.Proofs.Tryd.func46, rfl, by kernel_rfl, by kernel_rfl⟩
theorem fo47 : Go.Proofs.Tryd.prog.funcs[47]? = some fi47.fn ∧ fi47.fn.body = some fi47.body ∧ (fi47.fn.name == "runtime.NumGoroutine") = false ∧ drOK fi47.kills fi47.body = true := ⟨Go.Proofs.Tryd.func47, rfl, by kernel_rfl, by kernel_rfl⟩
theorem fo48 : Go.Proofs.Tryd.prog.funcs[48]? = some fi48.fn ∧ fi48.fn.body = some fi48.body ∧ (fi48.fn.name == "runtime.NumGoroutine") = false ∧ drOK fi48.kills fi48.body = true := ⟨Go.Proofs.Tryd.func48, rfl, by kernel_rfl, by kernel_rfl⟩
theorem fo49 : Go.Proofs.Tryd.prog.funcs[49]? = some fi49.fn ∧ fi49.fn.body = some fi49.body ∧ (fi49.fn.name == "runtime.NumGoroutine") = false ∧ drOK fi49.kills fi49.body = true := ⟨Go.Proofs.Tryd.func49, rfl, by kernel_rfl, by kernel_rfl⟩
theorem fo50 : Go.Proofs.Tryd.prog.funcs[50]? = some fi50.fn ∧ fi50.fn.body = some fi50.body ∧ (fi50.fn.name == "runtime.NumGoroutine") = false ∧ drOK fi50.kills fi50.body = true := ⟨Go.Proofs.Tryd.func50, rfl, by kernel_rfl, by kernel_rfl⟩
theorem fo51 : Go.Proofs.Tryd.prog.funcs[51]? = some fi51.fn ∧ fi51.fn.body = some fi51.body ∧ (fi51.fn.name == "runtime.NumGoroutine") = false ∧ drOK fi51.kills fi51.body = true := ⟨Go.Proofs.Tryd.func51, rfl, by kernel_rfl, by kernel_rfl⟩
theorem fo52 : Go.Proofs.Tryd.prog.funcs[52]? = some fi52.fn ∧ fi52.fn.body = some fi52.body ∧ (fi52.fn.name == "runtime.NumGoroutine") = false ∧ drOK fi52.kills fi52.body = true := ⟨Go.Proofs.Tryd.func52, rfl, by kernel_rfl, by kernel_rfl⟩
theorem fo53 : Go.Proofs.Tryd.prog.funcs[53]? = some fi53.fn ∧ fi53.fn.body = some fi53.body ∧ (fi53.fn.name == "runtime.NumGoroutine") = false ∧ drOK fi53.kills fi53.body = true := ⟨Go.Proofs.Tryd.func53, rfl, by kernel_rfl, by kernel_rfl⟩
theorem fo62 : Go.Proofs.Tryd.prog.funcs[62]? = some fi62.fn ∧ fi62.fn.body = some fi62.body ∧ (fi62.fn.name == "runtime.NumGoroutine") = false ∧ drOK fi62.kills fi62.body = true := ⟨Go.Proofs.Tryd.func62, rfl, by kernel_rfl, by kernel_rfl⟩
theorem fo66 : Go.Proofs.Tryd.prog.funcs[66]? = some fi66.fn ∧ fi66.fn.body = some fi66.body ∧ (fi66.fn.name == "runtime.NumGoroutine") = false ∧ drOK fi66.kills fi66.body = true := ⟨Go.Proofs.Tryd.func66, rfl, by kernel_rfl, by kernel_rfl⟩
theorem fo67 : Go.Proofs.Tryd.prog.funcs[67]? = some fi67.fn ∧ fi67.fn.body = some fi67.body ∧ (fi67.fn.name == "runtime.NumGoroutine") = false ∧ drOK fi67.kills fi67.body = true := ⟨Go.Proofs.Tryd.func67, rfl, by kernel_rfl, by kernel_rfl⟩
theorem fo69 : Go.Proofs.Tryd.prog.funcs[69]? = some fi69.fn ∧ fi69.fn.body = some fi69.body ∧ (fi69.fn.name == "runtime.NumGoroutine") = false ∧ drOK fi69.kills fi69.body = true := ⟨Go.Proofs.Tryd.func69, rfl, by kernel_rfl, by kernel_rfl⟩
theorem fo70 : Go.Proofs.Tryd.prog.funcs[70]? = some fi70.fn ∧ fi70.fn.body = some fi70.body ∧ (fi70.fn.name == "runtime.NumGoroutine") = false ∧ drOK fi70.kills fi70.body = true := ⟨Go.Proofs.Tryd.func70, rfl, by kernel_rfl, by kernel_rfl⟩
theorem fo71 : Go.Proofs.Tryd.prog.funcs[71]? = some fi71.fn ∧ fi71.fn.body = some fi71.body ∧ (fi71.fn.name == "runtime.NumGoroutine") = false ∧ drOK fi71.kills fi71.body = true := ⟨Go.Proofs.Tryd.func71, rfl, by kernel_rfl, by kernel_rfl⟩
theorem fo77 : Go.Proofs.Tryd.prog.funcs[77]? = some fi77.fn ∧ fi77.fn.body = some fi77.body ∧ (fi77.fn.name == "runtime.NumGoroutine") = false ∧ drOK fi77.kills fi77.body = true := ⟨Go.Proofs.Tryd.func77, rfl, by kernel_rfl, by kernel_rfl⟩
theorem fo78 : Go.Proofs.Tryd.prog.funcs[78]? = some fi78.fn ∧ fi78.fn.body = some fi78.body ∧ (fi78.fn.name == "runtime.NumGoroutine") = false ∧ drOK fi78.kills fi78.body = true := ⟨Go.Proofs.Tryd.func78, rfl, by kernel_rfl, by kernel_rfl⟩
theorem fo79 : Go.Proofs.Tryd.prog.funcs[79]? = some fi79.fn ∧ fi79.fn.body = some fi79.body ∧ (fi79.fn.name == "runtime.NumGoroutine") = false ∧ drOK fi79.kills fi79.body = true := ⟨Go.Proofs.Tryd.func79, rfl, by kernel_rfl, by kernel_rfl⟩
theorem fo80 : Go.Proofs.Tryd.prog.funcs[80]? = some fi80.fn ∧ fi80.fn.body = some fi80.body ∧ (fi80.fn.name == "runtime.NumGoroutine") = false ∧ drOK fi80.kills fi80.body = true := ⟨Go.Proofs.Tryd.func80, rfl, by kernel_rfl, by kernel_rfl⟩
theorem fo81 : Go.Proofs.Tryd.prog.funcs[81]? = some fi81.fn ∧ fi81.fn.body = some fi81.body ∧ (fi81.fn.name == "runtime.NumGoroutine") = false ∧ drOK fi81.kills fi81.body = true := ⟨Go.Proofs.Tryd.func81, rfl, by kernel_rfl, by kernel_rfl⟩
theorem fo82 : Go.Proofs.Tryd.prog.funcs[82]? = some fi82.fn ∧ fi82.fn.body = some fi82.body ∧ (fi82.fn.name == "runtime.NumGoroutine") = false ∧ drOK fi82.kills fi82.body = true := ⟨Go.Proofs.Tryd.func82, rfl, by kernel_rfl, by kernel_rfl⟩
theorem fo83 : Go.Proofs.Tryd.prog.funcs[83]? = some fi83.fn ∧ fi83.fn.body = some fi83.body ∧ (fi83.fn.name == "runtime.NumGoroutine") = false ∧ drOK fi83.kills fi83.body = true := ⟨Go.Proofs.Tryd.func83, rfl, by kernel_rfl, by kernel_rfl⟩
theorem fo84 : Go.Proofs.Tryd.prog.funcs[84]? = some fi84.fn ∧ fi84.fn.body = some fi84.body ∧ (fi84.fn.name == "runtime.NumGoroutine") = false ∧ drOK fi84.kills fi84.body = true := ⟨Go.Proofs.Tryd.func84, rfl, by kernel_rfl, by kernel_rfl⟩
theorem fo85 : Go.Proofs.Tryd.prog.funcs[85]? = some fi85.fn ∧ fi85.fn.body = some fi85.body ∧ (fi85.fn.name == "runtime.NumGoroutine") = false ∧ drOK fi85.kills fi85.body = true := ⟨Go.Proofs.Tryd.func85, rfl, by kernel_rfl, by kernel_rfl⟩
theorem fo86 : Go.Proofs.Tryd.prog.funcs[86]? = some fi86.fn ∧ fi86.fn.body = some fi86.body ∧ (fi86.fn.name == "runtime.NumGoroutine") = false ∧ drOK fi86.kills fi86.body = true := ⟨Go.Proofs.Tryd.func86, rfl, by kernel_rfl, by kernel_rfl⟩
theorem fo87 : Go.Proofs.Tryd.prog.funcs[87]? = some fi87.fn ∧ fi87.fn.body = some fi87.body ∧ (fi87.fn.name == "runtime.NumGoroutine") = false ∧ drOK fi87.kills fi87.body = true := ⟨Go.Proofs.Tryd.func87, rfl, by kernel_rfl, by kernel_rfl⟩
theorem fo88 : Go.Proofs.Tryd.prog.funcs[88]? = some fi88.fn ∧ fi88.fn.body = some fi88.body ∧ (fi88.fn.name == "runtime.NumGoroutine") = false ∧ drOK fi88.kills fi88.body = true := ⟨Go.Proofs.Tryd.func88, rfl, by kernel_rfl, by kernel_rfl⟩
theorem fo89 : Go.Proofs.Tryd.prog.funcs[89]? = some fi89.fn ∧ fi89.fn.body = some fi89.body ∧ (fi89.fn.name == "runtime.NumGoroutine") = false ∧ drOK fi89.kills fi89.body = true := ⟨Go.Proofs.Tryd.func89, rfl, by kernel_rfl, by kernel_rfl⟩
theorem fo90 : Go.Proofs.Tryd.prog.funcs[90]? = some fi90.fn ∧ fi90.fn.body = some fi90.body ∧ (fi90.fn.name == "runtime.NumGoroutine") = false ∧ drOK fi90.kills fi90.body = true := ⟨Go.Proofs.Tryd.func90, rfl, by kernel_rfl, by kernel_rfl⟩
theorem fo101 : Go.Proofs.Tryd.prog.funcs[101]? = some fi101.fn ∧ fi101.fn.body = some fi101.body ∧ (fi101.fn.name == "runtime.NumGoroutine") = false ∧ drOK fi101.kills fi101.body = true := ⟨Go.Proofs.Tryd.func101, rfl, by kernel_rfl, by kernel_rfl⟩
theorem fo102 : Go.Proofs.Tryd.prog.funcs[102]? = some fi102.fn ∧ fi102.fn.body = some fi102.body ∧ (fi102.fn.name == "runtime.NumGoroutine") = false ∧ drOK fi102.kills fi102.body = true := ⟨Go.Proofs.Tryd.func102, rfl, by kernel_rfl, by kernel_rfl⟩
theorem fo103 : Go.Proofs.Tryd.prog.funcs[103]? = some fi103.fn ∧ fi103.fn.body = some fi103.body ∧ (fi103.fn.name == "runtime.NumGoroutine") = false ∧ drOK fi103.kills fi103.body = true := ⟨Go.Proofs.Tryd.func103, rfl, by kernel_rfl, by kernel_rfl⟩
theorem fo108 : Go.Proofs.Tryd.prog.funcs[108]? = some fi108.fn ∧ fi108.fn.body = some fi108.body ∧ (fi108.fn.name == "runtime.NumGoroutine") = false ∧ drOK fi108.kills fi108.body = true := ⟨Go.Proofs.Tryd.func108, rfl, by kernel_rfl, by kernel_rfl⟩
theorem fo110 : Go.Proofs.Tryd.prog.funcs[110]? = some fi110.fn ∧ fi110.fn.body = some fi110.body ∧ (fi110.fn.name == "runtime.NumGoroutine") = false ∧ drOK fi110.kills fi110.body = true := ⟨Go.Proofs.Tryd.func110, rfl, by kernel_rfl, by kernel_rfl⟩
theorem fo111 : Go.Proofs.Tryd.prog.funcs[111]? = some fi111.fn ∧ fi111.fn.body = some fi111.body ∧ (fi111.fn.name == "runtime.NumGoroutine") = false ∧ drOK fi111.kills fi111.body = true := ⟨Go.Proofs.Tryd.func111, rfl, by kernel_rfl, by kernel_rfl⟩
theorem fo112 : Go.Proofs.Tryd.prog.funcs[112]? = some fi112.fn ∧ fi112.fn.body = some fi112.body ∧ (fi112.fn.name == "runtime.NumGoroutine") = false ∧ drOK fi112.kills fi112.body = true := ⟨Go.Proofs.Tryd.func112, rfl, by kernel_rfl, by kernel_rfl⟩
theorem fo113 : Go.Proofs.Tryd.prog.funcs[113]? = some fi113.fn ∧ fi113.fn.body = some fi113.body ∧ (fi113.fn.name == "runtime.NumGoroutine") = false ∧ drOK fi113.kills fi113.body = true := ⟨Go.Proofs.Tryd.func113, rfl, by kernel_rfl, by kernel_rfl⟩
theorem fo122 : Go.Proofs.Tryd.prog.funcs[122]? = some fi122.fn ∧ fi122.fn.body = some fi122.body ∧ (fi122.fn.name == "runtime.NumGoroutine") = false ∧ drOK fi122.kills fi122.body = true := ⟨Go.Proofs.Tryd.func122, rfl, by kernel_rfl, by kernel_rfl⟩
theorem funOK : FunOK Go.Proofs.Tryd.prog F := by
  intro f fi h
  unfold F at h
  split at h
  · injection h with h; subst h; exact fo5
  · injection h with h; subst h; exact fo14
  · injection h with h; subst h; exact fo20
  · injection h with h; subst h; exact fo21
  · injection h with h; subst h; exact fo22
  · injection h with h; subst h; exact fo23
  · injection h with h; subst h; exact fo24
  · injection h with h; subst h; exact fo25
  · injection h with h; subst h; exact fo34
  · injection h with h; subst h; exact fo37
  · injection h with h; subst h; exact fo41
  · injection h with h; subst h; exact fo42
  · injection h with h; subst h; exact fo43
  · injection h with h; subst h; exact fo46
  · injection h with h; subst h; exact fo47
  · injection h with h; subst h; exact fo48
  · injection h with h; subst h; exact fo49
  · injection h with h; subst h; exact fo50
  · injection h with h; subst h; exact fo51
  · injection h with h; subst h; exact fo52
  · injection h with h; subst h; exact fo53
  · injection h with h; subst h; exact fo62
  · injection h with h; subst h; exact fo66
  · injection h with h; subst h; exact fo67
  · injection h with h; subst h; exact fo69
  · injection h with h; subst h; exact fo70
  · injection h with h; subst h; exact fo71
  · injection h with h; subst h; exact fo77
  · injection h with h; subst h; exact fo78
  · injection h with h; subst h; exact fo79
  · injection h with h; subst h; exact fo80
  · injection h with h; subst h; exact fo81
  · injection h with h; subst h; exact fo82
  · injection h with h; subst h; exact fo83
  · injection h with h; subst h; exact fo84
  · injection h with h; subst h; exact fo85
  · injection h with h; subst h; exact fo86
  · injection h with h; subst h; exact fo87
  · injection h with h; subst h; exact fo88
  · injection h with h; subst h; exact fo89
  · injection h with h; subst h; exact fo90
  · injection h with h; subst h; exact fo101
  · injection h with h; subst h; exact fo102
  · injection h with h; subst h; exact fo103
  · injection h with h; subst h; exact fo108
  · injection h with h; subst h; exact fo110
  · injection h with h; subst h; exact fo111
  · injection h with h; subst h; exact fo112
  · injection h with h; subst h; exact fo113
  · injection h with h; subst h; exact fo122
  · cases h
theorem conOK : ConOK Go.Proofs.Tryd.prog tab M F := by
  intro f fi h As w ok0 r hm hp hc
  unfold F at h
  split at h
  · injection h with h; subst h; exact hc.elim
  · injection h with h; subst h; exact hc.elim
  · injection h with h; subst h; exact hc.elim
  · injection h with h; subst h; exact hc.elim
  · injection h with h; subst h; exact hc.elim
  · injection h with h; subst h; exact hc.elim
  · injection h with h; subst h; exact hc.elim
  · injection h with h; subst h; exact hc.elim
  · injection h with h; subst h; exact hc.elim
  · injection h with h; subst h; exact hc.elim
  · injection h with h; subst h; exact hc.elim
  · injection h with h; subst h; exact hc.elim
  · injection h with h; subst h; exact hc.elim
  · injection h with h; subst h; exact hc.elim
  · injection h with h; subst h; exact hc.elim
  · injection h with h; subst h; exact hc.elim
  · injection h with h; subst h; exact hc.elim
  · injection h with h; subst h; exact hc.elim
  · injection h with h; subst h; exact hc.elim
  · injection h with h; subst h; exact hc.elim
  · injection h with h; subst h; exact hc.elim
  · injection h with h; subst h; exact strings_Split.ok (M := M) rfl hm hp hc
  · injection h with h; subst h; exact hc.elim
  · injection h with h; subst h; exact hc.elim
  · injection h with h; subst h; exact hc.elim
  · injection h with h; subst h; exact hc.elim
  · injection h with h; subst h; exact strings_Contains.ok (M := M) rfl hm hp hc
  · injection h with h; subst h; exact hc.elim
  · injection h with h; subst h; exact hc.elim
  · injection h with h; subst h; exact hc.elim
  · injection h with h; subst h; exact hc.elim
  · injection h with h; subst h; exact hc.elim
  · injection h with h; subst h; exact hc.elim
  · injection h with h; subst h; exact hc.elim
  · injection h with h; subst h; exact hc.elim
  · injection h with h; subst h; exact hc.elim
  · injection h with h; subst h; exact hc.elim
  · injection h with h; subst h; exact hc.elim
  · injection h with h; subst h; exact hc.elim
  · injection h with h; subst h; exact hc.elim
  · injection h with h; subst h; exact hc.elim
  · injection h with h; subst h; exact hc.elim
  · injection h with h; subst h; exact hc.elim
  · injection h with h; subst h; exact hc.elim
  · injection h with h; subst h; exact hc.elim
  · injection h with h; subst h; exact hc.elim
  · injection h with h; subst h; exact hc.elim
  · injection h with h; subst h; exact hc.elim
  · injection h with h; subst h; exact hc.elim
  · injection h with h; subst h; exact hc.elim
  · cases h
end Go.I
