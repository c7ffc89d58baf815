/- The functions that the law reaches, by name, and the law's call from its plain statement. No condition. -/
import Derived.Test.YtogfddilolannaaDoorKC
import Derived.Test.YtogfddilolannaaDoorKEITab
import Derived.Test.YtogfddilolannaaDoorXStrE
import Derived.Test.YtogfddilolannaaDoorXDec
/-! EIStr -/
set_option linter.unusedVariables false
namespace Go.I
open Go.RowKit Go.Proofs.YtogfddilolannaaDoorW.PrintWords Go.Proofs.YtogfddilolannaaDoorW
def strings_Split.e (r : List ByteArray) : Res tab := (([], []), .one (.imm 9 r))
def strings_Split.con (xs : List (WT tab)) (r : Res tab) : Prop := ∃ (s t : ByteArray), ∃ b, xs = [.one (.lit (.string s)), .one (.lit (.string t))] ∧ strings_Split.f s t = some b ∧ r = strings_Split.e b
def strings_Contains.e (r : Bool) : Res tab := (([], []), .one (.lit (.bool r)))
def strings_Contains.con (xs : List (WT tab)) (r : Res tab) : Prop := ∃ (s t : ByteArray), ∃ b, xs = [.one (.lit (.string s)), .one (.lit (.string t))] ∧ strings_Contains.f s t = some b ∧ r = strings_Contains.e b
def strings_Join.e (r : ByteArray) : Res tab := (([], []), .one (.lit (.string r)))
def strings_Join.con (xs : List (WT tab)) (r : Res tab) : Prop := ∃ (l : List ByteArray) (t : ByteArray), ∃ b, xs = [.one (.imm 9 l), .one (.lit (.string t))] ∧ strings_Join.f l t = some b ∧ r = strings_Join.e b
def strconv_Itoa.e (r : ByteArray) : Res tab := (([], []), .one (.lit (.string r)))
def strconv_Itoa.con (xs : List (WT tab)) (r : Res tab) : Prop := ∃ (n : Int), ∃ b, xs = [.one (.lit (.int .i64 n))] ∧ strconv_Itoa.f n = some b ∧ r = strconv_Itoa.e b
def impl_decimal.e (r : Int × Bool) : Res tab := (([], []), .tup [(false, [.lit (.int .i64 r.1)]), (false, [.lit (.bool r.2)])])
def impl_decimal.con (xs : List (WT tab)) (r : Res tab) : Prop := ∃ (s : ByteArray), ∃ b, xs = [.one (.lit (.string s))] ∧ impl_decimal.f s = some b ∧ r = impl_decimal.e b
def stringslite_IndexByte.f (s : ByteArray) (c : Int) : Option Int := if True then some (Lib.indexByte s.data.toList c.toNat.toUInt8) else none
def stringslite_IndexByte.e (r : Int) : Res tab := (([], []), .one (.lit (.int .i64 r)))
def stringslite_IndexByte.con (xs : List (WT tab)) (r : Res tab) : Prop := ∃ (s : ByteArray) (c : Int), ∃ b, xs = [.one (.lit (.string s)), .one (.lit (.int .u8 c))] ∧ stringslite_IndexByte.f s c = some b ∧ r = stringslite_IndexByte.e b
theorem strings_Split.ok     {M : FuncId → List Md} (hM : M 62 = []) {As : List (Arg tab)} {w : World} {ok0 : Nat → Prop} {r : Res tab} (hm : Modes (M 62) As) (hp : Pre w ok0 As) (hc : strings_Split.con (As.map (·.x)) r) : Calls Go.Proofs.Tryd.prog 62 (As.map (·.c)).toArray w fun
      | .returned v, w1 => ∃ E Os, Post (tab.gives 62) w ok0 As r v w1 E Os
      | _, _ => False := by
  have hv := modes_val hM hm
  obtain ⟨s, t, b, h1, h2, rfl⟩ := hc
  unfold strings_Split.f at h2
  split at h2
  case isFalse => cases h2
  rename_i hst
  injection h2 with h2
  rw [args2 h1 hp hv]
  refine (XStr.split_one s t w hst.1 hst.2).mono fun e w1 he => ?_
  obtain ⟨rfl, rfl⟩ := he
  rw [h2]
  have hb : Below w.heap.size w (w.alloc (.cells (b.map Value.string).toArray 9)) := (Below.refl _ _).alloc (Nat.le_refl _) _
  have hlen : b.length ≤ 4294967282 := by
    have := Lib.splitB_length_le t 0 (Lib.countB s t) s
    have h3 := Lib.countB_le t (by omega) s.size s (Nat.le_refl _)
    rw [← h2]
    omega
  have hq := qrow_new w 9 1 b.length (b.map Value.string) (by simp) (by unfold maxLen; omega)
  have ho := own_strs (B := tab) (e := 9) (l := (b : List ByteArray)) (cs := b.map Value.string) rfl hq (fun j x hx => ⟨.string x, by rw [List.getElem?_map]; exact congrArg (Option.map Value.string) hx, rfl, rfl⟩)
  refine ⟨[⟨.imm 9 b, _, none_⟩], [], post_imm hv hp rfl rfl (fun y hy => by rw [List.mem_singleton.1 hy]) (fun y hy => ?_) rfl hb⟩
  rw [List.mem_singleton.1 hy]
  exact .inr (.inl ⟨_, _, _, rfl, ho.toImm (fun k hk => by simp [Value.ownBlock] at hk; subst hk; exact ⟨by simp, .inr (Nat.le_refl _)⟩)⟩)
theorem strings_Contains.ok     {M : FuncId → List Md} (hM : M 71 = []) {As : List (Arg tab)} {w : World} {ok0 : Nat → Prop} {r : Res tab} (hm : Modes (M 71) As) (hp : Pre w ok0 As) (hc : strings_Contains.con (As.map (·.x)) r) : Calls Go.Proofs.Tryd.prog 71 (As.map (·.c)).toArray w fun
      | .returned v, w1 => ∃ E Os, Post (tab.gives 71) w ok0 As r v w1 E Os
      | _, _ => False := by
  have hv := modes_val hM hm
  obtain ⟨s, t, b, h1, h2, rfl⟩ := hc
  unfold strings_Contains.f at h2
  split at h2
  case isFalse => cases h2
  rename_i ht
  injection h2 with h2
  rw [args2 h1 hp hv]
  refine (XStr.contains_one s t w ht).mono fun e w1 he => ?_
  obtain ⟨rfl, rfl⟩ := he
  rw [h2]
  exact ⟨_, [], post_one hv hp rfl (Below.refl _ _)⟩
theorem strings_Join.ok     {M : FuncId → List Md} (hM : M 72 = []) {As : List (Arg tab)} {w : World} {ok0 : Nat → Prop} {r : Res tab} (hm : Modes (M 72) As) (hp : Pre w ok0 As) (hc : strings_Join.con (As.map (·.x)) r) : Calls Go.Proofs.Tryd.prog 72 (As.map (·.c)).toArray w fun
      | .returned v, w1 => ∃ E Os, Post (tab.gives 72) w ok0 As r v w1 E Os
      | _, _ => False := by
  have hv := modes_val hM hm
  obtain ⟨l, t, b, h1, h2, rfl⟩ := hc
  unfold strings_Join.f at h2
  split at h2
  case isFalse => cases h2
  rename_i hn
  injection h2 with h2
  obtain ⟨A, As', rfl, h3, h4⟩ := List.map_eq_cons_iff.1 h1
  obtain ⟨A', rfl, h5⟩ := List.map_eq_singleton_iff.1 h4
  obtain ⟨n, hi⟩ := arg_imm (hp.ok A (by simp)) (hv A (by simp)) h3
  have hA' := arg_lit (hp.ok A' (by simp)) (hv A' (by simp)) h5
  obtain ⟨Ad, cap, hA, hcap, hrow⟩ := reads_of (B := tab) tabP.toTabE (e := 9) (R := fun (x : ByteArray) cs => cs = [.string x]) (sz := 1) hi rfl (fun m x cs h => lsI_cells (B := tab) (vs' := [.string x]) h)
  have hval : ([A, A'].map (·.c)).toArray = #[.slice Ad l.length cap, .string t] := by simp [hA, hA']; rfl
  rw [hval]
  have fin : ∀ {w1 : World}, Below w.heap.size w w1 → ∃ E Os, Post (tab.gives 72) w ok0 [A, A'] (strings_Join.e b) (.string b) w1 E Os := fun hb => ⟨_, [], post_one hv hp rfl hb⟩
  cases l with
  | nil =>
    refine (XStr.join_none Ad cap t w).mono fun e w1 he => ?_
    obtain ⟨rfl, rfl⟩ := he
    have : (⟨#[]⟩ : ByteArray) = b := by rw [← h2]; rfl
    rw [this]
    exact fin (Below.refl _ _)
  | cons x l =>
    obtain ⟨_, _, hr⟩ := hrow
    obtain ⟨ad, rfl, hc⟩ := hr (Nat.succ_pos _)
    have hcell : ∀ (j : Nat) y, (x :: l)[j]? = some y → w.cell? (ad.add j) = some (.string y) := fun j y hj => by
      obtain ⟨cs, h1, rfl, h3⟩ := hc j y hj
      have := h3 0 (.string y) rfl
      simpa using this
    have h0 : w.cell? ad = some (.string x) := by simpa [Addr.add] using hcell 0 x rfl
    obtain ⟨bk, o, sp⟩ := ad
    have hsp : sp = none := by
      cases sp with
      | none => rfl
      | some k =>
        unfold World.cell? at h0
        split at h0
        · simp at h0
        · cases h0
    subst hsp
    have hlt := block_lt h0
    refine (XStr.join_any bk o cap (x :: l) t w (fun j y hj => by rw [← add_none]; exact hcell j y hj) hlt hn.1 hcap hn.2).mono fun e w1 he => ?_
    obtain ⟨rfl, hb⟩ := he
    rw [h2]
    exact fin hb
theorem strconv_Itoa.ok     {M : FuncId → List Md} (hM : M 106 = []) {As : List (Arg tab)} {w : World} {ok0 : Nat → Prop} {r : Res tab} (hm : Modes (M 106) As) (hp : Pre w ok0 As) (hc : strconv_Itoa.con (As.map (·.x)) r) : Calls Go.Proofs.Tryd.prog 106 (As.map (·.c)).toArray w fun
      | .returned v, w1 => ∃ E Os, Post (tab.gives 106) w ok0 As r v w1 E Os
      | _, _ => False := by
  have hv := modes_val hM hm
  obtain ⟨n, b, h1, h2, rfl⟩ := hc
  unfold strconv_Itoa.f at h2
  split at h2
  case isFalse => cases h2
  rename_i hn
  injection h2 with h2
  rw [args1 h1 hp hv]
  refine (XStr.itoa_any n hn.1 hn.2 w hp.gl.2.1).mono fun e w1 he => ?_
  obtain ⟨rfl, k, os, rfl⟩ := he
  rw [h2]
  exact ⟨_, [], post_one hv hp rfl (below_grow w k os)⟩
theorem impl_decimal.ok     {M : FuncId → List Md} (hM : M 99 = []) {As : List (Arg tab)} {w : World} {ok0 : Nat → Prop} {r : Res tab} (hm : Modes (M 99) As) (hp : Pre w ok0 As) (hc : impl_decimal.con (As.map (·.x)) r) : Calls Go.Proofs.Tryd.prog 99 (As.map (·.c)).toArray w fun
      | .returned v, w1 => ∃ E Os, Post (tab.gives 99) w ok0 As r v w1 E Os
      | _, _ => False := by
  have hv := modes_val hM hm
  obtain ⟨s, b, h1, h2, rfl⟩ := hc
  unfold impl_decimal.f at h2
  split at h2
  case isFalse => cases h2
  rename_i hs
  injection h2 with h2
  rw [args1 h1 hp hv]
  refine (XDec.decimal_any s hs w hp.gl.2.1 (hp.okl _ (hp.gl.1 _ (.inl rfl))).1 hp.gl.2.2.1 hp.gl.2.2.2).mono fun e w1 he => ?_
  obtain ⟨rfl, hB⟩ := he
  rw [← h2]
  exact ⟨_, [], post_imm (E := [⟨.lit (.int .i64 (dval s.data.toList)), .int .i64 (dval s.data.toList), none_⟩, ⟨.lit (.bool (dok s.data.toList)), .bool (dok s.data.toList), none_⟩]) hv hp rfl rfl (by simp) (fun y hy => by
    rcases List.mem_cons.1 hy with rfl | hy
    · exact fin_lit rfl
    · rw [List.mem_singleton.1 hy]; exact fin_lit rfl) ⟨[[.int .i64 (dval s.data.toList)], [.bool (dok s.data.toList)]], rfl, rfl, rfl⟩ hB⟩
theorem stringslite_IndexByte.ok     {M : FuncId → List Md} (hM : M 134 = []) {As : List (Arg tab)} {w : World} {ok0 : Nat → Prop} {r : Res tab} (hm : Modes (M 134) As) (hp : Pre w ok0 As) (hc : stringslite_IndexByte.con (As.map (·.x)) r) : Calls Go.Proofs.Tryd.prog 134 (As.map (·.c)).toArray w fun
      | .returned v, w1 => ∃ E Os, Post (tab.gives 134) w ok0 As r v w1 E Os
      | _, _ => False := by
  have hv := modes_val hM hm
  obtain ⟨s, c, b, h1, h2, rfl⟩ := hc
  unfold stringslite_IndexByte.f at h2
  split at h2
  case isFalse => cases h2
  rename_i hg
  injection h2 with h2
  rw [args2 h1 hp hv]
  refine (XStr.stringslite_IndexByte_any s c w hg).mono fun e w1 he => ?_
  obtain ⟨rfl, rfl⟩ := he
  rw [h2]
  exact ⟨_, [], post_one hv hp rfl (Below.refl _ _)⟩
end Go.I

/-! EIRa -/
set_option linter.unusedVariables false
set_option linter.unusedSimpArgs false
set_option maxRecDepth 100000
set_option maxHeartbeats 4000000
namespace Go.I
open Go
def M : FuncId → List Md
  | 17 => [.own, .val]
  | 18 => [.own, .val]
  | 39 => [.ptr 2]
  | 40 => [.ptr 2]
  | 41 => [.ptr 2]
  | 42 => [.ptr 2, .val]
  | 47 => [.ptr 3, .val]
  | 56 => [.ptr 2, .val]
  | 57 => [.ptr 2]
  | 58 => [.ptr 2]
  | 63 => [.ptr 2]
  | 64 => [.ptr 2]
  | 65 => [.ptr 2]
  | 78 => [.ptr 2, .val]
  | 79 => [.ptr 2]
  | 83 => [.ptr 3, .val]
  | 84 => [.ptr 3, .val]
  | 86 => [.ptr 3]
  | 89 => [.ptr 3, .val]
  | 96 => [.ptr 2]
  | 105 => [.ptr 2, .val]
  | 109 => [.ptr 2, .val]
  | 110 => [.ptr 3]
  | 111 => [.ptr 3, .val]
  | 112 => [.ptr 3, .val]
  | 113 => [.ptr 3, .val]
  | 124 => [.ptr 2, .val]
  | 174 => [.ptr 4]
  | 175 => [.ptr 4]
  | 176 => [.ptr 1]
  | 177 => [.ptr 1]
  | 178 => [.ptr 11]
  | 181 => [.ptr 2]
  | 183 => [.ptr 3]
  | 184 => [.ptr 1]
  | _ => []
def kl7 : KL := ⟨fun _ => [], fun _ => .no, fun _ => [], false, fun _ => []⟩
noncomputable def fi7 : Fi tab := ⟨Go.Proofs.Tryd.f7, Go.Proofs.Tryd.f7.body.getD .skip, kl7, fun _ _ => False⟩
def kl31 : KL := ⟨fun n => match n with
  | 0 => [3, 7, 8, 10, 11, 12, 13, 14, 15, 16, 17, 18, 19, 20, 21, 22, 23, 24, 25, 26, 27, 28, 29, 30]
  | _ => [], fun n => match n with
  | 10 => .op 1 (.op 3 (.op 5 (.op 7 (.op 9 (.op 11 (.op 13 (.op 15 (.op 17 (.op 19 (.nil))))))))))
  | 12 => .op 1 (.op 3 (.op 5 (.op 7 (.op 9 (.op 11 (.op 13 (.op 15 (.op 17 (.op 19 (.op 21 (.op 23 (.op 25 (.op 27 (.op 29 (.op 30 (.op 33 (.nil)))))))))))))))))
  | 14 => .op 1 (.op 3 (.op 5 (.op 7 (.op 9 (.op 11 (.op 13 (.op 15 (.op 17 (.op 18 (.op 21 (.nil)))))))))))
  | _ => .no, fun _ => [], false, fun n => match n with
  | 10 => [4, 5]
  | 12 => [4, 5]
  | 14 => [4, 5]
  | _ => []⟩
noncomputable def fi31 : Fi tab := ⟨Go.Proofs.Tryd.f31, Go.Proofs.Tryd.f31.body.getD .skip, kl31, fun _ _ => False⟩
def kl59 : KL := ⟨fun n => match n with
  | 0 => [2, 6, 7, 8, 9, 10, 11, 12, 13, 14, 15, 16, 17, 18, 19, 20, 21, 22, 23, 24, 25]
  | _ => [], fun _ => .no, fun _ => [], false, fun _ => []⟩
noncomputable def fi59 : Fi tab := ⟨Go.Proofs.Tryd.f59, Go.Proofs.Tryd.f59.body.getD .skip, kl59, fun _ _ => False⟩
def kl60 : KL := ⟨fun n => match n with
  | 0 => [4, 5, 9, 10, 11, 12, 13, 14, 15, 16, 17, 18, 19, 20, 21, 22, 23, 24, 25, 26, 27, 28, 29, 30, 31, 32, 33, 34, 35, 36, 37, 38, 39, 40, 41, 42, 43, 44]
  | _ => [], fun _ => .no, fun _ => [], false, fun _ => []⟩
noncomputable def fi60 : Fi tab := ⟨Go.Proofs.Tryd.f60, Go.Proofs.Tryd.f60.body.getD .skip, kl60, fun _ _ => False⟩
def kl67 : KL := ⟨fun _ => [], fun _ => .no, fun _ => [], false, fun _ => []⟩
noncomputable def fi67 : Fi tab := ⟨Go.Proofs.Tryd.f67, Go.Proofs.Tryd.f67.body.getD .skip, kl67, fun _ _ => False⟩
def kl35 : KL := ⟨fun n => match n with
  | 0 => [2, 5, 6, 7, 8, 9, 10, 11, 12, 13, 14, 15, 16, 17, 18, 19, 20, 21, 22, 23, 24]
  | _ => [], fun _ => .no, fun _ => [], false, fun _ => []⟩
noncomputable def fi35 : Fi tab := ⟨Go.Proofs.Tryd.f35, Go.Proofs.Tryd.f35.body.getD .skip, kl35, fun _ _ => False⟩
def kl9 : KL := ⟨fun _ => [], fun n => match n with
  | 5 => .op 1 (.op 3 (.op 5 (.op 7 (.op 9 (.op 11 (.op 19 (.op 21 (.op 12 (.op 15 (.op 17 (.op 22 (.op 25 (.nil)))))))))))))
  | 7 => .op 1 (.op 3 (.op 5 (.op 7 (.op 9 (.op 11 (.op 19 (.op 21 (.op 29 (.op 31 (.op 39 (.op 41 (.op 12 (.op 15 (.op 17 (.op 22 (.op 25 (.op 27 (.op 32 (.op 35 (.op 37 (.op 42 (.op 45 (.nil)))))))))))))))))))))))
  | 8 => .op 1 (.op 3 (.op 5 (.op 7 (.op 9 (.op 11 (.op 19 (.op 21 (.op 12 (.op 15 (.op 17 (.op 22 (.op 25 (.nil)))))))))))))
  | _ => .no, fun _ => [], false, fun _ => []⟩
noncomputable def fi9 : Fi tab := ⟨Go.Proofs.Tryd.f9, Go.Proofs.Tryd.f9.body.getD .skip, kl9, fun _ _ => False⟩
def kl34 : KL := ⟨fun n => match n with
  | 2 => [0, 2, 4, 5, 6, 7, 8, 9, 10, 11, 12, 13, 14, 15, 16, 17, 18, 19, 20, 21, 22, 23, 37, 38, 53, 54, 55, 56, 57, 58, 59, 60, 61, 62, 63, 64, 65, 66, 67, 68, 69, 70, 71, 72, 73, 74, 75, 76, 77, 78, 79, 80, 81, 82, 83, 84, 85, 86]
  | _ => [], fun _ => .no, fun _ => [], false, fun _ => []⟩
noncomputable def fi34 : Fi tab := ⟨Go.Proofs.Tryd.f34, Go.Proofs.Tryd.f34.body.getD .skip, kl34, fun _ _ => False⟩
def kl66 : KL := ⟨fun n => match n with
  | 0 => [0, 2, 5, 6, 7, 8, 9, 10, 11, 12, 13, 14, 15, 16, 17, 18, 19, 20, 21]
  | _ => [], fun _ => .no, fun _ => [], false, fun _ => []⟩
noncomputable def fi66 : Fi tab := ⟨Go.Proofs.Tryd.f66, Go.Proofs.Tryd.f66.body.getD .skip, kl66, fun _ _ => False⟩
def kl101 : KL := ⟨fun n => match n with
  | 0 => [2, 6, 7, 8, 9, 10, 11, 12, 13, 14, 15, 16, 17, 18, 19, 20, 21, 22, 23, 24, 25]
  | _ => [], fun _ => .no, fun _ => [], false, fun _ => []⟩
noncomputable def fi101 : Fi tab := ⟨Go.Proofs.Tryd.f101, Go.Proofs.Tryd.f101.body.getD .skip, kl101, fun _ _ => False⟩
def kl102 : KL := ⟨fun n => match n with
  | 0 => [2, 4, 5, 6, 7, 8, 9, 10, 11, 12, 13, 14, 15, 16, 17, 18, 19, 20, 21, 22, 23, 24, 25, 26, 27, 28, 29, 30, 31, 32, 33, 34, 35, 36, 37, 38, 39, 40, 41, 42, 43, 44, 45, 46, 47, 48, 49, 50, 51, 52, 53, 54, 55, 56, 57]
  | _ => [], fun _ => .no, fun _ => [], false, fun _ => []⟩
noncomputable def fi102 : Fi tab := ⟨Go.Proofs.Tryd.f102, Go.Proofs.Tryd.f102.body.getD .skip, kl102, fun _ _ => False⟩
def kl36 : KL := ⟨fun _ => [], fun _ => .no, fun _ => [], false, fun _ => []⟩
noncomputable def fi36 : Fi tab := ⟨Go.Proofs.Tryd.f36, Go.Proofs.Tryd.f36.body.getD .skip, kl36, fun _ _ => False⟩
def kl68 : KL := ⟨fun n => match n with
  | 0 => [2, 5, 6, 7, 8, 9, 10, 11, 12, 13, 14, 15, 16, 17, 18, 19, 20, 21, 22, 23, 24, 25, 26, 27, 28, 29]
  | _ => [], fun n => match n with
  | 7 => .op 1 (.op 3 (.op 5 (.op 7 (.op 9 (.op 11 (.op 13 (.op 15 (.op 17 (.op 19 (.op 21 (.op 23 (.op 25 (.op 26 (.op 28 (.nil)))))))))))))))
  | _ => .no, fun _ => [], false, fun _ => []⟩
noncomputable def fi68 : Fi tab := ⟨Go.Proofs.Tryd.f68, Go.Proofs.Tryd.f68.body.getD .skip, kl68, fun _ _ => False⟩
def kl61 : KL := ⟨fun _ => [], fun _ => .no, fun _ => [], false, fun _ => []⟩
noncomputable def fi61 : Fi tab := ⟨Go.Proofs.Tryd.f61, Go.Proofs.Tryd.f61.body.getD .skip, kl61, fun _ _ => False⟩
def kl97 : KL := ⟨fun n => match n with
  | 0 => [2, 3, 6, 7, 8, 9, 10, 11, 12, 13, 14, 15, 16, 17, 19, 20, 21, 22, 23, 24, 25, 26, 27, 28, 29, 30, 31, 32, 33, 34, 35, 36, 37, 38, 39, 41, 42, 43, 44, 45, 46, 47, 48]
  | _ => [], fun n => match n with
  | 7 => .op 1 (.op 3 (.op 5 (.op 9 (.op 11 (.op 13 (.op 15 (.op 6 (.op 16 (.op 19 (.nil))))))))))
  | _ => .no, fun _ => [], false, fun _ => []⟩
noncomputable def fi97 : Fi tab := ⟨Go.Proofs.Tryd.f97, Go.Proofs.Tryd.f97.body.getD .skip, kl97, fun _ _ => False⟩
def kl117 : KL := ⟨fun _ => [], fun _ => .no, fun _ => [], false, fun _ => []⟩
noncomputable def fi117 : Fi tab := ⟨Go.Proofs.Tryd.f117, Go.Proofs.Tryd.f117.body.getD .skip, kl117, fun _ _ => False⟩
def kl32 : KL := ⟨fun _ => [], fun _ => .no, fun _ => [], false, fun _ => []⟩
noncomputable def fi32 : Fi tab := ⟨Go.Proofs.Tryd.f32, Go.Proofs.Tryd.f32.body.getD .skip, kl32, fun _ _ => False⟩
noncomputable def fi62 : Fi tab := ⟨Go.Proofs.Tryd.f62, Go.Proofs.Tryd.f62.body.getD .skip, ⟨fun _ => [], fun _ => .no, fun _ => [], false, fun _ => []⟩, strings_Split.con⟩
def kl63 : KL := ⟨fun _ => [], fun _ => .no, fun _ => [], false, fun _ => []⟩
noncomputable def fi63 : Fi tab := ⟨Go.Proofs.Tryd.f63, Go.Proofs.Tryd.f63.body.getD .skip, kl63, fun _ _ => False⟩
def kl64 : KL := ⟨fun _ => [], fun _ => .no, fun _ => [], false, fun _ => []⟩
noncomputable def fi64 : Fi tab := ⟨Go.Proofs.Tryd.f64, Go.Proofs.Tryd.f64.body.getD .skip, kl64, fun _ _ => False⟩
noncomputable def fi99 : Fi tab := ⟨Go.Proofs.Tryd.f99, Go.Proofs.Tryd.f99.body.getD .skip, ⟨fun _ => [], fun _ => .no, fun _ => [], false, fun _ => []⟩, impl_decimal.con⟩
def kl37 : KL := ⟨fun _ => [], fun _ => .no, fun _ => [], false, fun _ => []⟩
noncomputable def fi37 : Fi tab := ⟨Go.Proofs.Tryd.f37, Go.Proofs.Tryd.f37.body.getD .skip, kl37, fun _ _ => False⟩
def kl69 : KL := ⟨fun _ => [], fun _ => .no, fun _ => [], false, fun _ => []⟩
noncomputable def fi69 : Fi tab := ⟨Go.Proofs.Tryd.f69, Go.Proofs.Tryd.f69.body.getD .skip, kl69, fun _ _ => False⟩
def kl103 : KL := ⟨fun n => match n with
  | 0 => [0, 2, 5, 6, 7, 8, 9, 10, 11, 12, 13, 17, 18, 19, 20, 21, 22, 23]
  | _ => [], fun _ => .no, fun _ => [], true, fun _ => []⟩
noncomputable def fi103 : Fi tab := ⟨Go.Proofs.Tryd.f103, Go.Proofs.Tryd.f103.body.getD .skip, kl103, fun _ _ => False⟩
def kl122 : KL := ⟨fun n => match n with
  | 0 => [2, 3, 4, 5, 8, 9, 10, 11, 12, 13, 14, 15, 16, 17, 18, 19, 20, 21, 22, 23, 24, 25, 26, 27, 28, 29, 30, 31, 32, 33, 34, 35, 36, 37, 38, 39, 40, 41, 42, 43, 44, 45, 46, 47, 48]
  | _ => [], fun _ => .no, fun _ => [], false, fun _ => []⟩
noncomputable def fi122 : Fi tab := ⟨Go.Proofs.Tryd.f122, Go.Proofs.Tryd.f122.body.getD .skip, kl122, fun _ _ => False⟩
def kl70 : KL := ⟨fun _ => [], fun _ => .no, fun _ => [], false, fun _ => []⟩
noncomputable def fi70 : Fi tab := ⟨Go.Proofs.Tryd.f70, Go.Proofs.Tryd.f70.body.getD .skip, kl70, fun _ _ => False⟩
noncomputable def fi71 : Fi tab := ⟨Go.Proofs.Tryd.f71, Go.Proofs.Tryd.f71.body.getD .skip, ⟨fun _ => [], fun _ => .no, fun _ => [], false, fun _ => []⟩, strings_Contains.con⟩
def kl38 : KL := ⟨fun _ => [], fun n => match n with
  | 3 => .op 1 (.op 3 (.op 5 (.op 7 (.op 11 (.op 13 (.op 8 (.op 14 (.op 16 (.op 18 (.nil))))))))))
  | 5 => .op 1 (.op 3 (.op 5 (.op 7 (.op 11 (.op 13 (.op 17 (.op 19 (.op 23 (.op 25 (.op 8 (.op 14 (.op 20 (.op 26 (.op 28 (.op 30 (.nil))))))))))))))))
  | 6 => .op 1 (.op 3 (.op 5 (.op 7 (.op 11 (.op 13 (.op 8 (.op 14 (.op 16 (.op 18 (.nil))))))))))
  | _ => .no, fun _ => [], false, fun _ => []⟩
noncomputable def fi38 : Fi tab := ⟨Go.Proofs.Tryd.f38, Go.Proofs.Tryd.f38.body.getD .skip, kl38, fun _ _ => False⟩
def kl73 : KL := ⟨fun _ => [], fun _ => .no, fun _ => [], false, fun _ => []⟩
noncomputable def fi73 : Fi tab := ⟨Go.Proofs.Tryd.f73, Go.Proofs.Tryd.f73.body.getD .skip, kl73, fun _ _ => False⟩
noncomputable def fi106 : Fi tab := ⟨Go.Proofs.Tryd.f106, Go.Proofs.Tryd.f106.body.getD .skip, ⟨fun _ => [], fun _ => .no, fun _ => [], false, fun _ => []⟩, strconv_Itoa.con⟩
noncomputable def fi72 : Fi tab := ⟨Go.Proofs.Tryd.f72, Go.Proofs.Tryd.f72.body.getD .skip, ⟨fun _ => [], fun _ => .no, fun _ => [], false, fun _ => []⟩, strings_Join.con⟩
def kl74 : KL := ⟨fun _ => [], fun _ => .no, fun _ => [], false, fun _ => []⟩
noncomputable def fi74 : Fi tab := ⟨Go.Proofs.Tryd.f74, Go.Proofs.Tryd.f74.body.getD .skip, kl74, fun _ _ => False⟩
def kl107 : KL := ⟨fun n => match n with
  | 0 => [2, 4, 5, 6, 7, 8, 9, 12, 13, 14, 15, 16, 17, 18, 19, 20, 21, 22, 23, 24, 25, 26, 27]
  | _ => [], fun n => match n with
  | 5 => .op 1 (.op 3 (.op 5 (.op 7 (.op 9 (.op 11 (.op 13 (.op 15 (.op 17 (.op 19 (.op 21 (.op 22 (.op 24 (.nil)))))))))))))
  | _ => .no, fun _ => [], false, fun _ => []⟩
noncomputable def fi107 : Fi tab := ⟨Go.Proofs.Tryd.f107, Go.Proofs.Tryd.f107.body.getD .skip, kl107, fun _ _ => False⟩
def kl65 : KL := ⟨fun _ => [], fun _ => .no, fun _ => [], false, fun _ => []⟩
noncomputable def fi65 : Fi tab := ⟨Go.Proofs.Tryd.f65, Go.Proofs.Tryd.f65.body.getD .skip, kl65, fun _ _ => False⟩
def kl100 : KL := ⟨fun n => match n with
  | 0 => [2, 3, 6, 7, 8, 9, 10, 11, 12, 13, 14, 15, 16, 17, 18, 19, 20, 21, 22, 23, 24, 25, 26, 27, 28, 29, 30, 31, 32, 33, 34, 35, 36, 37, 38, 39, 40, 41, 42, 43, 44, 45, 46, 47, 48, 49]
  | _ => [], fun n => match n with
  | 7 => .op 1 (.op 3 (.op 5 (.op 9 (.op 11 (.op 13 (.op 15 (.op 6 (.op 16 (.op 19 (.nil))))))))))
  | _ => .no, fun _ => [], false, fun _ => []⟩
noncomputable def fi100 : Fi tab := ⟨Go.Proofs.Tryd.f100, Go.Proofs.Tryd.f100.body.getD .skip, kl100, fun _ _ => False⟩
def kl121 : KL := ⟨fun _ => [], fun _ => .no, fun _ => [], false, fun _ => []⟩
noncomputable def fi121 : Fi tab := ⟨Go.Proofs.Tryd.f121, Go.Proofs.Tryd.f121.body.getD .skip, kl121, fun _ _ => False⟩
noncomputable def fi134 : Fi tab := ⟨Go.Proofs.Tryd.f134, Go.Proofs.Tryd.f134.body.getD .skip, ⟨fun _ => [], fun _ => .no, fun _ => [], false, fun _ => []⟩, stringslite_IndexByte.con⟩
def kl33 : KL := ⟨fun _ => [], fun _ => .no, fun _ => [], false, fun _ => []⟩
noncomputable def fi33 : Fi tab := ⟨Go.Proofs.Tryd.f33, Go.Proofs.Tryd.f33.body.getD .skip, kl33, fun _ _ => False⟩
noncomputable def F : FuncId → Option (Fi tab)
  | 7 => some fi7
  | 9 => some fi9
  | 31 => some fi31
  | 32 => some fi32
  | 33 => some fi33
  | 34 => some fi34
  | 35 => some fi35
  | 36 => some fi36
  | 37 => some fi37
  | 38 => some fi38
  | 59 => some fi59
  | 60 => some fi60
  | 61 => some fi61
  | 62 => some fi62
  | 63 => some fi63
  | 64 => some fi64
  | 65 => some fi65
  | 66 => some fi66
  | 67 => some fi67
  | 68 => some fi68
  | 69 => some fi69
  | 70 => some fi70
  | 71 => some fi71
  | 72 => some fi72
  | 73 => some fi73
  | 74 => some fi74
  | 97 => some fi97
  | 99 => some fi99
  | 100 => some fi100
  | 101 => some fi101
  | 102 => some fi102
  | 103 => some fi103
  | 106 => some fi106
  | 107 => some fi107
  | 117 => some fi117
  | 121 => some fi121
  | 122 => some fi122
  | 134 => some fi134
  | _ => none
end Go.I

/-! EILaw -/
set_option linter.unusedVariables false
set_option maxRecDepth 100000
set_option maxHeartbeats 4000000
namespace Go.I
open Go.RowKit
theorem fo7 : Go.Proofs.Tryd.prog.funcs[7]? = some fi7.fn ∧ fi7.fn.body = some fi7.body ∧ (fi7.fn.name == "runtime.NumGoroutine") = false ∧ drOK fi7.kills fi7.body = true := ⟨Go.Proofs.Tryd.func7, rfl, by kernel_rfl, by kernel_rfl⟩
theorem fo9 : Go.Proofs.Tryd.prog.funcs[9]? = some fi9.fn ∧ fi9.fn.body = some fi9.body ∧ (fi9.fn.name == "runtime.NumGoroutine") = false ∧ drOK fi9.kills fi9.body = true := ⟨Go.Proofs.Tryd.func9, rfl, by kernel_rfl, by kernel_rfl⟩
theorem fo31 : Go.Proofs.Tryd.prog.funcs[31]? = some fi31.fn ∧ fi31.fn.body = some fi31.body ∧ (fi31.fn.name == "runtime.NumGoroutine") = false ∧ drOK fi31.kills fi31.body = true := ⟨Go.Proofs.Tryd.func31, rfl, by kernel_rfl, by kernel_rfl⟩
theorem fo32 : Go.Proofs.Tryd.prog.funcs[32]? = some fi32.fn ∧ fi32.fn.body = some fi32.body ∧ (fi32.fn.name == "runtime.NumGoroutine") = false ∧ drOK fi32.kills fi32.body = true := ⟨Go.Proofs.Tryd.func32, rfl, by kernel_rfl, by kernel_rfl⟩
theorem fo33 : Go.Proofs.Tryd.prog.funcs[33]? = some fi33.fn ∧ fi33.fn.body = some fi33.body ∧ (fi33.fn.name == "runtime.NumGoroutine") = false ∧ drOK fi33.kills fi33.body = true := ⟨Go.Proofs.Tryd.func33, rfl, by kernel_rfl, by kernel_rfl⟩
theorem fo34 : Go.Proofs.Tryd.prog.funcs[34]? = some fi34.fn ∧ fi34.fn.body = some fi34.body ∧ (fi34.fn.name == "runtime.NumGoroutine") = false ∧ drOK fi34.kills fi34.body = true := ⟨Go.Proofs.Tryd.func34, rfl, by kernel_rfl, by kernel_rfl⟩
theorem fo35 : Go.Proofs.Tryd.prog.funcs[35]? = some fi35.fn ∧ fi35.fn.body = some fi35.body ∧ (fi35.fn.name == "runtime.NumGoroutine") = false ∧ drOK fi35.kills fi35.body = true := ⟨Go.Proofs.Tryd.func35, rfl, by kernel_rfl, by kernel_rfl⟩
theorem fo36 : Go.Proofs.Tryd.prog.funcs[36]? = some fi36.fn ∧ fi36.fn.body = some fi36.body ∧ (fi36.fn.name == "runtime.NumGoroutine") = false ∧ drOK fi36.kills fi36.body = true := ⟨Go.Proofs.Tryd.func36, rfl, by kernel_rfl, by kernel_rfl⟩
theorem fo37 : Go.Proofs.Tryd.prog.funcs[37]? = some fi37.fn ∧ fi37.fn.body = some fi37.body ∧ (fi37.fn.name == "runtime.NumGoroutine") = false ∧ drOK fi37.kills fi37.body = true := ⟨Go.Proofs.Tryd.func37, rfl, by kernel_rfl, by kernel_rfl⟩
theorem fo38 : Go.Proofs.Tryd.prog.funcs[38]? = some fi38.fn ∧ fi38.fn.body = some fi38.body ∧ (fi38.fn.name == "runtime.NumGoroutine") = false ∧ drOK fi38.kills fi38.body = true := ⟨Go.Proofs.Tryd.func38, rfl, by kernel_rfl, by kernel_rfl⟩
theorem fo59 : Go.Proofs.Tryd.prog.funcs[59]? = some fi59.fn ∧ fi59.fn.body = some fi59.body ∧ (fi59.fn.name == "runtime.NumGoroutine") = false ∧ drOK fi59.kills fi59.body = true := ⟨Go.Proofs.Tryd.func59, rfl, by kernel_rfl, by kernel_rfl⟩
theorem fo60 : Go.Proofs.Tryd.prog.funcs[60]? = some fi60.fn ∧ fi60.fn.body = some fi60.body ∧ (fi60.fn.name == "runtime.NumGoroutine") = false ∧ drOK fi60.kills fi60.body = true := ⟨Go.Proofs.Tryd.func60, rfl, by kernel_rfl, by kernel_rfl⟩
theorem fo61 : Go.Proofs.Tryd.prog.funcs[61]? = some fi61.fn ∧ fi61.fn.body = some fi61.body ∧ (fi61.fn.name == "runtime.NumGoroutine") = false ∧ drOK fi61.kills fi61.body = true := ⟨Go.Proofs.Tryd.func61, rfl, by kernel_rfl, by kernel_rfl⟩
theorem fo62 : Go.Proofs.Tryd.prog.funcs[62]? = some fi62.fn ∧ fi62.fn.body = some fi62.body ∧ (fi62.fn.name == "runtime.NumGoroutine") = false ∧ drOK fi62.kills fi62.body = true := ⟨Go.Proofs.Tryd.func62, rfl, by kernel_rfl, by kernel_rfl⟩
theorem fo63 : Go.Proofs.Tryd.prog.funcs[63]? = some fi63.fn ∧ fi63.fn.body = some fi63.body ∧ (fi63.fn.name == "runtime.NumGoroutine") = false ∧ drOK fi63.kills fi63.body = true := ⟨Go.Proofs.Tryd.func63, rfl, by kernel_rfl, by kernel_rfl⟩
theorem fo64 : Go.Proofs.Tryd.prog.funcs[64]? = some fi64.fn ∧ fi64.fn.body = some fi64.body ∧ (fi64.fn.name == "runtime.NumGoroutine") = false ∧ drOK fi64.kills fi64.body = true := ⟨Go.Proofs.Tryd.func64, rfl, by kernel_rfl, by kernel_rfl⟩
theorem fo65 : Go.Proofs.Tryd.prog.funcs[65]? = some fi65.fn ∧ fi65.fn.body = some fi65.body ∧ (fi65.fn.name == "runtime.NumGoroutine") = false ∧ drOK fi65.kills fi65.body = true := ⟨Go.Proofs.Tryd.func65, rfl, by kernel_rfl, by kernel_rfl⟩
theorem fo66 : Go.Proofs.Tryd.prog.funcs[66]? = some fi66.fn ∧ fi66.fn.body = some fi66.body ∧ (fi66.fn.name == "runtime.NumGoroutine") = false ∧ drOK fi66.kills fi66.body = true := ⟨Go.Proofs.Tryd.func66, rfl, by kernel_rfl, by kernel_rfl⟩
theorem fo67 : Go.Proofs.Tryd.prog.funcs[67]? = some fi67.fn ∧ fi67.fn.body = some fi67.body ∧ (fi67.fn.name == "runtime.NumGoroutine") = false ∧ drOK fi67.kills fi67.body = true := ⟨Go.Proofs.Tryd.func67, rfl, by kernel_rfl, by kernel_rfl⟩
theorem fo68 : Go.Proofs.Tryd.prog.funcs[68]? = some fi68.fn ∧ fi68.fn.body = some fi68.body ∧ (fi68.fn.name == "runtime.NumGoroutine") = false ∧ drOK fi68.kills fi68.body = true := ⟨Go.Proofs.Tryd.func68, rfl, by kernel_rfl, by kernel_rfl⟩
theorem fo69 : Go.Proofs.Tryd.prog.funcs[69]? = some fi69.fn ∧ fi69.fn.body = some fi69.body ∧ (fi69.fn.name == "runtime.NumGoroutine") = false ∧ drOK fi69.kills fi69.body = true := ⟨Go.Proofs.Tryd.func69, rfl, by kernel_rfl, by kernel_rfl⟩
theorem fo70 : Go.Proofs.Tryd.prog.funcs[70]? = some fi70.fn ∧ fi70.fn.body = some fi70.body ∧ (fi70.fn.name == "runtime.NumGoroutine") = false ∧ drOK fi70.kills fi70.body = true := ⟨Go.Proofs.Tryd.func70, rfl, by kernel_rfl, by kernel_rfl⟩
theorem fo71 : Go.Proofs.Tryd.prog.funcs[71]? = some fi71.fn ∧ fi71.fn.body = some fi71.body ∧ (fi71.fn.name == "runtime.NumGoroutine") = false ∧ drOK fi71.kills fi71.body = true := ⟨Go.Proofs.Tryd.func71, rfl, by kernel_rfl, by kernel_rfl⟩
theorem fo72 : Go.Proofs.Tryd.prog.funcs[72]? = some fi72.fn ∧ fi72.fn.body = some fi72.body ∧ (fi72.fn.name == "runtime.NumGoroutine") = false ∧ drOK fi72.kills fi72.body = true := ⟨Go.Proofs.Tryd.func72, rfl, by kernel_rfl, by kernel_rfl⟩
theorem fo73 : Go.Proofs.Tryd.prog.funcs[73]? = some fi73.fn ∧ fi73.fn.body = some fi73.body ∧ (fi73.fn.name == "runtime.NumGoroutine") = false ∧ drOK fi73.kills fi73.body = true := ⟨Go.Proofs.Tryd.func73, rfl, by kernel_rfl, by kernel_rfl⟩
theorem fo74 : Go.Proofs.Tryd.prog.funcs[74]? = some fi74.fn ∧ fi74.fn.body = some fi74.body ∧ (fi74.fn.name == "runtime.NumGoroutine") = false ∧ drOK fi74.kills fi74.body = true := ⟨Go.Proofs.Tryd.func74, rfl, by kernel_rfl, by kernel_rfl⟩
theorem fo97 : Go.Proofs.Tryd.prog.funcs[97]? = some fi97.fn ∧ fi97.fn.body = some fi97.body ∧ (fi97.fn.name == "runtime.NumGoroutine") = false ∧ drOK fi97.kills fi97.body = true := ⟨Go.Proofs.Tryd.func97, rfl, by kernel_rfl, by kernel_rfl⟩
theorem fo99 : Go.Proofs.Tryd.prog.funcs[99]? = some fi99.fn ∧ fi99.fn.body = some fi99.body ∧ (fi99.fn.name == "runtime.NumGoroutine") = false ∧ drOK fi99.kills fi99.body = true := ⟨Go.Proofs.Tryd.func99, rfl, by kernel_rfl, by kernel_rfl⟩
theorem fo100 : Go.Proofs.Tryd.prog.funcs[100]? = some fi100.fn ∧ fi100.fn.body = some fi100.body ∧ (fi100.fn.name == "runtime.NumGoroutine") = false ∧ drOK fi100.kills fi100.body = true := ⟨Go.Proofs.Tryd.func100, rfl, by kernel_rfl, by kernel_rfl⟩
theorem fo101 : Go.Proofs.Tryd.prog.funcs[101]? = some fi101.fn ∧ fi101.fn.body = some fi101.body ∧ (fi101.fn.name == "runtime.NumGoroutine") = false ∧ drOK fi101.kills fi101.body = true := ⟨Go.Proofs.Tryd.func101, rfl, by kernel_rfl, by kernel_rfl⟩
theorem fo102 : Go.Proofs.Tryd.prog.funcs[102]? = some fi102.fn ∧ fi102.fn.body = some fi102.body ∧ (fi102.fn.name == "runtime.NumGoroutine") = false ∧ drOK fi102.kills fi102.body = true := ⟨Go.Proofs.Tryd.func102, rfl, by kernel_rfl, by kernel_rfl⟩
theorem fo103 : Go.Proofs.Tryd.prog.funcs[103]? = some fi103.fn ∧ fi103.fn.body = some fi103.body ∧ (fi103.fn.name == "runtime.NumGoroutine") = false ∧ drOK fi103.kills fi103.body = true := ⟨Go.Proofs.Tryd.func103, rfl, by kernel_rfl, by kernel_rfl⟩
theorem fo106 : Go.Proofs.Tryd.prog.funcs[106]? = some fi106.fn ∧ fi106.fn.body = some fi106.body ∧ (fi106.fn.name == "runtime.NumGoroutine") = false ∧ drOK fi106.kills fi106.body = true := ⟨Go.Proofs.Tryd.func106, rfl, by kernel_rfl, by kernel_rfl⟩
theorem fo107 : Go.Proofs.Tryd.prog.funcs[107]? = some fi107.fn ∧ fi107.fn.body = some fi107.body ∧ (fi107.fn.name == "runtime.NumGoroutine") = false ∧ drOK fi107.kills fi107.body = true := ⟨Go.Proofs.Tryd.func107, rfl, by kernel_rfl, by kernel_rfl⟩
theorem fo117 : Go.Proofs.Tryd.prog.funcs[117]? = some fi117.fn ∧ fi117.fn.body = some fi117.body ∧ (fi117.fn.name == "runtime.NumGoroutine") = false ∧ drOK fi117.kills fi117.body = true := ⟨Go.Proofs.Tryd.func117, rfl, by kernel_rfl, by kernel_rfl⟩
theorem fo121 : Go.Proofs.Tryd.prog.funcs[121]? = some fi121.fn ∧ fi121.fn.body = some fi121.body ∧ (fi121.fn.name == "runtime.NumGoroutine") = false ∧ drOK fi121.kills fi121.body = true := ⟨Go.Proofs.Tryd.func121, rfl, by kernel_rfl, by kernel_rfl⟩
theorem fo122 : Go.Proofs.Tryd.prog.funcs[122]? = some fi122.fn ∧ fi122.fn.body = some fi122.body ∧ (fi122.fn.name == "runtime.NumGoroutine") = false ∧ drOK fi122.kills fi122.body = true := ⟨Go.Proofs.Tryd.func122, rfl, by kernel_rfl, by kernel_rfl⟩
theorem fo134 : Go.Proofs.Tryd.prog.funcs[134]? = some fi134.fn ∧ fi134.fn.body = some fi134.body ∧ (fi134.fn.name == "runtime.NumGoroutine") = false ∧ drOK fi134.kills fi134.body = true := ⟨Go.Proofs.Tryd.func134, rfl, by kernel_rfl, by kernel_rfl⟩
theorem funOK : FunOK Go.Proofs.Tryd.prog F := by
  intro f fi h
  unfold F at h
  split at h
  · injection h with h; subst h; exact fo7
  · injection h with h; subst h; exact fo9
  · injection h with h; subst h; exact fo31
  · injection h with h; subst h; exact fo32
  · injection h with h; subst h; exact fo33
  · injection h with h; subst h; exact fo34
  · injection h with h; subst h; exact fo35
  · injection h with h; subst h; exact fo36
  · injection h with h; subst h; exact fo37
  · injection h with h; subst h; exact fo38
  · injection h with h; subst h; exact fo59
  · injection h with h; subst h; exact fo60
  · injection h with h; subst h; exact fo61
  · injection h with h; subst h; exact fo62
  · injection h with h; subst h; exact fo63
  · injection h with h; subst h; exact fo64
  · injection h with h; subst h; exact fo65
  · injection h with h; subst h; exact fo66
  · injection h with h; subst h; exact fo67
  · injection h with h; subst h; exact fo68
  · injection h with h; subst h; exact fo69
  · injection h with h; subst h; exact fo70
  · injection h with h; subst h; exact fo71
  · injection h with h; subst h; exact fo72
  · injection h with h; subst h; exact fo73
  · injection h with h; subst h; exact fo74
  · injection h with h; subst h; exact fo97
  · injection h with h; subst h; exact fo99
  · injection h with h; subst h; exact fo100
  · injection h with h; subst h; exact fo101
  · injection h with h; subst h; exact fo102
  · injection h with h; subst h; exact fo103
  · injection h with h; subst h; exact fo106
  · injection h with h; subst h; exact fo107
  · injection h with h; subst h; exact fo117
  · injection h with h; subst h; exact fo121
  · injection h with h; subst h; exact fo122
  · injection h with h; subst h; exact fo134
  · cases h
theorem conOK : ConOK Go.Proofs.Tryd.prog tab M F := by
  intro f fi h As w ok0 r hm hp hc
  unfold F at h
  split at h
  · injection h with h; subst h; exact hc.elim
  · injection h with h; subst h; exact hc.elim
  · injection h with h; subst h; exact hc.elim
  · injection h with h; subst h; exact hc.elim
  · injection h with h; subst h; exact hc.elim
  · injection h with h; subst h; exact hc.elim
  · injection h with h; subst h; exact hc.elim
  · injection h with h; subst h; exact hc.elim
  · injection h with h; subst h; exact hc.elim
  · injection h with h; subst h; exact hc.elim
  · injection h with h; subst h; exact hc.elim
  · injection h with h; subst h; exact hc.elim
  · injection h with h; subst h; exact hc.elim
  · injection h with h; subst h; exact strings_Split.ok (M := M) rfl hm hp hc
  · injection h with h; subst h; exact hc.elim
  · injection h with h; subst h; exact hc.elim
  · injection h with h; subst h; exact hc.elim
  · injection h with h; subst h; exact hc.elim
  · injection h with h; subst h; exact hc.elim
  · injection h with h; subst h; exact hc.elim
  · injection h with h; subst h; exact hc.elim
  · injection h with h; subst h; exact hc.elim
  · injection h with h; subst h; exact strings_Contains.ok (M := M) rfl hm hp hc
  · injection h with h; subst h; exact strings_Join.ok (M := M) rfl hm hp hc
  · injection h with h; subst h; exact hc.elim
  · injection h with h; subst h; exact hc.elim
  · injection h with h; subst h; exact hc.elim
  · injection h with h; subst h; exact impl_decimal.ok (M := M) rfl hm hp hc
  · injection h with h; subst h; exact hc.elim
  · injection h with h; subst h; exact hc.elim
  · injection h with h; subst h; exact hc.elim
  · injection h with h; subst h; exact hc.elim
  · injection h with h; subst h; exact strconv_Itoa.ok (M := M) rfl hm hp hc
  · injection h with h; subst h; exact hc.elim
  · injection h with h; subst h; exact hc.elim
  · injection h with h; subst h; exact hc.elim
  · injection h with h; subst h; exact hc.elim
  · injection h with h; subst h; exact stringslite_IndexByte.ok (M := M) rfl hm hp hc
  · cases h
end Go.I
