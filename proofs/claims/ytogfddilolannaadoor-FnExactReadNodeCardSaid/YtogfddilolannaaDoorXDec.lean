/- What impl.decimal returns, by the shelf's contracts. No condition beside what the lemmas state. -/
import Derived.Shelf.Strconv.AtoiAll
import Derived.Test.YtogfddilolannaaDoorXStrE
set_option linter.unusedVariables false
set_option maxRecDepth 100000
namespace Go.I
open Go
def dval (l : List UInt8) : Int := match Lib.atoiAll l with
  | .ok v => v
  | .range => Lib.atoiSat l
  | _ => 0
def dok (l : List UInt8) : Bool := match Lib.atoiAll l with
  | .ok v => decide (Lib.itoa v = l)
  | _ => false
def impl_decimal.f (s : ByteArray) : Option (Int × Bool) := if s.size ≤ 281474976710656 then some (dval s.data.toList, dok s.data.toList) else none
end Go.I
namespace Go.Proofs.YtogfddilolannaaDoorW.XDec
open Go.I (dval dok)
open Go.Proofs Go.Shelf Go.RowKit Go.Lib
def lr : Go.Shelf.Ren := ⟨fun | 129 => 158 | 171 => 106 | 172 => 120 | 205 => 156 | 243 => 125 | 244 => 132 | 245 => 133 | 246 => 139 | 247 => 142 | 279 => 143 | 280 => 144 | 281 => 145 | 282 => 146 | 283 => 149 | 284 => 150 | 285 => 151 | 286 => 152 | 287 => 154 | 316 => 155 | 317 => 157 | 318 => 159 | 319 => 160 | 320 => 161 | 321 => 162 | 322 => 163 | 337 => 164 | 338 => 165 | n => n, fun | 0 => 0 | 2 => 2 | 3 => 3 | 4 => 4 | 5 => 5 | 9 => 9 | 20 => 20 | 21 => 21 | 37 => 29 | 46 => 127 | 51 => 153 | 53 => 157 | 75 => 84 | 76 => 85 | 80 => 87 | 85 => 148 | 127 => 119 | 143 => 177 | 145 => 179 | 167 => 147 | 168 => 150 | 171 => 156 | 173 => 160 | 175 => 166 | 210 => 169 | 212 => 172 | 213 => 173 | 232 => 181 | 233 => 182 | n => n, fun | 15 => 3 | 16 => 4 | 17 => 5 | 18 => 6 | 19 => 7 | n => n⟩
theorem lays_LaysC_n172 : Go.Proofs.LaysC.n172 Tryd.prog lr := {
  mixed := by kernel_rfl
  f129 := Tryd.func158.trans (congrArg some (by kernel_rfl))
  f171 := Tryd.func106.trans (congrArg some (by kernel_rfl))
  f172 := Tryd.func120.trans (congrArg some (by kernel_rfl))
  f205 := Tryd.func156.trans (congrArg some (by kernel_rfl))
  f243 := Tryd.func125.trans (congrArg some (by kernel_rfl))
  f244 := Tryd.func132.trans (congrArg some (by kernel_rfl))
  f245 := Tryd.func133.trans (congrArg some (by kernel_rfl))
  f246 := Tryd.func139.trans (congrArg some (by kernel_rfl))
  f247 := Tryd.func142.trans (congrArg some (by kernel_rfl))
  f279 := Tryd.func143.trans (congrArg some (by kernel_rfl))
  f280 := Tryd.func144.trans (congrArg some (by kernel_rfl))
  f281 := Tryd.func145.trans (congrArg some (by kernel_rfl))
  f282 := Tryd.func146.trans (congrArg some (by kernel_rfl))
  f283 := Tryd.func149.trans (congrArg some (by kernel_rfl))
  f284 := Tryd.func150.trans (congrArg some (by kernel_rfl))
  f285 := Tryd.func151.trans (congrArg some (by kernel_rfl))
  f286 := Tryd.func152.trans (congrArg some (by kernel_rfl))
  f287 := Tryd.func154.trans (congrArg some (by kernel_rfl))
  f316 := Tryd.func155.trans (congrArg some (by kernel_rfl))
  f317 := Tryd.func157.trans (congrArg some (by kernel_rfl))
  f318 := Tryd.func159.trans (congrArg some (by kernel_rfl))
  f319 := Tryd.func160.trans (congrArg some (by kernel_rfl))
  f320 := Tryd.func161.trans (congrArg some (by kernel_rfl))
  f321 := Tryd.func162.trans (congrArg some (by kernel_rfl))
  f322 := Tryd.func163.trans (congrArg some (by kernel_rfl))
  f337 := Tryd.func164.trans (congrArg some (by kernel_rfl))
  f338 := Tryd.func165.trans (congrArg some (by kernel_rfl))
  t0 := Tryd.underlying0
  a0 := Tryd.isAgg0
  z0 := Tryd.sizeOf0
  v0 := Tryd.zeroValue0
  t2 := Tryd.underlying2
  a2 := Tryd.isAgg2
  z2 := Tryd.sizeOf2
  v2 := Tryd.zeroValue2
  t3 := Tryd.underlying3
  a3 := Tryd.isAgg3
  z3 := Tryd.sizeOf3
  v3 := Tryd.zeroValue3
  t4 := Tryd.underlying4
  a4 := Tryd.isAgg4
  z4 := Tryd.sizeOf4
  v4 := Tryd.zeroValue4
  t5 := Tryd.underlying5
  a5 := Tryd.isAgg5
  z5 := Tryd.sizeOf5
  v5 := Tryd.zeroValue5
  t9 := Tryd.underlying9
  a9 := Tryd.isAgg9
  z9 := Tryd.sizeOf9
  v9 := Tryd.zeroValue9
  t20 := Tryd.underlying20
  a20 := Tryd.isAgg20
  z20 := Tryd.sizeOf20
  v20 := Tryd.zeroValue20
  t21 := Tryd.underlying21
  a21 := Tryd.isAgg21
  z21 := Tryd.sizeOf21
  v21 := Tryd.zeroValue21
  t37 := Tryd.underlying29
  a37 := Tryd.isAgg29
  z37 := Tryd.sizeOf29
  v37 := Tryd.zeroValue29
  t46 := Tryd.underlying127
  a46 := Tryd.isAgg127
  z46 := Tryd.sizeOf127
  v46 := Tryd.zeroValue127
  t51 := Tryd.underlying153
  a51 := Tryd.isAgg153
  z51 := Tryd.sizeOf153
  v51 := Tryd.zeroValue153
  t53 := Tryd.underlying157
  a53 := Tryd.isAgg157
  z53 := Tryd.sizeOf157
  v53 := Tryd.zeroValue157
  t75 := Tryd.underlying84
  a75 := Tryd.isAgg84
  z75 := Tryd.sizeOf84
  v75 := Tryd.zeroValue84
  t76 := Tryd.underlying85
  a76 := Tryd.isAgg85
  z76 := Tryd.sizeOf85
  v76 := Tryd.zeroValue85
  t85 := Tryd.underlying148
  a85 := Tryd.isAgg148
  z85 := Tryd.sizeOf148
  v85 := Tryd.zeroValue148
  t127 := Tryd.underlying119
  a127 := Tryd.isAgg119
  z127 := Tryd.sizeOf119
  v127 := Tryd.zeroValue119
  t143 := Tryd.underlying177
  a143 := Tryd.isAgg177
  z143 := Tryd.sizeOf177
  v143 := Tryd.zeroValue177
  t145 := Tryd.underlying179
  a145 := Tryd.isAgg179
  z145 := Tryd.sizeOf179
  v145 := Tryd.zeroValue179
  t167 := Tryd.underlying147
  a167 := Tryd.isAgg147
  z167 := Tryd.sizeOf147
  v167 := Tryd.zeroValue147
  t168 := Tryd.underlying150
  a168 := Tryd.isAgg150
  z168 := Tryd.sizeOf150
  v168 := Tryd.zeroValue150
  t171 := Tryd.underlying156
  a171 := Tryd.isAgg156
  z171 := Tryd.sizeOf156
  v171 := Tryd.zeroValue156
  t173 := Tryd.underlying160
  a173 := Tryd.isAgg160
  z173 := Tryd.sizeOf160
  v173 := Tryd.zeroValue160
  t175 := Tryd.underlying166
  a175 := Tryd.isAgg166
  z175 := Tryd.sizeOf166
  v175 := Tryd.zeroValue166
  t210 := Tryd.underlying169
  a210 := Tryd.isAgg169
  z210 := Tryd.sizeOf169
  v210 := Tryd.zeroValue169
  t212 := Tryd.underlying172
  a212 := Tryd.isAgg172
  z212 := Tryd.sizeOf172
  v212 := Tryd.zeroValue172
  t213 := Tryd.underlying173
  a213 := Tryd.isAgg173
  z213 := Tryd.sizeOf173
  t232 := Tryd.underlying181
  a232 := Tryd.isAgg181
  z232 := Tryd.sizeOf181
  v232 := Tryd.zeroValue181
  t233 := Tryd.underlying182
  a233 := Tryd.isAgg182
  z233 := Tryd.sizeOf182
  v233 := Tryd.zeroValue182
  g15 := by kernel_rfl
  g16 := by kernel_rfl
  g17 := by kernel_rfl
  g18 := by kernel_rfl
  g19 := by kernel_rfl
  t80 := Tryd.underlying87
  a80 := Tryd.isAgg87
  z80 := Tryd.sizeOf87
  v80 := Tryd.zeroValue87
  i0 := by kernel_rfl
  i2 := by kernel_rfl
  i3 := by kernel_rfl
  i4 := by kernel_rfl
  i5 := by kernel_rfl
  i9 := by kernel_rfl
  i20 := by kernel_rfl
  i21 := by kernel_rfl
  i37 := by kernel_rfl
  i46 := by kernel_rfl
  i51 := by kernel_rfl
  i53 := by kernel_rfl
  i75 := by kernel_rfl
  i76 := by kernel_rfl
  i80 := by kernel_rfl
  i85 := by kernel_rfl
  i127 := by kernel_rfl
  i143 := by kernel_rfl
  i145 := by kernel_rfl
  i167 := by kernel_rfl
  i168 := by kernel_rfl
  i171 := by kernel_rfl
  i173 := by kernel_rfl
  i175 := by kernel_rfl
  i210 := by kernel_rfl
  i212 := by kernel_rfl
  i232 := by kernel_rfl
  i233 := by kernel_rfl
  m15 := by kernel_rfl
  m16 := by kernel_rfl
  m17 := by kernel_rfl
  m18 := by kernel_rfl
  m19 := by kernel_rfl
  c0 := by kernel_rfl
  c2 := by kernel_rfl
  c3 := by kernel_rfl
  c4 := by kernel_rfl
  c5 := by kernel_rfl
  c9 := by kernel_rfl
  c20 := by kernel_rfl
  c21 := by kernel_rfl
  c37 := by kernel_rfl
  c46 := by kernel_rfl
  c51 := by kernel_rfl
  c53 := by kernel_rfl
  c75 := by kernel_rfl
  c76 := by kernel_rfl
  c80 := by kernel_rfl
  c85 := by kernel_rfl
  c127 := by kernel_rfl
  c143 := by kernel_rfl
  c145 := by kernel_rfl
  c167 := by kernel_rfl
  c168 := by kernel_rfl
  c171 := by kernel_rfl
  c173 := by kernel_rfl
  c175 := by kernel_rfl
  c210 := by kernel_rfl
  c212 := by kernel_rfl
  c213 := by kernel_rfl
  c232 := by kernel_rfl
  c233 := by kernel_rfl }
/-- A variable that holds an error. -/
def ErrAt (w : World) (g : Nat) : Prop := ∃ ev, w.cell? ⟨g, 0, none⟩ = some ev ∧ (ev = .nilIface ∨ ∃ te pe, ev = .iface te pe)
theorem lbw {w w' : World} {t : TypeId} (h : w' = w ∨ ∃ x, w' = Lib.bytesWorld w t x) : Below w.heap.size w w' := by
  rcases h with rfl | ⟨x, rfl⟩
  · exact Below.refl _ _
  · exact Lib.bytesWorld_below _ _ _
theorem tab_below {w w' : World} (h : Lib.TabIs Tryd.prog w "internal/strconv.uint64pow10" .u64 Lib.pow10Tab) (hg : Tryd.prog.globalNamed "internal/strconv.uint64pow10" = some 5) (hb : 5 < w.heap.size) (hw : Below w.heap.size w w') : Lib.TabIs Tryd.prog w' "internal/strconv.uint64pow10" .u64 Lib.pow10Tab := by
  unfold Lib.TabIs World.var? at h ⊢
  rw [hg] at h ⊢
  simp only [Option.bind_some] at h ⊢
  rw [hw.block _ hb]
  exact h
theorem below_gr (w : World) (k : Nat) (os : Array Obj) : Below w.heap.size w (Sort.grow (w.drewN k) os) := by
  refine ⟨rfl, rfl, rfl, ?_, fun b hb => ?_⟩
  · show w.heap.size ≤ (w.heap ++ os).size
    simp
  · show (w.heap ++ os)[b]? = w.heap[b]?
    rw [Array.getElem?_append_left hb]
set_option maxHeartbeats 4000000 in
theorem decimal_any (s : ByteArray) (hs : s.size ≤ 281474976710656) (w : World) (ht : Lib.TabIs Tryd.prog w "internal/strconv.uint64pow10" .u64 Lib.pow10Tab) (hb : 5 < w.heap.size) (h1 : ErrAt w 3) (h2 : ErrAt w 4) :
    Calls Tryd.prog 99 #[.string s] w fun e w' => e = .returned (.tuple #[.int .i64 (dval s.data.toList), .bool (dok s.data.toList)]) ∧ Below w.heap.size w w' := by
  obtain ⟨ev1, hv1, he1⟩ := h1
  obtain ⟨ev2, hv2, he2⟩ := h2
  cases hA : Lib.atoiAll s.data.toList
  · rename_i v
    obtain ⟨v0, v1⟩ := Lib.atoiAll_bounds hA
    have hd : dval s.data.toList = v := by unfold dval; rw [hA]
    have hk : dok s.data.toList = decide (Lib.itoa v = s.data.toList) := by unfold dok; rw [hA]
    rw [hd, hk]
    have cA := Any.strconv_Atoi_ok (P := Tryd.prog) (ρ := lr) lays_LaysC_n172 s (by omega) v hA w
    go_enter Tryd.func99, Tryd.ntmps99
    go_wp2_with (go_at_call 120; refine cA.mono ?_; rintro e W1 ⟨rfl, hW⟩)
    have hB := lbw hW
    go_wp2_with (go_at_call 106; refine (XStr.itoa_any v v0 v1 W1 (tab_below ht (by kernel_rfl) hb hB)).mono ?_; rintro e W2 ⟨rfl, k, os, rfl⟩)
    go_wp2
    go_ret2
    have e : (Lib.itoa v == s.toList) = decide (Lib.itoa v = s.data.toList) := by
      rw [ByteArray.toList_eq]
      by_cases h : Lib.itoa v = s.data.toList
      · rw [decide_eq_true h]; simp [h]
      · rw [decide_eq_false h]; simpa using h
    rw [e]
    exact ⟨rfl, Below.trans hB ((below_gr W1 k os).mono hB.size)⟩
  · have hd : dval s.data.toList = 0 := by unfold dval; rw [hA]
    have hk : dok s.data.toList = false := by unfold dok; rw [hA]
    rw [hd, hk]
    have cA := Any.strconv_Atoi_syntax (P := Tryd.prog) (ρ := lr) lays_LaysC_n172 s hs hA ev1 w hv1 he1
    go_enter Tryd.func99, Tryd.ntmps99
    go_wp2_with (go_at_call 120; refine cA.mono ?_; rintro e W1 ⟨N, rfl, _, _, hB⟩)
    go_wp2
    go_ret2
    exact ⟨rfl, hB⟩
  · have hd : dval s.data.toList = Lib.atoiSat s.data.toList := by unfold dval; rw [hA]
    have hk : dok s.data.toList = false := by unfold dok; rw [hA]
    rw [hd, hk]
    have cA := Any.strconv_Atoi_range (P := Tryd.prog) (ρ := lr) lays_LaysC_n172 s hs hA ev2 w hv2 he2
    go_enter Tryd.func99, Tryd.ntmps99
    go_wp2_with (go_at_call 120; refine cA.mono ?_; rintro e W1 ⟨N, rfl, _, _, hB⟩)
    go_wp2
    go_ret2
    exact ⟨rfl, hB⟩
end Go.Proofs.YtogfddilolannaaDoorW.XDec
