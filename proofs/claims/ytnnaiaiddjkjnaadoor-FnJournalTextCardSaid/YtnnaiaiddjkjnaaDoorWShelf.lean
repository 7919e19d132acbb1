/- What the library's strconv.Itoa answers below 100, and strings.Cut at a separator of one byte, over this program; no condition beside these. -/
import Derived.Shelf.Strconv.Itoa3
import Derived.Shelf.Strings.Search2
import Derived.Lib.CutLaws
import Derived.Lib.IndexBytes
import Derived.WalkKit
import Derived.Lib.Walk
import Derived.BigCall
import Derived.BigGuard
import Derived.Shelf.RegionOpenPlain
import Derived.Test.YtnnaiaiddjkjnaaDoorChecked
namespace Go.Proofs.YtnnaiaiddjkjnaaDoorW.Shelf
open Go.Shelf Go.RowKit
set_option linter.unusedVariables false
set_option linter.unusedSimpArgs false
def lays171_ren : Go.Shelf.Ren := ⟨fun | 171 => 47 | 243 => 55 | 246 => 63 | 283 => 68 | 284 => 69 | 285 => 70 | 286 => 71 | 129 => 75 | 317 => 74 | 318 => 76 | 319 => 77 | 320 => 78 | 337 => 79 | 338 => 80 | n => n, fun | 3 => 3 | 9 => 9 | 2 => 2 | 4 => 4 | 171 => 88 | 0 => 0 | 53 => 89 | 37 => 43 | 5 => 5 | 173 => 92 | 212 => 98 | 51 => 94 | 20 => 20 | 213 => 99 | 46 => 87 | 232 => 102 | 233 => 103 | n => n, fun | 17 => 1 | 18 => 2 | 19 => 3 | n => n⟩
theorem lays171 : Go.Proofs.Lays.n171 Tryd.prog lays171_ren := {
  mixed := by kernel_rfl,
  f129 := Tryd.func75.trans (congrArg some (by kernel_rfl)),
  f171 := Tryd.func47.trans (congrArg some (by kernel_rfl)),
  f243 := Tryd.func55.trans (congrArg some (by kernel_rfl)),
  f246 := Tryd.func63.trans (congrArg some (by kernel_rfl)),
  f283 := Tryd.func68.trans (congrArg some (by kernel_rfl)),
  f284 := Tryd.func69.trans (congrArg some (by kernel_rfl)),
  f285 := Tryd.func70.trans (congrArg some (by kernel_rfl)),
  f286 := Tryd.func71.trans (congrArg some (by kernel_rfl)),
  f317 := Tryd.func74.trans (congrArg some (by kernel_rfl)),
  f318 := Tryd.func76.trans (congrArg some (by kernel_rfl)),
  f319 := Tryd.func77.trans (congrArg some (by kernel_rfl)),
  f320 := Tryd.func78.trans (congrArg some (by kernel_rfl)),
  f337 := Tryd.func79.trans (congrArg some (by kernel_rfl)),
  f338 := Tryd.func80.trans (congrArg some (by kernel_rfl)),
  t0 := Tryd.underlying0,
  a0 := Tryd.isAgg0,
  z0 := Tryd.sizeOf0,
  v0 := Tryd.zeroValue0,
  t2 := Tryd.underlying2,
  a2 := Tryd.isAgg2,
  z2 := Tryd.sizeOf2,
  v2 := Tryd.zeroValue2,
  t3 := Tryd.underlying3,
  a3 := Tryd.isAgg3,
  z3 := Tryd.sizeOf3,
  v3 := Tryd.zeroValue3,
  t4 := Tryd.underlying4,
  a4 := Tryd.isAgg4,
  z4 := Tryd.sizeOf4,
  v4 := Tryd.zeroValue4,
  t5 := Tryd.underlying5,
  a5 := Tryd.isAgg5,
  z5 := Tryd.sizeOf5,
  v5 := Tryd.zeroValue5,
  t9 := Tryd.underlying9,
  a9 := Tryd.isAgg9,
  z9 := Tryd.sizeOf9,
  v9 := Tryd.zeroValue9,
  t20 := Tryd.underlying20,
  a20 := Tryd.isAgg20,
  z20 := Tryd.sizeOf20,
  v20 := Tryd.zeroValue20,
  t37 := Tryd.underlying43,
  a37 := Tryd.isAgg43,
  z37 := Tryd.sizeOf43,
  v37 := Tryd.zeroValue43,
  t46 := Tryd.underlying87,
  a46 := Tryd.isAgg87,
  z46 := Tryd.sizeOf87,
  v46 := Tryd.zeroValue87,
  t51 := Tryd.underlying94,
  a51 := Tryd.isAgg94,
  z51 := Tryd.sizeOf94,
  v51 := Tryd.zeroValue94,
  t53 := Tryd.underlying89,
  a53 := Tryd.isAgg89,
  z53 := Tryd.sizeOf89,
  v53 := Tryd.zeroValue89,
  t171 := Tryd.underlying88,
  a171 := Tryd.isAgg88,
  z171 := Tryd.sizeOf88,
  v171 := Tryd.zeroValue88,
  t173 := Tryd.underlying92,
  a173 := Tryd.isAgg92,
  z173 := Tryd.sizeOf92,
  v173 := Tryd.zeroValue92,
  t212 := Tryd.underlying98,
  a212 := Tryd.isAgg98,
  z212 := Tryd.sizeOf98,
  v212 := Tryd.zeroValue98,
  t213 := Tryd.underlying99,
  a213 := Tryd.isAgg99,
  z213 := Tryd.sizeOf99,
  t232 := Tryd.underlying102,
  a232 := Tryd.isAgg102,
  z232 := Tryd.sizeOf102,
  v232 := Tryd.zeroValue102,
  t233 := Tryd.underlying103,
  a233 := Tryd.isAgg103,
  z233 := Tryd.sizeOf103,
  v233 := Tryd.zeroValue103,
  g17 := by kernel_rfl,
  g18 := by kernel_rfl,
  g19 := by kernel_rfl }
def lays219_ren : Go.Shelf.Ren := ⟨fun | 219 => 56 | 217 => 64 | 225 => 65 | 224 => 66 | 267 => 67 | 266 => 72 | 314 => 73 | n => n, fun | 9 => 9 | 3 => 3 | 4 => 4 | 5 => 5 | 46 => 87 | 146 => 95 | 51 => 94 | n => n, fun | 1 => 0 | n => n⟩
theorem lays219 : Go.Proofs.Lays.n219 Tryd.prog lays219_ren := {
  mixed := by kernel_rfl,
  f217 := Tryd.func64.trans (congrArg some (by kernel_rfl)),
  f219 := Tryd.func56.trans (congrArg some (by kernel_rfl)),
  f224 := Tryd.func66.trans (congrArg some (by kernel_rfl)),
  f225 := Tryd.func65.trans (congrArg some (by kernel_rfl)),
  f266 := Tryd.func72.trans (congrArg some (by kernel_rfl)),
  f267 := Tryd.func67.trans (congrArg some (by kernel_rfl)),
  f314 := Tryd.func73.trans (congrArg some (by kernel_rfl)),
  t3 := Tryd.underlying3,
  a3 := Tryd.isAgg3,
  z3 := Tryd.sizeOf3,
  v3 := Tryd.zeroValue3,
  t4 := Tryd.underlying4,
  a4 := Tryd.isAgg4,
  z4 := Tryd.sizeOf4,
  v4 := Tryd.zeroValue4,
  t5 := Tryd.underlying5,
  a5 := Tryd.isAgg5,
  z5 := Tryd.sizeOf5,
  v5 := Tryd.zeroValue5,
  t9 := Tryd.underlying9,
  a9 := Tryd.isAgg9,
  z9 := Tryd.sizeOf9,
  v9 := Tryd.zeroValue9,
  t46 := Tryd.underlying87,
  a46 := Tryd.isAgg87,
  z46 := Tryd.sizeOf87,
  v46 := Tryd.zeroValue87,
  t51 := Tryd.underlying94,
  a51 := Tryd.isAgg94,
  z51 := Tryd.sizeOf94,
  v51 := Tryd.zeroValue94,
  t146 := Tryd.underlying95,
  a146 := Tryd.isAgg95,
  z146 := Tryd.sizeOf95,
  v146 := Tryd.zeroValue95,
  g1 := by kernel_rfl }
def cutAt (s : ByteArray) (c : UInt8) : ByteArray × ByteArray × Bool :=
  if 0 ≤ Lib.indexByte s.data.toList c then (s.extract 0 (Lib.indexByte s.data.toList c).toNat, s.extract ((Lib.indexByte s.data.toList c).toNat + 1) s.size, true) else (s, ⟨#[]⟩, false)
theorem cut_cases (s : ByteArray) (c : UInt8) : (Lib.indexByte s.data.toList c = -1 ∧ cutAt s c = (s, ⟨#[]⟩, false)) ∨ ∃ i : Nat, Lib.indexByte s.data.toList c = i ∧ i + 1 ≤ s.size ∧ cutAt s c = (s.extract 0 i, s.extract (i + 1) s.size, true) := by
  have e : Lib.indexB s ⟨#[c]⟩ = Lib.indexByte s.data.toList c := Lib.index_one s.data.toList c
  rcases Lib.indexB_cases s ⟨#[c]⟩ with h | ⟨i, h, hr⟩
  · rw [e] at h
    exact .inl ⟨h, by unfold cutAt; rw [h, if_neg (by omega)]⟩
  · rw [e] at h
    refine .inr ⟨i, h, hr, ?_⟩
    unfold cutAt
    rw [h, if_pos (by omega), Int.toNat_natCast]
theorem itoa (i : Nat) (hi : i < 100) (w : World) : Calls Tryd.prog 47 #[.int .i64 i] w fun e w' => e = .returned (.string ⟨(Lib.decDigits i).toArray⟩) ∧ w' = w := Any.strconv_Itoa_small lays171 i hi w
theorem index1 (s : ByteArray) (c : UInt8) (w : World) : Calls Tryd.prog 56 #[.string s, .string ⟨#[c]⟩] w fun e w' => e = .returned (.int .i64 (Lib.indexByte s.data.toList c)) ∧ w' = w := Any.stringslite_Index_one lays219 s c w
set_option maxHeartbeats 4000000 in
set_option maxRecDepth 100000 in
theorem cutlite (s : ByteArray) (c : UInt8) (w : World) (hs : s.size ≤ 9223372036854775807) : Calls Tryd.prog 48 #[.string s, .string ⟨#[c]⟩] w fun e w' => e = .returned (.tuple #[.string (cutAt s c).1, .string (cutAt s c).2.1, .bool (cutAt s c).2.2]) ∧ ∃ n, w' = w.drewN n := by
  rcases cut_cases s c with ⟨h, hc⟩ | ⟨i, h, hr, hc⟩
  · rw [hc]
    clear hc
    go_enter Tryd.func48, Tryd.ntmps48
    go_wp2_with (go_at_call 56; refine (index1 s c _).mono ?_; rintro e w' ⟨rfl, rfl⟩; rw [h])
    go_ret3
    exact ⟨by first | rfl | (simp; done), 0, rfl⟩
  · rw [hc]
    clear hc
    have mixed : Tryd.prog.follows Departure.mixedOrders = true := lays171.mixed
    have c0 : IntKind.i64.wrap ((i : Int) + 1) = (i : Int) + 1 := by rw [IntKind.wrap_i64]; omega
    have c5 : wrap64 ((i : Int) + 1) = (i : Int) + 1 := by unfold wrap64; omega
    have c1 : (0 : Int) ≤ ↑i := by omega
    have c2 : (↑i : Int) ≤ ↑s.size := by omega
    have c3 : (0 : Int) ≤ ↑i + 1 := by omega
    have c4 : (↑i + 1 : Int) ≤ ↑s.size := by omega
    go_enter Tryd.func48, Tryd.ntmps48
    go_wp2_with (go_at_call 56; refine (index1 s c _).mono ?_; rintro e w' ⟨rfl, rfl⟩; rw [h])
    go_region_o
    go_wp2
    go_ret3
    exact ⟨by first | rfl | (simp; done), 1, rfl⟩
set_option maxHeartbeats 4000000 in
set_option maxRecDepth 100000 in
theorem cut1 (s : ByteArray) (c : UInt8) (w : World) (hs : s.size ≤ 9223372036854775807) : Calls Tryd.prog 36 #[.string s, .string ⟨#[c]⟩] w fun e w' => e = .returned (.tuple #[.string (cutAt s c).1, .string (cutAt s c).2.1, .bool (cutAt s c).2.2]) ∧ ∃ n, w' = w.drewN n := by
  go_enter Tryd.func36, Tryd.ntmps36
  go_wp2_with (go_at_call 48; refine (cutlite s c _ hs).mono ?_; rintro e w' ⟨rfl, n, rfl⟩)
  go_ret3
  exact ⟨by first | rfl | (simp; done), n, rfl⟩

end Go.Proofs.YtnnaiaiddjkjnaaDoorW.Shelf
