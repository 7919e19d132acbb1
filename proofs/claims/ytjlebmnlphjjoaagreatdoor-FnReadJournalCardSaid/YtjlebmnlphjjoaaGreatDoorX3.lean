import Derived.Test.YtjlebmnlphjjoaaGreatDoorProg
import Derived.KernelRfl
import Derived.Test.YtjlebmnlphjjoaaGreatDoorAbsD
set_option linter.unusedVariables false
set_option linter.unusedSimpArgs false
/- The functions of the program, laid out by Lean's own reckoning from the program; no condition. -/
open Go Go.Proofs.YtjlebmnlphjjoaaGreatDoor.Abs
namespace Go.Proofs.YtjlebmnlphjjoaaGreatDoor.Fx
set_option maxRecDepth 100000
set_option maxHeartbeats 8000000
set_option linter.unusedVariables false
def zdx3fl : List TypeId := [90, 39]
theorem zdx3fl_ok : FlOk Tryz.prog zdx3fl := by
  intro t ht
  simp only [zdx3fl, List.mem_cons, List.mem_nil_iff, or_false] at ht
  rcases ht with rfl | rfl <;> exact ⟨by kernel_rfl, by kernel_rfl⟩
def an3 : Ann := { flats := zdx3fl, loops := [([1, 5, 6, 7, 10], [1, 4, 5, 6, 7]), ([5, 6, 7, 13, 15, 16], [4, 5, 6, 7, 13, 15])], befs := [(19, [0, 0, 0, 6, 14, 30, 63, 127, 255, 255, 0, 1535, 4095]), (24, [0, 0, 2, 7, 15, 31, 63, 31, 31, 415, 1023, 2047, 4095, 8191, 16383, 32767, 65535, 131071, 262143, 524287, 1048575, 2097151, 4194303, 4194303, 16777215, 33554431, 67108863, 134217727, 268435455, 536870911, 1073741823])] }
def x3 : Σ' a, cFn Tryz.prog an3 Tryz.f3 = a := ⟨_, by conv => lhs; reduce⟩
theorem o3 : ∃ F ann, FlOk Tryz.prog ann.flats ∧ fnOk Tryz.prog ann F = true ∧ Tryz.prog.funcs[3 % 10000]? = some F ∧ x3.1 = cFn Tryz.prog ann F := ⟨_, an3, zdx3fl_ok, by kernel_rfl, Tryz.func3, x3.2.symm⟩
def an5 : Ann := { flats := zdx3fl, loops := [] }
def x5 : Σ' a, cFn Tryz.prog an5 Tryz.f5 = a := ⟨_, by conv => lhs; reduce⟩
theorem o5 : ∃ F ann, FlOk Tryz.prog ann.flats ∧ fnOk Tryz.prog ann F = true ∧ Tryz.prog.funcs[5 % 10000]? = some F ∧ x5.1 = cFn Tryz.prog ann F := ⟨_, an5, zdx3fl_ok, by kernel_rfl, Tryz.func5, x5.2.symm⟩
def an6 : Ann := { flats := zdx3fl, loops := [([4, 5, 6, 11, 12, 13, 14], [2, 4, 5, 6, 11, 12, 13]), ([4, 5, 6, 11, 12, 13, 15], [2, 4, 5, 6, 11, 12, 13])], befs := [(11, [0, 0, 0, 6, 15, 31, 63, 63, 0, 383, 1023]), (12, [0, 0, 0, 6, 15, 31, 63, 63, 0, 383, 1023])] }
def x6 : Σ' a, cFn Tryz.prog an6 Tryz.f6 = a := ⟨_, by conv => lhs; reduce⟩
theorem o6 : ∃ F ann, FlOk Tryz.prog ann.flats ∧ fnOk Tryz.prog ann F = true ∧ Tryz.prog.funcs[6 % 10000]? = some F ∧ x6.1 = cFn Tryz.prog ann F := ⟨_, an6, zdx3fl_ok, by kernel_rfl, Tryz.func6, x6.2.symm⟩
def an8 : Ann := { flats := zdx3fl, loops := [] }
def x8 : Σ' a, cFn Tryz.prog an8 Tryz.f8 = a := ⟨_, by conv => lhs; reduce⟩
theorem o8 : ∃ F ann, FlOk Tryz.prog ann.flats ∧ fnOk Tryz.prog ann F = true ∧ Tryz.prog.funcs[8 % 10000]? = some F ∧ x8.1 = cFn Tryz.prog ann F := ⟨_, an8, zdx3fl_ok, by kernel_rfl, Tryz.func8, x8.2.symm⟩
def an9 : Ann := { flats := zdx3fl, loops := [([0, 4, 5], [2, 3])] }
def x9 : Σ' a, cFn Tryz.prog an9 Tryz.f9 = a := ⟨_, by conv => lhs; reduce⟩
theorem o9 : ∃ F ann, FlOk Tryz.prog ann.flats ∧ fnOk Tryz.prog ann F = true ∧ Tryz.prog.funcs[9 % 10000]? = some F ∧ x9.1 = cFn Tryz.prog ann F := ⟨_, an9, zdx3fl_ok, by kernel_rfl, Tryz.func9, x9.2.symm⟩
def an10 : Ann := { flats := zdx3fl, loops := [([0, 4, 5, 6], [2, 3, 4, 5])] }
def x10 : Σ' a, cFn Tryz.prog an10 Tryz.f10 = a := ⟨_, by conv => lhs; reduce⟩
theorem o10 : ∃ F ann, FlOk Tryz.prog ann.flats ∧ fnOk Tryz.prog ann F = true ∧ Tryz.prog.funcs[10 % 10000]? = some F ∧ x10.1 = cFn Tryz.prog ann F := ⟨_, an10, zdx3fl_ok, by kernel_rfl, Tryz.func10, x10.2.symm⟩
def an11 : Ann := { flats := zdx3fl, loops := [([0, 1, 5], [4])], befs := [(6, [0, 0, 3, 7, 0, 0, 48, 112, 255])] }
def x11 : Σ' a, cFn Tryz.prog an11 Tryz.f11 = a := ⟨_, by conv => lhs; reduce⟩
theorem o11 : ∃ F ann, FlOk Tryz.prog ann.flats ∧ fnOk Tryz.prog ann F = true ∧ Tryz.prog.funcs[11 % 10000]? = some F ∧ x11.1 = cFn Tryz.prog ann F := ⟨_, an11, zdx3fl_ok, by kernel_rfl, Tryz.func11, x11.2.symm⟩
def an12 : Ann := { flats := zdx3fl, loops := [], befs := [(4, [0, 0, 1, 7]), (5, [0, 0, 0, 6, 15, 31])] }
def x12 : Σ' a, cFn Tryz.prog an12 Tryz.f12 = a := ⟨_, by conv => lhs; reduce⟩
theorem o12 : ∃ F ann, FlOk Tryz.prog ann.flats ∧ fnOk Tryz.prog ann F = true ∧ Tryz.prog.funcs[12 % 10000]? = some F ∧ x12.1 = cFn Tryz.prog ann F := ⟨_, an12, zdx3fl_ok, by kernel_rfl, Tryz.func12, x12.2.symm⟩
def an13 : Ann := { flats := zdx3fl, loops := [([1, 3], [1, 2])] }
def x13 : Σ' a, cFn Tryz.prog an13 Tryz.f13 = a := ⟨_, by conv => lhs; reduce⟩
theorem o13 : ∃ F ann, FlOk Tryz.prog ann.flats ∧ fnOk Tryz.prog ann F = true ∧ Tryz.prog.funcs[13 % 10000]? = some F ∧ x13.1 = cFn Tryz.prog ann F := ⟨_, an13, zdx3fl_ok, by kernel_rfl, Tryz.func13, x13.2.symm⟩
def an14 : Ann := { flats := zdx3fl, loops := [] }
def x14 : Σ' a, cFn Tryz.prog an14 Tryz.f14 = a := ⟨_, by conv => lhs; reduce⟩
theorem o14 : ∃ F ann, FlOk Tryz.prog ann.flats ∧ fnOk Tryz.prog ann F = true ∧ Tryz.prog.funcs[14 % 10000]? = some F ∧ x14.1 = cFn Tryz.prog ann F := ⟨_, an14, zdx3fl_ok, by kernel_rfl, Tryz.func14, x14.2.symm⟩
def an15 : Ann := { flats := zdx3fl, loops := [] }
def x15 : Σ' a, cFn Tryz.prog an15 Tryz.f15 = a := ⟨_, by conv => lhs; reduce⟩
theorem o15 : ∃ F ann, FlOk Tryz.prog ann.flats ∧ fnOk Tryz.prog ann F = true ∧ Tryz.prog.funcs[15 % 10000]? = some F ∧ x15.1 = cFn Tryz.prog ann F := ⟨_, an15, zdx3fl_ok, by kernel_rfl, Tryz.func15, x15.2.symm⟩
def an16 : Ann := { flats := zdx3fl, loops := [([2, 4, 6, 22, 23, 24], [2, 4, 6])], var := [(21, 1)] }
def x16 : Σ' a, cFn Tryz.prog an16 Tryz.f16 = a := ⟨_, by conv => lhs; reduce⟩
theorem o16 : ∃ F ann, FlOk Tryz.prog ann.flats ∧ fnOk Tryz.prog ann F = true ∧ Tryz.prog.funcs[16 % 10000]? = some F ∧ x16.1 = cFn Tryz.prog ann F := ⟨_, an16, zdx3fl_ok, by kernel_rfl, Tryz.func16, x16.2.symm⟩
def an17 : Ann := { flats := zdx3fl, loops := [([3, 7, 8, 9], [2, 3])] }
def x17 : Σ' a, cFn Tryz.prog an17 Tryz.f17 = a := ⟨_, by conv => lhs; reduce⟩
theorem o17 : ∃ F ann, FlOk Tryz.prog ann.flats ∧ fnOk Tryz.prog ann F = true ∧ Tryz.prog.funcs[17 % 10000]? = some F ∧ x17.1 = cFn Tryz.prog ann F := ⟨_, an17, zdx3fl_ok, by kernel_rfl, Tryz.func17, x17.2.symm⟩
def an18 : Ann := { flats := zdx3fl, loops := [([2, 3, 5], [2, 3, 4])], befs := [(6, [0, 1, 0, 7, 15, 0, 32, 0, 224, 480, 1023, 2047])] }
def x18 : Σ' a, cFn Tryz.prog an18 Tryz.f18 = a := ⟨_, by conv => lhs; reduce⟩
theorem o18 : ∃ F ann, FlOk Tryz.prog ann.flats ∧ fnOk Tryz.prog ann F = true ∧ Tryz.prog.funcs[18 % 10000]? = some F ∧ x18.1 = cFn Tryz.prog ann F := ⟨_, an18, zdx3fl_ok, by kernel_rfl, Tryz.func18, x18.2.symm⟩
def an19 : Ann := { flats := zdx3fl, loops := [] }
def x19 : Σ' a, cFn Tryz.prog an19 Tryz.f19 = a := ⟨_, by conv => lhs; reduce⟩
theorem o19 : ∃ F ann, FlOk Tryz.prog ann.flats ∧ fnOk Tryz.prog ann F = true ∧ Tryz.prog.funcs[19 % 10000]? = some F ∧ x19.1 = cFn Tryz.prog ann F := ⟨_, an19, zdx3fl_ok, by kernel_rfl, Tryz.func19, x19.2.symm⟩
def an21 : Ann := { flats := zdx3fl, loops := [([4, 6, 11, 13, 14], [4, 6, 13]), ([1, 2, 4, 6, 15], [1, 2, 4, 5, 6])], befs := [(12, [0, 0, 2, 6, 14, 31, 63]), (14, [0, 0, 2, 6, 14, 31, 63]), (29, [0, 0, 2, 0, 14, 30, 62, 127, 255]), (34, [0, 1, 3, 7, 3, 19, 63, 127, 255]), (39, [0, 0, 2, 6, 15, 31])] }
def x21 : Σ' a, cFn Tryz.prog an21 Tryz.f21 = a := ⟨_, by conv => lhs; reduce⟩
theorem o21 : ∃ F ann, FlOk Tryz.prog ann.flats ∧ fnOk Tryz.prog ann F = true ∧ Tryz.prog.funcs[21 % 10000]? = some F ∧ x21.1 = cFn Tryz.prog ann F := ⟨_, an21, zdx3fl_ok, by kernel_rfl, Tryz.func21, x21.2.symm⟩
def an26 : Ann := { flats := zdx3fl, loops := [], befs := [(3, [0, 0, 0, 6, 15, 31])] }
def x26 : Σ' a, cFn Tryz.prog an26 Tryz.f26 = a := ⟨_, by conv => lhs; reduce⟩
theorem o26 : ∃ F ann, FlOk Tryz.prog ann.flats ∧ fnOk Tryz.prog ann F = true ∧ Tryz.prog.funcs[26 % 10000]? = some F ∧ x26.1 = cFn Tryz.prog ann F := ⟨_, an26, zdx3fl_ok, by kernel_rfl, Tryz.func26, x26.2.symm⟩
def an27 : Ann := { flats := zdx3fl, loops := [] }
def x27 : Σ' a, cFn Tryz.prog an27 Tryz.f27 = a := ⟨_, by conv => lhs; reduce⟩
theorem o27 : ∃ F ann, FlOk Tryz.prog ann.flats ∧ fnOk Tryz.prog ann F = true ∧ Tryz.prog.funcs[27 % 10000]? = some F ∧ x27.1 = cFn Tryz.prog ann F := ⟨_, an27, zdx3fl_ok, by kernel_rfl, Tryz.func27, x27.2.symm⟩
def an28 : Ann := { flats := zdx3fl, loops := [] }
def x28 : Σ' a, cFn Tryz.prog an28 Tryz.f28 = a := ⟨_, by conv => lhs; reduce⟩
theorem o28 : ∃ F ann, FlOk Tryz.prog ann.flats ∧ fnOk Tryz.prog ann F = true ∧ Tryz.prog.funcs[28 % 10000]? = some F ∧ x28.1 = cFn Tryz.prog ann F := ⟨_, an28, zdx3fl_ok, by kernel_rfl, Tryz.func28, x28.2.symm⟩
def an29 : Ann := { flats := zdx3fl, loops := [([2, 4, 5, 6, 7], [2, 4, 5, 6])] }
def x29 : Σ' a, cFn Tryz.prog an29 Tryz.f29 = a := ⟨_, by conv => lhs; reduce⟩
theorem o29 : ∃ F ann, FlOk Tryz.prog ann.flats ∧ fnOk Tryz.prog ann F = true ∧ Tryz.prog.funcs[29 % 10000]? = some F ∧ x29.1 = cFn Tryz.prog ann F := ⟨_, an29, zdx3fl_ok, by kernel_rfl, Tryz.func29, x29.2.symm⟩
def an30 : Ann := { flats := zdx3fl, loops := [([2, 4, 6, 23, 24, 25], [2, 4, 6])] }
def x30 : Σ' a, cFn Tryz.prog an30 Tryz.f30 = a := ⟨_, by conv => lhs; reduce⟩
theorem o30 : ∃ F ann, FlOk Tryz.prog ann.flats ∧ fnOk Tryz.prog ann F = true ∧ Tryz.prog.funcs[30 % 10000]? = some F ∧ x30.1 = cFn Tryz.prog ann F := ⟨_, an30, zdx3fl_ok, by kernel_rfl, Tryz.func30, x30.2.symm⟩
def an31 : Ann := { flats := zdx3fl, loops := [([1, 4, 6, 7, 8], [4, 6, 7])], befs := [(8, [0, 0, 0, 6, 14, 31, 63, 127, 127, 0, 767, 2047])] }
def x31 : Σ' a, cFn Tryz.prog an31 Tryz.f31 = a := ⟨_, by conv => lhs; reduce⟩
theorem o31 : ∃ F ann, FlOk Tryz.prog ann.flats ∧ fnOk Tryz.prog ann F = true ∧ Tryz.prog.funcs[31 % 10000]? = some F ∧ x31.1 = cFn Tryz.prog ann F := ⟨_, an31, zdx3fl_ok, by kernel_rfl, Tryz.func31, x31.2.symm⟩
def an32 : Ann := { flats := zdx3fl, loops := [([0, 1, 5], [4])], befs := [(6, [0, 0, 3, 7, 0, 0, 48, 112, 255])] }
def x32 : Σ' a, cFn Tryz.prog an32 Tryz.f32 = a := ⟨_, by conv => lhs; reduce⟩
theorem o32 : ∃ F ann, FlOk Tryz.prog ann.flats ∧ fnOk Tryz.prog ann F = true ∧ Tryz.prog.funcs[32 % 10000]? = some F ∧ x32.1 = cFn Tryz.prog ann F := ⟨_, an32, zdx3fl_ok, by kernel_rfl, Tryz.func32, x32.2.symm⟩
def an38 : Ann := { flats := zdx3fl, loops := [], keep := true }
def x38 : Σ' a, cFn Tryz.prog an38 Tryz.f38 = a := ⟨_, by conv => lhs; reduce⟩
theorem o38 : ∃ F ann, FlOk Tryz.prog ann.flats ∧ fnOk Tryz.prog ann F = true ∧ Tryz.prog.funcs[38 % 10000]? = some F ∧ x38.1 = cFn Tryz.prog ann F := ⟨_, an38, zdx3fl_ok, by kernel_rfl, Tryz.func38, x38.2.symm⟩
def an39 : Ann := { flats := zdx3fl, loops := [([0, 3, 4], [2, 3])] }
def x39 : Σ' a, cFn Tryz.prog an39 Tryz.f39 = a := ⟨_, by conv => lhs; reduce⟩
theorem o39 : ∃ F ann, FlOk Tryz.prog ann.flats ∧ fnOk Tryz.prog ann F = true ∧ Tryz.prog.funcs[39 % 10000]? = some F ∧ x39.1 = cFn Tryz.prog ann F := ⟨_, an39, zdx3fl_ok, by kernel_rfl, Tryz.func39, x39.2.symm⟩
def an40 : Ann := { flats := zdx3fl, loops := [([3, 4, 5], [3])] }
def x40 : Σ' a, cFn Tryz.prog an40 Tryz.f40 = a := ⟨_, by conv => lhs; reduce⟩
theorem o40 : ∃ F ann, FlOk Tryz.prog ann.flats ∧ fnOk Tryz.prog ann F = true ∧ Tryz.prog.funcs[40 % 10000]? = some F ∧ x40.1 = cFn Tryz.prog ann F := ⟨_, an40, zdx3fl_ok, by kernel_rfl, Tryz.func40, x40.2.symm⟩
def an41 : Ann := { flats := zdx3fl, loops := [], befs := [(7, [0, 1, 3, 7, 0, 0, 32, 96, 224, 480, 1008, 2047, 4095, 8191, 16383, 0, 32768, 98304, 229376, 0, 524288, 1572864, 0, 4194304, 12582912, 29360128, 62914560, 133693440, 268402688, 536838144, 1073709056, 2147450880, 4294967295, 0, 8589934592, 34359738367, 0, 0, 137438953472, 412316860416, 962072674304, 2061584302080, 4329327034368, 8727373545472, 17592186044415, 35184372088831])] }
def x41 : Σ' a, cFn Tryz.prog an41 Tryz.f41 = a := ⟨_, by conv => lhs; reduce⟩
theorem o41 : ∃ F ann, FlOk Tryz.prog ann.flats ∧ fnOk Tryz.prog ann F = true ∧ Tryz.prog.funcs[41 % 10000]? = some F ∧ x41.1 = cFn Tryz.prog ann F := ⟨_, an41, zdx3fl_ok, by kernel_rfl, Tryz.func41, x41.2.symm⟩
def an42 : Ann := { flats := zdx3fl, loops := [], befs := [(4, [0, 0, 3, 0, 0, 16, 56, 120, 255, 0, 0, 1024, 3584, 8191, 16383])] }
def x42 : Σ' a, cFn Tryz.prog an42 Tryz.f42 = a := ⟨_, by conv => lhs; reduce⟩
theorem o42 : ∃ F ann, FlOk Tryz.prog ann.flats ∧ fnOk Tryz.prog ann F = true ∧ Tryz.prog.funcs[42 % 10000]? = some F ∧ x42.1 = cFn Tryz.prog ann F := ⟨_, an42, zdx3fl_ok, by kernel_rfl, Tryz.func42, x42.2.symm⟩
def an43 : Ann := { flats := zdx3fl, loops := [] }
def x43 : Σ' a, cFn Tryz.prog an43 Tryz.f43 = a := ⟨_, by conv => lhs; reduce⟩
theorem o43 : ∃ F ann, FlOk Tryz.prog ann.flats ∧ fnOk Tryz.prog ann F = true ∧ Tryz.prog.funcs[43 % 10000]? = some F ∧ x43.1 = cFn Tryz.prog ann F := ⟨_, an43, zdx3fl_ok, by kernel_rfl, Tryz.func43, x43.2.symm⟩
end Go.Proofs.YtjlebmnlphjjoaaGreatDoor.Fx
