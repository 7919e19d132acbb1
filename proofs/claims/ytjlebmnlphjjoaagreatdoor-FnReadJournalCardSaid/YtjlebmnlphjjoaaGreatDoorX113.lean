import Derived.Test.YtjlebmnlphjjoaaGreatDoorProg
import Derived.KernelRfl
import Derived.Test.YtjlebmnlphjjoaaGreatDoorAbsD
set_option linter.unusedVariables false
set_option linter.unusedSimpArgs false
/- The functions of the program, laid out by Lean's own reckoning from the program; no condition. -/
open Go Go.Proofs.YtjlebmnlphjjoaaGreatDoor.Abs
namespace Go.Proofs.YtjlebmnlphjjoaaGreatDoor.Fx
set_option maxRecDepth 100000
set_option maxHeartbeats 8000000
set_option linter.unusedVariables false
def zdx113fl : List TypeId := [90, 39]
theorem zdx113fl_ok : FlOk Tryz.prog zdx113fl := by
  intro t ht
  simp only [zdx113fl, List.mem_cons, List.mem_nil_iff, or_false] at ht
  rcases ht with rfl | rfl <;> exact ⟨by kernel_rfl, by kernel_rfl⟩
def an113 : Ann := { flats := zdx113fl, loops := [] }
def x113 : Σ' a, cFn Tryz.prog an113 Tryz.f113 = a := ⟨_, by conv => lhs; reduce⟩
theorem o113 : ∃ F ann, FlOk Tryz.prog ann.flats ∧ fnOk Tryz.prog ann F = true ∧ Tryz.prog.funcs[113 % 10000]? = some F ∧ x113.1 = cFn Tryz.prog ann F := ⟨_, an113, zdx113fl_ok, by kernel_rfl, Tryz.func113, x113.2.symm⟩
def an114 : Ann := { flats := zdx113fl, loops := [([1, 7, 84, 85, 86], [7])], befs := [(4, [0, 0, 2, 6, 14, 30, 0, 64, 192, 448, 1022, 2047, 4095]), (5, [0, 0, 2, 6, 14, 30, 0, 64, 192, 448, 1022, 2047, 4095]), (6, [0, 1, 3, 7, 15, 31, 0, 127, 0, 256, 768, 1792, 3840, 7936, 0, 32767, 65535, 131071])] }
def x114 : Σ' a, cFn Tryz.prog an114 Tryz.f114 = a := ⟨_, by conv => lhs; reduce⟩
theorem o114 : ∃ F ann, FlOk Tryz.prog ann.flats ∧ fnOk Tryz.prog ann F = true ∧ Tryz.prog.funcs[114 % 10000]? = some F ∧ x114.1 = cFn Tryz.prog ann F := ⟨_, an114, zdx113fl_ok, by kernel_rfl, Tryz.func114, x114.2.symm⟩
def an115 : Ann := { flats := zdx113fl, loops := [] }
def x115 : Σ' a, cFn Tryz.prog an115 Tryz.f115 = a := ⟨_, by conv => lhs; reduce⟩
theorem o115 : ∃ F ann, FlOk Tryz.prog ann.flats ∧ fnOk Tryz.prog ann F = true ∧ Tryz.prog.funcs[115 % 10000]? = some F ∧ x115.1 = cFn Tryz.prog ann F := ⟨_, an115, zdx113fl_ok, by kernel_rfl, Tryz.func115, x115.2.symm⟩
def an116 : Ann := { flats := zdx113fl, loops := [([1, 4, 5], [1, 4])], befs := [(22, [0, 0, 2, 6, 14, 30, 62, 126, 254, 510, 1022, 2046, 4094, 8190, 1023, 32767])] }
def x116 : Σ' a, cFn Tryz.prog an116 Tryz.f116 = a := ⟨_, by conv => lhs; reduce⟩
theorem o116 : ∃ F ann, FlOk Tryz.prog ann.flats ∧ fnOk Tryz.prog ann F = true ∧ Tryz.prog.funcs[116 % 10000]? = some F ∧ x116.1 = cFn Tryz.prog ann F := ⟨_, an116, zdx113fl_ok, by kernel_rfl, Tryz.func116, x116.2.symm⟩
def an117 : Ann := { flats := zdx113fl, loops := [([0, 3, 4], [3]), ([0, 3, 4, 5], [0, 3, 4]), ([0, 3, 4, 5, 6], [0, 3, 4, 5]), ([0, 3, 4, 5, 6, 7, 8], [0, 3, 4, 5, 6]), ([0, 3, 4, 5, 6, 7, 8, 9, 10], [0, 3, 4, 5, 6, 7, 8, 9]), ([0, 3, 4, 5, 6, 7, 8, 9, 11, 12], [0, 3, 4, 5, 6, 7, 8, 9, 11]), ([0, 3, 4, 5, 6, 7, 8, 9, 11, 13], [0, 3, 4, 5, 6, 7, 8, 9, 11])], befs := [(11, [0, 0, 3, 7, 0, 0, 48, 112, 0, 0, 768, 1792, 4095, 8191]), (30, [0, 1, 3, 3, 15, 31, 3, 3, 195, 451, 1023, 3, 3, 8191, 16383, 3, 3, 98307, 229379, 3, 1032191, 3, 3, 6291459, 14680067, 3, 67092479, 134201343, 268435455, 536870911, 1073741823])], keep := true }
def x117 : Σ' a, cFn Tryz.prog an117 Tryz.f117 = a := ⟨_, by conv => lhs; reduce⟩
theorem o117 : ∃ F ann, FlOk Tryz.prog ann.flats ∧ fnOk Tryz.prog ann F = true ∧ Tryz.prog.funcs[117 % 10000]? = some F ∧ x117.1 = cFn Tryz.prog ann F := ⟨_, an117, zdx113fl_ok, by kernel_rfl, Tryz.func117, x117.2.symm⟩
def an118 : Ann := { flats := zdx113fl, loops := [([0, 1, 5], [4])], befs := [(4, [0, 0, 3, 7, 0, 0, 48, 112, 255]), (5, [0, 0, 3, 7, 0, 0, 48, 112, 255, 511])] }
def x118 : Σ' a, cFn Tryz.prog an118 Tryz.f118 = a := ⟨_, by conv => lhs; reduce⟩
theorem o118 : ∃ F ann, FlOk Tryz.prog ann.flats ∧ fnOk Tryz.prog ann F = true ∧ Tryz.prog.funcs[118 % 10000]? = some F ∧ x118.1 = cFn Tryz.prog ann F := ⟨_, an118, zdx113fl_ok, by kernel_rfl, Tryz.func118, x118.2.symm⟩
def an119 : Ann := { flats := zdx113fl, loops := [([0, 3], [0, 2])] }
def x119 : Σ' a, cFn Tryz.prog an119 Tryz.f119 = a := ⟨_, by conv => lhs; reduce⟩
theorem o119 : ∃ F ann, FlOk Tryz.prog ann.flats ∧ fnOk Tryz.prog ann F = true ∧ Tryz.prog.funcs[119 % 10000]? = some F ∧ x119.1 = cFn Tryz.prog ann F := ⟨_, an119, zdx113fl_ok, by kernel_rfl, Tryz.func119, x119.2.symm⟩
def an120 : Ann := { flats := zdx113fl, loops := [([0, 1, 5, 6], [5])], befs := [(5, [0, 0, 0, 6, 14, 0, 0, 96, 224, 510, 1023, 2047])] }
def x120 : Σ' a, cFn Tryz.prog an120 Tryz.f120 = a := ⟨_, by conv => lhs; reduce⟩
theorem o120 : ∃ F ann, FlOk Tryz.prog ann.flats ∧ fnOk Tryz.prog ann F = true ∧ Tryz.prog.funcs[120 % 10000]? = some F ∧ x120.1 = cFn Tryz.prog ann F := ⟨_, an120, zdx113fl_ok, by kernel_rfl, Tryz.func120, x120.2.symm⟩
def an121 : Ann := { flats := zdx113fl, loops := [([0, 4, 5], [0, 2, 3]), ([0, 6], [2, 3])], befs := [(6, [0, 0, 3, 7, 0, 0, 48, 112, 255, 511, 1023])] }
def x121 : Σ' a, cFn Tryz.prog an121 Tryz.f121 = a := ⟨_, by conv => lhs; reduce⟩
theorem o121 : ∃ F ann, FlOk Tryz.prog ann.flats ∧ fnOk Tryz.prog ann F = true ∧ Tryz.prog.funcs[121 % 10000]? = some F ∧ x121.1 = cFn Tryz.prog ann F := ⟨_, an121, zdx113fl_ok, by kernel_rfl, Tryz.func121, x121.2.symm⟩
def an122 : Ann := { flats := zdx113fl, loops := [] }
def x122 : Σ' a, cFn Tryz.prog an122 Tryz.f122 = a := ⟨_, by conv => lhs; reduce⟩
theorem o122 : ∃ F ann, FlOk Tryz.prog ann.flats ∧ fnOk Tryz.prog ann F = true ∧ Tryz.prog.funcs[122 % 10000]? = some F ∧ x122.1 = cFn Tryz.prog ann F := ⟨_, an122, zdx113fl_ok, by kernel_rfl, Tryz.func122, x122.2.symm⟩
def an123 : Ann := { flats := zdx113fl, loops := [], befs := [(4, [0, 0, 0, 6, 14, 30, 63, 127, 0, 0, 512, 1792, 0, 4096, 4095, 20479, 65535])] }
def x123 : Σ' a, cFn Tryz.prog an123 Tryz.f123 = a := ⟨_, by conv => lhs; reduce⟩
theorem o123 : ∃ F ann, FlOk Tryz.prog ann.flats ∧ fnOk Tryz.prog ann F = true ∧ Tryz.prog.funcs[123 % 10000]? = some F ∧ x123.1 = cFn Tryz.prog ann F := ⟨_, an123, zdx113fl_ok, by kernel_rfl, Tryz.func123, x123.2.symm⟩
def an124 : Ann := { flats := zdx113fl, loops := [] }
def x124 : Σ' a, cFn Tryz.prog an124 Tryz.f124 = a := ⟨_, by conv => lhs; reduce⟩
theorem o124 : ∃ F ann, FlOk Tryz.prog ann.flats ∧ fnOk Tryz.prog ann F = true ∧ Tryz.prog.funcs[124 % 10000]? = some F ∧ x124.1 = cFn Tryz.prog ann F := ⟨_, an124, zdx113fl_ok, by kernel_rfl, Tryz.func124, x124.2.symm⟩
def an125 : Ann := { flats := zdx113fl, loops := [([0, 3, 4], [3])] }
def x125 : Σ' a, cFn Tryz.prog an125 Tryz.f125 = a := ⟨_, by conv => lhs; reduce⟩
theorem o125 : ∃ F ann, FlOk Tryz.prog ann.flats ∧ fnOk Tryz.prog ann F = true ∧ Tryz.prog.funcs[125 % 10000]? = some F ∧ x125.1 = cFn Tryz.prog ann F := ⟨_, an125, zdx113fl_ok, by kernel_rfl, Tryz.func125, x125.2.symm⟩
def an126 : Ann := { flats := zdx113fl, loops := [([0, 1, 5, 6], [5])], befs := [(5, [0, 0, 0, 6, 14, 0, 0, 96, 224, 510, 0, 2046, 4095, 8191])] }
def x126 : Σ' a, cFn Tryz.prog an126 Tryz.f126 = a := ⟨_, by conv => lhs; reduce⟩
theorem o126 : ∃ F ann, FlOk Tryz.prog ann.flats ∧ fnOk Tryz.prog ann F = true ∧ Tryz.prog.funcs[126 % 10000]? = some F ∧ x126.1 = cFn Tryz.prog ann F := ⟨_, an126, zdx113fl_ok, by kernel_rfl, Tryz.func126, x126.2.symm⟩
def an127 : Ann := { flats := zdx113fl, loops := [], befs := [(4, [0, 0, 2, 7, 15, 0, 0, 79, 239, 495, 1023, 0, 0, 4096, 14543, 32767, 65535, 131071]), (5, [0, 0, 3, 7, 15, 31, 0, 71, 255, 511, 0, 1223, 4095, 8191, 16383])] }
def x127 : Σ' a, cFn Tryz.prog an127 Tryz.f127 = a := ⟨_, by conv => lhs; reduce⟩
theorem o127 : ∃ F ann, FlOk Tryz.prog ann.flats ∧ fnOk Tryz.prog ann F = true ∧ Tryz.prog.funcs[127 % 10000]? = some F ∧ x127.1 = cFn Tryz.prog ann F := ⟨_, an127, zdx113fl_ok, by kernel_rfl, Tryz.func127, x127.2.symm⟩
end Go.Proofs.YtjlebmnlphjjoaaGreatDoor.Fx
