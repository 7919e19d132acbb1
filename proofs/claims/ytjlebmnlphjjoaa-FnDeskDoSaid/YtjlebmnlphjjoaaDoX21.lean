import Derived.Test.YtjlebmnlphjjoaaProg
import Derived.KernelRfl
import Derived.Test.YtjlebmnlphjjoaaDoAbsD
set_option linter.unusedVariables false
set_option linter.unusedSimpArgs false
/- The functions of the program, laid out by Lean's own reckoning from the program; no condition. -/
open Go Go.Proofs.Ytjlebmnlphjjoaa.Abs
namespace Go.Proofs.Ytjlebmnlphjjoaa.Fx
set_option maxRecDepth 100000
set_option maxHeartbeats 8000000
set_option linter.unusedVariables false
def zzx21fl : List TypeId := [43, 37]
theorem zzx21fl_ok : FlOk Try.prog zzx21fl := by
  intro t ht
  simp only [zzx21fl, List.mem_cons, List.mem_nil_iff, or_false] at ht
  rcases ht with rfl | rfl <;> exact ⟨by kernel_rfl, by kernel_rfl⟩
def an21 : Ann := { flats := zzx21fl, loops := [([0, 5, 6, 7], [5])] }
def x21 : Σ' a, cFn Try.prog an21 Try.f21 = a := ⟨_, by conv => lhs; reduce⟩
theorem o21 : ∃ F ann, FlOk Try.prog ann.flats ∧ fnOk Try.prog ann F = true ∧ Try.prog.funcs[21 % 10000]? = some F ∧ x21.1 = cFn Try.prog ann F := ⟨_, an21, zzx21fl_ok, by kernel_rfl, Try.func21, x21.2.symm⟩
def an22 : Ann := { flats := zzx21fl, loops := [] }
def x22 : Σ' a, cFn Try.prog an22 Try.f22 = a := ⟨_, by conv => lhs; reduce⟩
theorem o22 : ∃ F ann, FlOk Try.prog ann.flats ∧ fnOk Try.prog ann F = true ∧ Try.prog.funcs[22 % 10000]? = some F ∧ x22.1 = cFn Try.prog ann F := ⟨_, an22, zzx21fl_ok, by kernel_rfl, Try.func22, x22.2.symm⟩
def an23 : Ann := { flats := zzx21fl, loops := [([2, 3, 12, 13, 14], [2, 3])], befs := [(5, [0, 1, 0, 0, 12, 28, 63, 127, 255])], keep := true }
def x23 : Σ' a, cFn Try.prog an23 Try.f23 = a := ⟨_, by conv => lhs; reduce⟩
theorem o23 : ∃ F ann, FlOk Try.prog ann.flats ∧ fnOk Try.prog ann F = true ∧ Try.prog.funcs[23 % 10000]? = some F ∧ x23.1 = cFn Try.prog ann F := ⟨_, an23, zzx21fl_ok, by kernel_rfl, Try.func23, x23.2.symm⟩
def an10023 : Ann := { flats := zzx21fl, loops := [([2, 3, 12, 13, 14], [2, 3])], befs := [(5, [0, 1, 0, 0, 12, 28, 63, 127, 255])] }
def x10023 : Σ' a, cFn Try.prog an10023 Try.f23 = a := ⟨_, by conv => lhs; reduce⟩
theorem o10023 : ∃ F ann, FlOk Try.prog ann.flats ∧ fnOk Try.prog ann F = true ∧ Try.prog.funcs[10023 % 10000]? = some F ∧ x10023.1 = cFn Try.prog ann F := ⟨_, an10023, zzx21fl_ok, by kernel_rfl, Try.func23, x10023.2.symm⟩
def an24 : Ann := { flats := zzx21fl, loops := [], befs := [(13, [0, 1, 0, 7, 15, 0, 32, 0, 224, 511, 1023, 2047, 4095])] }
def x24 : Σ' a, cFn Try.prog an24 Try.f24 = a := ⟨_, by conv => lhs; reduce⟩
theorem o24 : ∃ F ann, FlOk Try.prog ann.flats ∧ fnOk Try.prog ann F = true ∧ Try.prog.funcs[24 % 10000]? = some F ∧ x24.1 = cFn Try.prog ann F := ⟨_, an24, zzx21fl_ok, by kernel_rfl, Try.func24, x24.2.symm⟩
def an25 : Ann := { flats := zzx21fl, loops := [([1, 2, 3, 4], [2, 3])], befs := [(5, [0, 1, 0, 0, 8, 0, 56, 120, 252, 508, 1023, 2047, 4095])] }
def x25 : Σ' a, cFn Try.prog an25 Try.f25 = a := ⟨_, by conv => lhs; reduce⟩
theorem o25 : ∃ F ann, FlOk Try.prog ann.flats ∧ fnOk Try.prog ann F = true ∧ Try.prog.funcs[25 % 10000]? = some F ∧ x25.1 = cFn Try.prog ann F := ⟨_, an25, zzx21fl_ok, by kernel_rfl, Try.func25, x25.2.symm⟩
def an10025 : Ann := { flats := zzx21fl, loops := [([1, 2, 3, 4], [2, 3])], befs := [(5, [0, 1, 0, 0, 8, 0, 56, 120, 252, 508, 1023, 2047, 4095])], keep := true }
def x10025 : Σ' a, cFn Try.prog an10025 Try.f25 = a := ⟨_, by conv => lhs; reduce⟩
theorem o10025 : ∃ F ann, FlOk Try.prog ann.flats ∧ fnOk Try.prog ann F = true ∧ Try.prog.funcs[10025 % 10000]? = some F ∧ x10025.1 = cFn Try.prog ann F := ⟨_, an10025, zzx21fl_ok, by kernel_rfl, Try.func25, x10025.2.symm⟩
def an20025 : Ann := { flats := zzx21fl, loops := [([1, 2, 3, 4], [2, 3])], befs := [(5, [0, 1, 0, 0, 8, 0, 56, 120, 252, 508, 1023, 2047, 4095])], mu := [26], keep := true }
def x20025 : Σ' a, cFn Try.prog an20025 Try.f25 = a := ⟨_, by conv => lhs; reduce⟩
theorem o20025 : ∃ F ann, FlOk Try.prog ann.flats ∧ fnOk Try.prog ann F = true ∧ Try.prog.funcs[20025 % 10000]? = some F ∧ x20025.1 = cFn Try.prog ann F := ⟨_, an20025, zzx21fl_ok, by kernel_rfl, Try.func25, x20025.2.symm⟩
def an26 : Ann := { flats := zzx21fl, loops := [([0, 1, 5], [4])], befs := [(6, [0, 0, 3, 7, 0, 0, 48, 112, 255])] }
def x26 : Σ' a, cFn Try.prog an26 Try.f26 = a := ⟨_, by conv => lhs; reduce⟩
theorem o26 : ∃ F ann, FlOk Try.prog ann.flats ∧ fnOk Try.prog ann F = true ∧ Try.prog.funcs[26 % 10000]? = some F ∧ x26.1 = cFn Try.prog ann F := ⟨_, an26, zzx21fl_ok, by kernel_rfl, Try.func26, x26.2.symm⟩
def an27 : Ann := { flats := zzx21fl, loops := [([0, 3], [0, 2]), ([0, 3, 4], [0, 2, 3])], befs := [(9, [0, 0, 3, 7, 0, 0, 48, 112, 255])] }
def x27 : Σ' a, cFn Try.prog an27 Try.f27 = a := ⟨_, by conv => lhs; reduce⟩
theorem o27 : ∃ F ann, FlOk Try.prog ann.flats ∧ fnOk Try.prog ann F = true ∧ Try.prog.funcs[27 % 10000]? = some F ∧ x27.1 = cFn Try.prog ann F := ⟨_, an27, zzx21fl_ok, by kernel_rfl, Try.func27, x27.2.symm⟩
def an28 : Ann := { flats := zzx21fl, loops := [] }
def x28 : Σ' a, cFn Try.prog an28 Try.f28 = a := ⟨_, by conv => lhs; reduce⟩
theorem o28 : ∃ F ann, FlOk Try.prog ann.flats ∧ fnOk Try.prog ann F = true ∧ Try.prog.funcs[28 % 10000]? = some F ∧ x28.1 = cFn Try.prog ann F := ⟨_, an28, zzx21fl_ok, by kernel_rfl, Try.func28, x28.2.symm⟩
def an29 : Ann := { flats := zzx21fl, loops := [], befs := [(1, [0, 0, 2, 7, 15, 0, 38, 102, 230, 511, 1023, 0, 4095]), (8, [0, 1, 0, 4, 15, 31, 63, 127])] }
def x29 : Σ' a, cFn Try.prog an29 Try.f29 = a := ⟨_, by conv => lhs; reduce⟩
theorem o29 : ∃ F ann, FlOk Try.prog ann.flats ∧ fnOk Try.prog ann F = true ∧ Try.prog.funcs[29 % 10000]? = some F ∧ x29.1 = cFn Try.prog ann F := ⟨_, an29, zzx21fl_ok, by kernel_rfl, Try.func29, x29.2.symm⟩
def an30 : Ann := { flats := zzx21fl, loops := [([0, 2, 4], [2, 3]), ([0, 2, 4, 5], [0, 2, 3, 4]), ([0, 2, 4, 5, 6], [0, 2, 3, 4, 5])] }
def x30 : Σ' a, cFn Try.prog an30 Try.f30 = a := ⟨_, by conv => lhs; reduce⟩
theorem o30 : ∃ F ann, FlOk Try.prog ann.flats ∧ fnOk Try.prog ann F = true ∧ Try.prog.funcs[30 % 10000]? = some F ∧ x30.1 = cFn Try.prog ann F := ⟨_, an30, zzx21fl_ok, by kernel_rfl, Try.func30, x30.2.symm⟩
def an31 : Ann := { flats := zzx21fl, loops := [] }
def x31 : Σ' a, cFn Try.prog an31 Try.f31 = a := ⟨_, by conv => lhs; reduce⟩
theorem o31 : ∃ F ann, FlOk Try.prog ann.flats ∧ fnOk Try.prog ann F = true ∧ Try.prog.funcs[31 % 10000]? = some F ∧ x31.1 = cFn Try.prog ann F := ⟨_, an31, zzx21fl_ok, by kernel_rfl, Try.func31, x31.2.symm⟩
def an32 : Ann := { flats := zzx21fl, loops := [([0, 2, 4], [2, 3]), ([0, 2, 4, 12], [0, 2, 3, 4]), ([0, 2, 4, 5, 12, 15], [0, 2, 3, 4, 12])] }
def x32 : Σ' a, cFn Try.prog an32 Try.f32 = a := ⟨_, by conv => lhs; reduce⟩
theorem o32 : ∃ F ann, FlOk Try.prog ann.flats ∧ fnOk Try.prog ann F = true ∧ Try.prog.funcs[32 % 10000]? = some F ∧ x32.1 = cFn Try.prog ann F := ⟨_, an32, zzx21fl_ok, by kernel_rfl, Try.func32, x32.2.symm⟩
def an33 : Ann := { flats := zzx21fl, loops := [] }
def x33 : Σ' a, cFn Try.prog an33 Try.f33 = a := ⟨_, by conv => lhs; reduce⟩
theorem o33 : ∃ F ann, FlOk Try.prog ann.flats ∧ fnOk Try.prog ann F = true ∧ Try.prog.funcs[33 % 10000]? = some F ∧ x33.1 = cFn Try.prog ann F := ⟨_, an33, zzx21fl_ok, by kernel_rfl, Try.func33, x33.2.symm⟩
def an34 : Ann := { flats := zzx21fl, loops := [] }
def x34 : Σ' a, cFn Try.prog an34 Try.f34 = a := ⟨_, by conv => lhs; reduce⟩
theorem o34 : ∃ F ann, FlOk Try.prog ann.flats ∧ fnOk Try.prog ann F = true ∧ Try.prog.funcs[34 % 10000]? = some F ∧ x34.1 = cFn Try.prog ann F := ⟨_, an34, zzx21fl_ok, by kernel_rfl, Try.func34, x34.2.symm⟩
def an35 : Ann := { flats := zzx21fl, loops := [], befs := [(1, [0, 0, 3, 0, 15, 31, 63, 127, 255, 511, 511, 1023, 4095])] }
def x35 : Σ' a, cFn Try.prog an35 Try.f35 = a := ⟨_, by conv => lhs; reduce⟩
theorem o35 : ∃ F ann, FlOk Try.prog ann.flats ∧ fnOk Try.prog ann F = true ∧ Try.prog.funcs[35 % 10000]? = some F ∧ x35.1 = cFn Try.prog ann F := ⟨_, an35, zzx21fl_ok, by kernel_rfl, Try.func35, x35.2.symm⟩
def an36 : Ann := { flats := zzx21fl, loops := [], keep := true }
def x36 : Σ' a, cFn Try.prog an36 Try.f36 = a := ⟨_, by conv => lhs; reduce⟩
theorem o36 : ∃ F ann, FlOk Try.prog ann.flats ∧ fnOk Try.prog ann F = true ∧ Try.prog.funcs[36 % 10000]? = some F ∧ x36.1 = cFn Try.prog ann F := ⟨_, an36, zzx21fl_ok, by kernel_rfl, Try.func36, x36.2.symm⟩
end Go.Proofs.Ytjlebmnlphjjoaa.Fx
