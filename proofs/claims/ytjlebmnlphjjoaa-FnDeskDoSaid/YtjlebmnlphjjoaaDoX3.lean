import Derived.Test.YtjlebmnlphjjoaaProg
import Derived.KernelRfl
import Derived.Test.YtjlebmnlphjjoaaDoAbsD
set_option linter.unusedVariables false
set_option linter.unusedSimpArgs false
/- The functions of the program, laid out by Lean's own reckoning from the program; no condition. -/
open Go Go.Proofs.Ytjlebmnlphjjoaa.Abs
namespace Go.Proofs.Ytjlebmnlphjjoaa.Fx
set_option maxRecDepth 100000
set_option maxHeartbeats 8000000
set_option linter.unusedVariables false
def zzx3fl : List TypeId := [43, 37]
theorem zzx3fl_ok : FlOk Try.prog zzx3fl := by
  intro t ht
  simp only [zzx3fl, List.mem_cons, List.mem_nil_iff, or_false] at ht
  rcases ht with rfl | rfl <;> exact ⟨by kernel_rfl, by kernel_rfl⟩
def an3 : Ann := { flats := zzx3fl, loops := [], befs := [(11, [0, 0, 0, 6, 15, 31, 63, 63, 0, 383, 1023]), (12, [0, 0, 0, 6, 15, 31, 63, 63, 0, 383, 1023])] }
def x3 : Σ' a, cFn Try.prog an3 Try.f3 = a := ⟨_, by conv => lhs; reduce⟩
theorem o3 : ∃ F ann, FlOk Try.prog ann.flats ∧ fnOk Try.prog ann F = true ∧ Try.prog.funcs[3 % 10000]? = some F ∧ x3.1 = cFn Try.prog ann F := ⟨_, an3, zzx3fl_ok, by kernel_rfl, Try.func3, x3.2.symm⟩
def an4 : Ann := { flats := zzx3fl, loops := [] }
def x4 : Σ' a, cFn Try.prog an4 Try.f4 = a := ⟨_, by conv => lhs; reduce⟩
theorem o4 : ∃ F ann, FlOk Try.prog ann.flats ∧ fnOk Try.prog ann F = true ∧ Try.prog.funcs[4 % 10000]? = some F ∧ x4.1 = cFn Try.prog ann F := ⟨_, an4, zzx3fl_ok, by kernel_rfl, Try.func4, x4.2.symm⟩
def an5 : Ann := { flats := zzx3fl, loops := [], befs := [(4, [0, 0, 1, 7]), (5, [0, 0, 0, 6, 15, 31])] }
def x5 : Σ' a, cFn Try.prog an5 Try.f5 = a := ⟨_, by conv => lhs; reduce⟩
theorem o5 : ∃ F ann, FlOk Try.prog ann.flats ∧ fnOk Try.prog ann F = true ∧ Try.prog.funcs[5 % 10000]? = some F ∧ x5.1 = cFn Try.prog ann F := ⟨_, an5, zzx3fl_ok, by kernel_rfl, Try.func5, x5.2.symm⟩
def an6 : Ann := { flats := zzx3fl, loops := [([2, 4, 6, 22, 23, 24], [2, 4, 6])], var := [(21, 1)] }
def x6 : Σ' a, cFn Try.prog an6 Try.f6 = a := ⟨_, by conv => lhs; reduce⟩
theorem o6 : ∃ F ann, FlOk Try.prog ann.flats ∧ fnOk Try.prog ann F = true ∧ Try.prog.funcs[6 % 10000]? = some F ∧ x6.1 = cFn Try.prog ann F := ⟨_, an6, zzx3fl_ok, by kernel_rfl, Try.func6, x6.2.symm⟩
def an7 : Ann := { flats := zzx3fl, loops := [([1, 4, 6, 7, 8], [4, 6, 7])], befs := [(8, [0, 0, 0, 6, 14, 31, 63, 127, 127, 0, 767, 2047])] }
def x7 : Σ' a, cFn Try.prog an7 Try.f7 = a := ⟨_, by conv => lhs; reduce⟩
theorem o7 : ∃ F ann, FlOk Try.prog ann.flats ∧ fnOk Try.prog ann F = true ∧ Try.prog.funcs[7 % 10000]? = some F ∧ x7.1 = cFn Try.prog ann F := ⟨_, an7, zzx3fl_ok, by kernel_rfl, Try.func7, x7.2.symm⟩
def an8 : Ann := { flats := zzx3fl, loops := [([2, 3, 5], [2, 3, 4])], befs := [(6, [0, 1, 0, 7, 15, 0, 32, 0, 224, 480, 1023, 2047])] }
def x8 : Σ' a, cFn Try.prog an8 Try.f8 = a := ⟨_, by conv => lhs; reduce⟩
theorem o8 : ∃ F ann, FlOk Try.prog ann.flats ∧ fnOk Try.prog ann F = true ∧ Try.prog.funcs[8 % 10000]? = some F ∧ x8.1 = cFn Try.prog ann F := ⟨_, an8, zzx3fl_ok, by kernel_rfl, Try.func8, x8.2.symm⟩
def an9 : Ann := { flats := zzx3fl, loops := [([1, 3], [1, 2])] }
def x9 : Σ' a, cFn Try.prog an9 Try.f9 = a := ⟨_, by conv => lhs; reduce⟩
theorem o9 : ∃ F ann, FlOk Try.prog ann.flats ∧ fnOk Try.prog ann F = true ∧ Try.prog.funcs[9 % 10000]? = some F ∧ x9.1 = cFn Try.prog ann F := ⟨_, an9, zzx3fl_ok, by kernel_rfl, Try.func9, x9.2.symm⟩
def an10 : Ann := { flats := zzx3fl, loops := [] }
def x10 : Σ' a, cFn Try.prog an10 Try.f10 = a := ⟨_, by conv => lhs; reduce⟩
theorem o10 : ∃ F ann, FlOk Try.prog ann.flats ∧ fnOk Try.prog ann F = true ∧ Try.prog.funcs[10 % 10000]? = some F ∧ x10.1 = cFn Try.prog ann F := ⟨_, an10, zzx3fl_ok, by kernel_rfl, Try.func10, x10.2.symm⟩
def an11 : Ann := { flats := zzx3fl, loops := [] }
def x11 : Σ' a, cFn Try.prog an11 Try.f11 = a := ⟨_, by conv => lhs; reduce⟩
theorem o11 : ∃ F ann, FlOk Try.prog ann.flats ∧ fnOk Try.prog ann F = true ∧ Try.prog.funcs[11 % 10000]? = some F ∧ x11.1 = cFn Try.prog ann F := ⟨_, an11, zzx3fl_ok, by kernel_rfl, Try.func11, x11.2.symm⟩
def an12 : Ann := { flats := zzx3fl, loops := [] }
def x12 : Σ' a, cFn Try.prog an12 Try.f12 = a := ⟨_, by conv => lhs; reduce⟩
theorem o12 : ∃ F ann, FlOk Try.prog ann.flats ∧ fnOk Try.prog ann F = true ∧ Try.prog.funcs[12 % 10000]? = some F ∧ x12.1 = cFn Try.prog ann F := ⟨_, an12, zzx3fl_ok, by kernel_rfl, Try.func12, x12.2.symm⟩
def an13 : Ann := { flats := zzx3fl, loops := [], befs := [(3, [0, 0, 0, 6, 15, 31])] }
def x13 : Σ' a, cFn Try.prog an13 Try.f13 = a := ⟨_, by conv => lhs; reduce⟩
theorem o13 : ∃ F ann, FlOk Try.prog ann.flats ∧ fnOk Try.prog ann F = true ∧ Try.prog.funcs[13 % 10000]? = some F ∧ x13.1 = cFn Try.prog ann F := ⟨_, an13, zzx3fl_ok, by kernel_rfl, Try.func13, x13.2.symm⟩
def an14 : Ann := { flats := zzx3fl, loops := [] }
def x14 : Σ' a, cFn Try.prog an14 Try.f14 = a := ⟨_, by conv => lhs; reduce⟩
theorem o14 : ∃ F ann, FlOk Try.prog ann.flats ∧ fnOk Try.prog ann F = true ∧ Try.prog.funcs[14 % 10000]? = some F ∧ x14.1 = cFn Try.prog ann F := ⟨_, an14, zzx3fl_ok, by kernel_rfl, Try.func14, x14.2.symm⟩
def an15 : Ann := { flats := zzx3fl, loops := [], befs := [(17, [0, 0, 2, 0, 8, 30, 63, 0, 128, 0, 512, 1536, 3968, 8191, 16383])], var := [(16, 1)] }
def x15 : Σ' a, cFn Try.prog an15 Try.f15 = a := ⟨_, by conv => lhs; reduce⟩
theorem o15 : ∃ F ann, FlOk Try.prog ann.flats ∧ fnOk Try.prog ann F = true ∧ Try.prog.funcs[15 % 10000]? = some F ∧ x15.1 = cFn Try.prog ann F := ⟨_, an15, zzx3fl_ok, by kernel_rfl, Try.func15, x15.2.symm⟩
def an10015 : Ann := { flats := zzx3fl, loops := [], befs := [(17, [0, 0, 2, 0, 8, 30, 63, 0, 128, 0, 512, 1536, 3968, 8191, 16383])], mu := [109], var := [(16, 2)], keep := true }
def x10015 : Σ' a, cFn Try.prog an10015 Try.f15 = a := ⟨_, by conv => lhs; reduce⟩
theorem o10015 : ∃ F ann, FlOk Try.prog ann.flats ∧ fnOk Try.prog ann F = true ∧ Try.prog.funcs[10015 % 10000]? = some F ∧ x10015.1 = cFn Try.prog ann F := ⟨_, an10015, zzx3fl_ok, by kernel_rfl, Try.func15, x10015.2.symm⟩
def an16 : Ann := { flats := zzx3fl, loops := [] }
def x16 : Σ' a, cFn Try.prog an16 Try.f16 = a := ⟨_, by conv => lhs; reduce⟩
theorem o16 : ∃ F ann, FlOk Try.prog ann.flats ∧ fnOk Try.prog ann F = true ∧ Try.prog.funcs[16 % 10000]? = some F ∧ x16.1 = cFn Try.prog ann F := ⟨_, an16, zzx3fl_ok, by kernel_rfl, Try.func16, x16.2.symm⟩
def an17 : Ann := { flats := zzx3fl, loops := [] }
def x17 : Σ' a, cFn Try.prog an17 Try.f17 = a := ⟨_, by conv => lhs; reduce⟩
theorem o17 : ∃ F ann, FlOk Try.prog ann.flats ∧ fnOk Try.prog ann F = true ∧ Try.prog.funcs[17 % 10000]? = some F ∧ x17.1 = cFn Try.prog ann F := ⟨_, an17, zzx3fl_ok, by kernel_rfl, Try.func17, x17.2.symm⟩
def an18 : Ann := { flats := zzx3fl, loops := [], keep := true }
def x18 : Σ' a, cFn Try.prog an18 Try.f18 = a := ⟨_, by conv => lhs; reduce⟩
theorem o18 : ∃ F ann, FlOk Try.prog ann.flats ∧ fnOk Try.prog ann F = true ∧ Try.prog.funcs[18 % 10000]? = some F ∧ x18.1 = cFn Try.prog ann F := ⟨_, an18, zzx3fl_ok, by kernel_rfl, Try.func18, x18.2.symm⟩
def an19 : Ann := { flats := zzx3fl, loops := [([0, 1, 4, 5, 6], [0, 1, 4, 5])], befs := [(5, [0, 0, 0, 6, 15, 31, 63, 63, 0, 383, 1023])], var := [(22, 1)] }
def x19 : Σ' a, cFn Try.prog an19 Try.f19 = a := ⟨_, by conv => lhs; reduce⟩
theorem o19 : ∃ F ann, FlOk Try.prog ann.flats ∧ fnOk Try.prog ann F = true ∧ Try.prog.funcs[19 % 10000]? = some F ∧ x19.1 = cFn Try.prog ann F := ⟨_, an19, zzx3fl_ok, by kernel_rfl, Try.func19, x19.2.symm⟩
def an20 : Ann := { flats := zzx3fl, loops := [] }
def x20 : Σ' a, cFn Try.prog an20 Try.f20 = a := ⟨_, by conv => lhs; reduce⟩
theorem o20 : ∃ F ann, FlOk Try.prog ann.flats ∧ fnOk Try.prog ann F = true ∧ Try.prog.funcs[20 % 10000]? = some F ∧ x20.1 = cFn Try.prog ann F := ⟨_, an20, zzx3fl_ok, by kernel_rfl, Try.func20, x20.2.symm⟩
end Go.Proofs.Ytjlebmnlphjjoaa.Fx
