import Derived.Test.YtjlebmnlphjjoaaGreatDoorProg
import Derived.KernelRfl
import Derived.Test.YtjlebmnlphjjoaaGreatDoorAbsD
set_option linter.unusedVariables false
set_option linter.unusedSimpArgs false
/- The functions of the program, laid out by Lean's own reckoning from the program; no condition. -/
open Go Go.Proofs.YtjlebmnlphjjoaaGreatDoor.Abs
namespace Go.Proofs.YtjlebmnlphjjoaaGreatDoor.Fx
set_option maxRecDepth 100000
set_option maxHeartbeats 8000000
set_option linter.unusedVariables false
def zdx87fl : List TypeId := [90, 39]
theorem zdx87fl_ok : FlOk Tryz.prog zdx87fl := by
  intro t ht
  simp only [zdx87fl, List.mem_cons, List.mem_nil_iff, or_false] at ht
  rcases ht with rfl | rfl <;> exact ⟨by kernel_rfl, by kernel_rfl⟩
def an87 : Ann := { flats := zdx87fl, loops := [([7, 42, 43, 44], [7]), ([11, 66, 67, 68], [4])], befs := [(31, [0, 1, 0, 4, 15, 31])] }
def x87 : Σ' a, cFn Tryz.prog an87 Tryz.f87 = a := ⟨_, by conv => lhs; reduce⟩
theorem o87 : ∃ F ann, FlOk Tryz.prog ann.flats ∧ fnOk Tryz.prog ann F = true ∧ Tryz.prog.funcs[87 % 10000]? = some F ∧ x87.1 = cFn Tryz.prog ann F := ⟨_, an87, zdx87fl_ok, by kernel_rfl, Tryz.func87, x87.2.symm⟩
def an88 : Ann := { flats := zdx87fl, loops := [([0, 5, 6], [2])] }
def x88 : Σ' a, cFn Tryz.prog an88 Tryz.f88 = a := ⟨_, by conv => lhs; reduce⟩
theorem o88 : ∃ F ann, FlOk Tryz.prog ann.flats ∧ fnOk Tryz.prog ann F = true ∧ Tryz.prog.funcs[88 % 10000]? = some F ∧ x88.1 = cFn Tryz.prog ann F := ⟨_, an88, zdx87fl_ok, by kernel_rfl, Tryz.func88, x88.2.symm⟩
def an89 : Ann := { flats := zdx87fl, loops := [] }
def x89 : Σ' a, cFn Tryz.prog an89 Tryz.f89 = a := ⟨_, by conv => lhs; reduce⟩
theorem o89 : ∃ F ann, FlOk Tryz.prog ann.flats ∧ fnOk Tryz.prog ann F = true ∧ Tryz.prog.funcs[89 % 10000]? = some F ∧ x89.1 = cFn Tryz.prog ann F := ⟨_, an89, zdx87fl_ok, by kernel_rfl, Tryz.func89, x89.2.symm⟩
def an90 : Ann := { flats := zdx87fl, loops := [([0, 2, 4], [2, 3]), ([0, 2, 4, 12], [0, 2, 3, 4]), ([0, 2, 4, 5, 12, 15], [0, 2, 3, 4, 12])] }
def x90 : Σ' a, cFn Tryz.prog an90 Tryz.f90 = a := ⟨_, by conv => lhs; reduce⟩
theorem o90 : ∃ F ann, FlOk Tryz.prog ann.flats ∧ fnOk Tryz.prog ann F = true ∧ Tryz.prog.funcs[90 % 10000]? = some F ∧ x90.1 = cFn Tryz.prog ann F := ⟨_, an90, zdx87fl_ok, by kernel_rfl, Tryz.func90, x90.2.symm⟩
def an91 : Ann := { flats := zdx87fl, loops := [], befs := [(5, [0, 0, 3, 0, 0, 24, 63, 127])] }
def x91 : Σ' a, cFn Tryz.prog an91 Tryz.f91 = a := ⟨_, by conv => lhs; reduce⟩
theorem o91 : ∃ F ann, FlOk Tryz.prog ann.flats ∧ fnOk Tryz.prog ann F = true ∧ Tryz.prog.funcs[91 % 10000]? = some F ∧ x91.1 = cFn Tryz.prog ann F := ⟨_, an91, zdx87fl_ok, by kernel_rfl, Tryz.func91, x91.2.symm⟩
def an92 : Ann := { flats := zdx87fl, loops := [] }
def x92 : Σ' a, cFn Tryz.prog an92 Tryz.f92 = a := ⟨_, by conv => lhs; reduce⟩
theorem o92 : ∃ F ann, FlOk Tryz.prog ann.flats ∧ fnOk Tryz.prog ann F = true ∧ Tryz.prog.funcs[92 % 10000]? = some F ∧ x92.1 = cFn Tryz.prog ann F := ⟨_, an92, zdx87fl_ok, by kernel_rfl, Tryz.func92, x92.2.symm⟩
def an93 : Ann := { flats := zdx87fl, loops := [] }
def x93 : Σ' a, cFn Tryz.prog an93 Tryz.f93 = a := ⟨_, by conv => lhs; reduce⟩
theorem o93 : ∃ F ann, FlOk Tryz.prog ann.flats ∧ fnOk Tryz.prog ann F = true ∧ Tryz.prog.funcs[93 % 10000]? = some F ∧ x93.1 = cFn Tryz.prog ann F := ⟨_, an93, zdx87fl_ok, by kernel_rfl, Tryz.func93, x93.2.symm⟩
def an94 : Ann := { flats := zdx87fl, loops := [([0, 3, 4], [2, 3]), ([7, 8], [7]), ([7, 8, 9], [7, 8])], befs := [(14, [0, 1, 3, 7, 7, 31, 63, 7, 7, 263, 903, 1927, 4095, 8191])], mu := [15] }
def x94 : Σ' a, cFn Tryz.prog an94 Tryz.f94 = a := ⟨_, by conv => lhs; reduce⟩
theorem o94 : ∃ F ann, FlOk Tryz.prog ann.flats ∧ fnOk Tryz.prog ann F = true ∧ Tryz.prog.funcs[94 % 10000]? = some F ∧ x94.1 = cFn Tryz.prog ann F := ⟨_, an94, zdx87fl_ok, by kernel_rfl, Tryz.func94, x94.2.symm⟩
def an95 : Ann := { flats := zdx87fl, loops := [] }
def x95 : Σ' a, cFn Tryz.prog an95 Tryz.f95 = a := ⟨_, by conv => lhs; reduce⟩
theorem o95 : ∃ F ann, FlOk Tryz.prog ann.flats ∧ fnOk Tryz.prog ann F = true ∧ Tryz.prog.funcs[95 % 10000]? = some F ∧ x95.1 = cFn Tryz.prog ann F := ⟨_, an95, zdx87fl_ok, by kernel_rfl, Tryz.func95, x95.2.symm⟩
def an96 : Ann := { flats := zdx87fl, loops := [], befs := [(1, [0, 0, 2, 7, 15, 0, 0, 64, 224, 480, 1023, 2047])] }
def x96 : Σ' a, cFn Tryz.prog an96 Tryz.f96 = a := ⟨_, by conv => lhs; reduce⟩
theorem o96 : ∃ F ann, FlOk Tryz.prog ann.flats ∧ fnOk Tryz.prog ann F = true ∧ Tryz.prog.funcs[96 % 10000]? = some F ∧ x96.1 = cFn Tryz.prog ann F := ⟨_, an96, zdx87fl_ok, by kernel_rfl, Tryz.func96, x96.2.symm⟩
def an97 : Ann := { flats := zdx87fl, loops := [] }
def x97 : Σ' a, cFn Tryz.prog an97 Tryz.f97 = a := ⟨_, by conv => lhs; reduce⟩
theorem o97 : ∃ F ann, FlOk Tryz.prog ann.flats ∧ fnOk Tryz.prog ann F = true ∧ Tryz.prog.funcs[97 % 10000]? = some F ∧ x97.1 = cFn Tryz.prog ann F := ⟨_, an97, zdx87fl_ok, by kernel_rfl, Tryz.func97, x97.2.symm⟩
def an98 : Ann := { flats := zdx87fl, loops := [([0, 1, 2, 3, 4, 22], [0, 1, 2, 3, 4, 22])] }
def x98 : Σ' a, cFn Tryz.prog an98 Tryz.f98 = a := ⟨_, by conv => lhs; reduce⟩
theorem o98 : ∃ F ann, FlOk Tryz.prog ann.flats ∧ fnOk Tryz.prog ann F = true ∧ Tryz.prog.funcs[98 % 10000]? = some F ∧ x98.1 = cFn Tryz.prog ann F := ⟨_, an98, zdx87fl_ok, by kernel_rfl, Tryz.func98, x98.2.symm⟩
def an101 : Ann := { flats := zdx87fl, loops := [] }
def x101 : Σ' a, cFn Tryz.prog an101 Tryz.f101 = a := ⟨_, by conv => lhs; reduce⟩
theorem o101 : ∃ F ann, FlOk Tryz.prog ann.flats ∧ fnOk Tryz.prog ann F = true ∧ Tryz.prog.funcs[101 % 10000]? = some F ∧ x101.1 = cFn Tryz.prog ann F := ⟨_, an101, zdx87fl_ok, by kernel_rfl, Tryz.func101, x101.2.symm⟩
def an102 : Ann := { flats := zdx87fl, loops := [], befs := [(6, [0, 0, 3, 0, 0, 16, 56, 120, 255, 0, 0, 1024, 3584, 8191, 16383])] }
def x102 : Σ' a, cFn Tryz.prog an102 Tryz.f102 = a := ⟨_, by conv => lhs; reduce⟩
theorem o102 : ∃ F ann, FlOk Tryz.prog ann.flats ∧ fnOk Tryz.prog ann F = true ∧ Tryz.prog.funcs[102 % 10000]? = some F ∧ x102.1 = cFn Tryz.prog ann F := ⟨_, an102, zdx87fl_ok, by kernel_rfl, Tryz.func102, x102.2.symm⟩
def an103 : Ann := { flats := zdx87fl, loops := [([0, 3], [0, 2])] }
def x103 : Σ' a, cFn Tryz.prog an103 Tryz.f103 = a := ⟨_, by conv => lhs; reduce⟩
theorem o103 : ∃ F ann, FlOk Tryz.prog ann.flats ∧ fnOk Tryz.prog ann F = true ∧ Tryz.prog.funcs[103 % 10000]? = some F ∧ x103.1 = cFn Tryz.prog ann F := ⟨_, an103, zdx87fl_ok, by kernel_rfl, Tryz.func103, x103.2.symm⟩
def an105 : Ann := { flats := zdx87fl, loops := [] }
def x105 : Σ' a, cFn Tryz.prog an105 Tryz.f105 = a := ⟨_, by conv => lhs; reduce⟩
theorem o105 : ∃ F ann, FlOk Tryz.prog ann.flats ∧ fnOk Tryz.prog ann F = true ∧ Tryz.prog.funcs[105 % 10000]? = some F ∧ x105.1 = cFn Tryz.prog ann F := ⟨_, an105, zdx87fl_ok, by kernel_rfl, Tryz.func105, x105.2.symm⟩
def an106 : Ann := { flats := zdx87fl, loops := [] }
def x106 : Σ' a, cFn Tryz.prog an106 Tryz.f106 = a := ⟨_, by conv => lhs; reduce⟩
theorem o106 : ∃ F ann, FlOk Tryz.prog ann.flats ∧ fnOk Tryz.prog ann F = true ∧ Tryz.prog.funcs[106 % 10000]? = some F ∧ x106.1 = cFn Tryz.prog ann F := ⟨_, an106, zdx87fl_ok, by kernel_rfl, Tryz.func106, x106.2.symm⟩
def an107 : Ann := { flats := zdx87fl, loops := [([0, 1, 7, 8], [4])] }
def x107 : Σ' a, cFn Tryz.prog an107 Tryz.f107 = a := ⟨_, by conv => lhs; reduce⟩
theorem o107 : ∃ F ann, FlOk Tryz.prog ann.flats ∧ fnOk Tryz.prog ann F = true ∧ Tryz.prog.funcs[107 % 10000]? = some F ∧ x107.1 = cFn Tryz.prog ann F := ⟨_, an107, zdx87fl_ok, by kernel_rfl, Tryz.func107, x107.2.symm⟩
def an108 : Ann := { flats := zdx87fl, loops := [([0, 4, 11, 12, 13], [0, 4]), ([0, 4, 11, 12, 13, 17, 18, 19], [0, 4, 11, 12, 13])], lay := [(33, (4, 5000004))] }
def x108 : Σ' a, cFn Tryz.prog an108 Tryz.f108 = a := ⟨_, by conv => lhs; reduce⟩
theorem o108 : ∃ F ann, FlOk Tryz.prog ann.flats ∧ fnOk Tryz.prog ann F = true ∧ Tryz.prog.funcs[108 % 10000]? = some F ∧ x108.1 = cFn Tryz.prog ann F := ⟨_, an108, zdx87fl_ok, by kernel_rfl, Tryz.func108, x108.2.symm⟩
def an110 : Ann := { flats := zdx87fl, loops := [], befs := [(2, [0, 1, 3, 7, 15, 0, 32, 96, 255, 0, 512, 1536, 3584, 7680, 16383, 0, 32768, 98528, 262143, 524287])] }
def x110 : Σ' a, cFn Tryz.prog an110 Tryz.f110 = a := ⟨_, by conv => lhs; reduce⟩
theorem o110 : ∃ F ann, FlOk Tryz.prog ann.flats ∧ fnOk Tryz.prog ann F = true ∧ Tryz.prog.funcs[110 % 10000]? = some F ∧ x110.1 = cFn Tryz.prog ann F := ⟨_, an110, zdx87fl_ok, by kernel_rfl, Tryz.func110, x110.2.symm⟩
def an111 : Ann := { flats := zdx87fl, loops := [], befs := [(1, [0, 0, 3, 0, 15, 31, 63, 127, 255, 511, 511, 1023, 4095])] }
def x111 : Σ' a, cFn Tryz.prog an111 Tryz.f111 = a := ⟨_, by conv => lhs; reduce⟩
theorem o111 : ∃ F ann, FlOk Tryz.prog ann.flats ∧ fnOk Tryz.prog ann F = true ∧ Tryz.prog.funcs[111 % 10000]? = some F ∧ x111.1 = cFn Tryz.prog ann F := ⟨_, an111, zdx87fl_ok, by kernel_rfl, Tryz.func111, x111.2.symm⟩
def an112 : Ann := { flats := zdx87fl, loops := [] }
def x112 : Σ' a, cFn Tryz.prog an112 Tryz.f112 = a := ⟨_, by conv => lhs; reduce⟩
theorem o112 : ∃ F ann, FlOk Tryz.prog ann.flats ∧ fnOk Tryz.prog ann F = true ∧ Tryz.prog.funcs[112 % 10000]? = some F ∧ x112.1 = cFn Tryz.prog ann F := ⟨_, an112, zdx87fl_ok, by kernel_rfl, Tryz.func112, x112.2.symm⟩
end Go.Proofs.YtjlebmnlphjjoaaGreatDoor.Fx
