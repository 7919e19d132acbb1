import Derived.Test.YtjlebmnlphjjoaaGreatDoorProg
import Derived.KernelRfl
import Derived.Test.YtjlebmnlphjjoaaGreatDoorAbsD
set_option linter.unusedVariables false
set_option linter.unusedSimpArgs false
/- The functions of the program, laid out by Lean's own reckoning from the program; no condition. -/
open Go Go.Proofs.YtjlebmnlphjjoaaGreatDoor.Abs
namespace Go.Proofs.YtjlebmnlphjjoaaGreatDoor.Fx
set_option maxRecDepth 100000
set_option maxHeartbeats 8000000
set_option linter.unusedVariables false
def zdx160fl : List TypeId := [90, 39]
theorem zdx160fl_ok : FlOk Tryz.prog zdx160fl := by
  intro t ht
  simp only [zdx160fl, List.mem_cons, List.mem_nil_iff, or_false] at ht
  rcases ht with rfl | rfl <;> exact ⟨by kernel_rfl, by kernel_rfl⟩
def an160 : Ann := { flats := zdx160fl, loops := [([1, 3, 9], [3])] }
def x160 : Σ' a, cFn Tryz.prog an160 Tryz.f160 = a := ⟨_, by conv => lhs; reduce⟩
theorem o160 : ∃ F ann, FlOk Tryz.prog ann.flats ∧ fnOk Tryz.prog ann F = true ∧ Tryz.prog.funcs[160 % 10000]? = some F ∧ x160.1 = cFn Tryz.prog ann F := ⟨_, an160, zdx160fl_ok, by kernel_rfl, Tryz.func160, x160.2.symm⟩
def an161 : Ann := { flats := zdx160fl, loops := [([1, 3, 4, 5, 12, 13], [3, 4]), ([1, 3, 5, 7, 8, 12, 13], [1, 3, 4, 5, 12, 13]), ([3, 4, 50, 51], [3])], befs := [(8, [0, 0, 0, 6, 14, 1, 63]), (9, [0, 0, 0, 6, 3, 31])], exp := true }
def x161 : Σ' a, cFn Tryz.prog an161 Tryz.f161 = a := ⟨_, by conv => lhs; reduce⟩
theorem o161 : ∃ F ann, FlOk Tryz.prog ann.flats ∧ fnOk Tryz.prog ann F = true ∧ Tryz.prog.funcs[161 % 10000]? = some F ∧ x161.1 = cFn Tryz.prog ann F := ⟨_, an161, zdx160fl_ok, by kernel_rfl, Tryz.func161, x161.2.symm⟩
def an162 : Ann := { flats := zdx160fl, loops := [] }
def x162 : Σ' a, cFn Tryz.prog an162 Tryz.f162 = a := ⟨_, by conv => lhs; reduce⟩
theorem o162 : ∃ F ann, FlOk Tryz.prog ann.flats ∧ fnOk Tryz.prog ann F = true ∧ Tryz.prog.funcs[162 % 10000]? = some F ∧ x162.1 = cFn Tryz.prog ann F := ⟨_, an162, zdx160fl_ok, by kernel_rfl, Tryz.func162, x162.2.symm⟩
def an163 : Ann := { flats := zdx160fl, loops := [] }
def x163 : Σ' a, cFn Tryz.prog an163 Tryz.f163 = a := ⟨_, by conv => lhs; reduce⟩
theorem o163 : ∃ F ann, FlOk Tryz.prog ann.flats ∧ fnOk Tryz.prog ann F = true ∧ Tryz.prog.funcs[163 % 10000]? = some F ∧ x163.1 = cFn Tryz.prog ann F := ⟨_, an163, zdx160fl_ok, by kernel_rfl, Tryz.func163, x163.2.symm⟩
def an164 : Ann := { flats := zdx160fl, loops := [([1, 5, 8, 9, 10], [5])] }
def x164 : Σ' a, cFn Tryz.prog an164 Tryz.f164 = a := ⟨_, by conv => lhs; reduce⟩
theorem o164 : ∃ F ann, FlOk Tryz.prog ann.flats ∧ fnOk Tryz.prog ann F = true ∧ Tryz.prog.funcs[164 % 10000]? = some F ∧ x164.1 = cFn Tryz.prog ann F := ⟨_, an164, zdx160fl_ok, by kernel_rfl, Tryz.func164, x164.2.symm⟩
def an165 : Ann := { flats := zdx160fl, loops := [] }
def x165 : Σ' a, cFn Tryz.prog an165 Tryz.f165 = a := ⟨_, by conv => lhs; reduce⟩
theorem o165 : ∃ F ann, FlOk Tryz.prog ann.flats ∧ fnOk Tryz.prog ann F = true ∧ Tryz.prog.funcs[165 % 10000]? = some F ∧ x165.1 = cFn Tryz.prog ann F := ⟨_, an165, zdx160fl_ok, by kernel_rfl, Tryz.func165, x165.2.symm⟩
def an166 : Ann := { flats := zdx160fl, loops := [([0, 1, 12, 13], [4])], befs := [(6, [0, 0, 3, 7, 0, 0, 48, 112, 255])] }
def x166 : Σ' a, cFn Tryz.prog an166 Tryz.f166 = a := ⟨_, by conv => lhs; reduce⟩
theorem o166 : ∃ F ann, FlOk Tryz.prog ann.flats ∧ fnOk Tryz.prog ann F = true ∧ Tryz.prog.funcs[166 % 10000]? = some F ∧ x166.1 = cFn Tryz.prog ann F := ⟨_, an166, zdx160fl_ok, by kernel_rfl, Tryz.func166, x166.2.symm⟩
def an168 : Ann := { flats := zdx160fl, loops := [([0, 1, 9, 10, 11], [0, 1, 4])] }
def x168 : Σ' a, cFn Tryz.prog an168 Tryz.f168 = a := ⟨_, by conv => lhs; reduce⟩
theorem o168 : ∃ F ann, FlOk Tryz.prog ann.flats ∧ fnOk Tryz.prog ann F = true ∧ Tryz.prog.funcs[168 % 10000]? = some F ∧ x168.1 = cFn Tryz.prog ann F := ⟨_, an168, zdx160fl_ok, by kernel_rfl, Tryz.func168, x168.2.symm⟩
def an169 : Ann := { flats := zdx160fl, loops := [([0, 1, 7, 8], [4])] }
def x169 : Σ' a, cFn Tryz.prog an169 Tryz.f169 = a := ⟨_, by conv => lhs; reduce⟩
theorem o169 : ∃ F ann, FlOk Tryz.prog ann.flats ∧ fnOk Tryz.prog ann F = true ∧ Tryz.prog.funcs[169 % 10000]? = some F ∧ x169.1 = cFn Tryz.prog ann F := ⟨_, an169, zdx160fl_ok, by kernel_rfl, Tryz.func169, x169.2.symm⟩
def an170 : Ann := { flats := zdx160fl, loops := [] }
def x170 : Σ' a, cFn Tryz.prog an170 Tryz.f170 = a := ⟨_, by conv => lhs; reduce⟩
theorem o170 : ∃ F ann, FlOk Tryz.prog ann.flats ∧ fnOk Tryz.prog ann F = true ∧ Tryz.prog.funcs[170 % 10000]? = some F ∧ x170.1 = cFn Tryz.prog ann F := ⟨_, an170, zdx160fl_ok, by kernel_rfl, Tryz.func170, x170.2.symm⟩
def an173 : Ann := { flats := zdx160fl, loops := [], befs := [(1, [0, 1, 3, 7, 0, 16, 48, 112, 240, 511]), (4, [0, 1, 3, 7, 0, 16, 48, 112, 240, 511, 1023])] }
def x173 : Σ' a, cFn Tryz.prog an173 Tryz.f173 = a := ⟨_, by conv => lhs; reduce⟩
theorem o173 : ∃ F ann, FlOk Tryz.prog ann.flats ∧ fnOk Tryz.prog ann F = true ∧ Tryz.prog.funcs[173 % 10000]? = some F ∧ x173.1 = cFn Tryz.prog ann F := ⟨_, an173, zdx160fl_ok, by kernel_rfl, Tryz.func173, x173.2.symm⟩
def an174 : Ann := { flats := zdx160fl, loops := [] }
def x174 : Σ' a, cFn Tryz.prog an174 Tryz.f174 = a := ⟨_, by conv => lhs; reduce⟩
theorem o174 : ∃ F ann, FlOk Tryz.prog ann.flats ∧ fnOk Tryz.prog ann F = true ∧ Tryz.prog.funcs[174 % 10000]? = some F ∧ x174.1 = cFn Tryz.prog ann F := ⟨_, an174, zdx160fl_ok, by kernel_rfl, Tryz.func174, x174.2.symm⟩
def an176 : Ann := { flats := zdx160fl, loops := [] }
def x176 : Σ' a, cFn Tryz.prog an176 Tryz.f176 = a := ⟨_, by conv => lhs; reduce⟩
theorem o176 : ∃ F ann, FlOk Tryz.prog ann.flats ∧ fnOk Tryz.prog ann F = true ∧ Tryz.prog.funcs[176 % 10000]? = some F ∧ x176.1 = cFn Tryz.prog ann F := ⟨_, an176, zdx160fl_ok, by kernel_rfl, Tryz.func176, x176.2.symm⟩
def an177 : Ann := { flats := zdx160fl, loops := [] }
def x177 : Σ' a, cFn Tryz.prog an177 Tryz.f177 = a := ⟨_, by conv => lhs; reduce⟩
theorem o177 : ∃ F ann, FlOk Tryz.prog ann.flats ∧ fnOk Tryz.prog ann F = true ∧ Tryz.prog.funcs[177 % 10000]? = some F ∧ x177.1 = cFn Tryz.prog ann F := ⟨_, an177, zdx160fl_ok, by kernel_rfl, Tryz.func177, x177.2.symm⟩
def an178 : Ann := { flats := zdx160fl, loops := [([0, 1, 7], [4]), ([0, 1, 5, 7, 11, 12], [0, 1, 4, 7])] }
def x178 : Σ' a, cFn Tryz.prog an178 Tryz.f178 = a := ⟨_, by conv => lhs; reduce⟩
theorem o178 : ∃ F ann, FlOk Tryz.prog ann.flats ∧ fnOk Tryz.prog ann F = true ∧ Tryz.prog.funcs[178 % 10000]? = some F ∧ x178.1 = cFn Tryz.prog ann F := ⟨_, an178, zdx160fl_ok, by kernel_rfl, Tryz.func178, x178.2.symm⟩
def an179 : Ann := { flats := zdx160fl, loops := [] }
def x179 : Σ' a, cFn Tryz.prog an179 Tryz.f179 = a := ⟨_, by conv => lhs; reduce⟩
theorem o179 : ∃ F ann, FlOk Tryz.prog ann.flats ∧ fnOk Tryz.prog ann F = true ∧ Tryz.prog.funcs[179 % 10000]? = some F ∧ x179.1 = cFn Tryz.prog ann F := ⟨_, an179, zdx160fl_ok, by kernel_rfl, Tryz.func179, x179.2.symm⟩
def an180 : Ann := { flats := zdx160fl, loops := [] }
def x180 : Σ' a, cFn Tryz.prog an180 Tryz.f180 = a := ⟨_, by conv => lhs; reduce⟩
theorem o180 : ∃ F ann, FlOk Tryz.prog ann.flats ∧ fnOk Tryz.prog ann F = true ∧ Tryz.prog.funcs[180 % 10000]? = some F ∧ x180.1 = cFn Tryz.prog ann F := ⟨_, an180, zdx160fl_ok, by kernel_rfl, Tryz.func180, x180.2.symm⟩
def an181 : Ann := { flats := zdx160fl, loops := [] }
def x181 : Σ' a, cFn Tryz.prog an181 Tryz.f181 = a := ⟨_, by conv => lhs; reduce⟩
theorem o181 : ∃ F ann, FlOk Tryz.prog ann.flats ∧ fnOk Tryz.prog ann F = true ∧ Tryz.prog.funcs[181 % 10000]? = some F ∧ x181.1 = cFn Tryz.prog ann F := ⟨_, an181, zdx160fl_ok, by kernel_rfl, Tryz.func181, x181.2.symm⟩
def an182 : Ann := { flats := zdx160fl, loops := [] }
def x182 : Σ' a, cFn Tryz.prog an182 Tryz.f182 = a := ⟨_, by conv => lhs; reduce⟩
theorem o182 : ∃ F ann, FlOk Tryz.prog ann.flats ∧ fnOk Tryz.prog ann F = true ∧ Tryz.prog.funcs[182 % 10000]? = some F ∧ x182.1 = cFn Tryz.prog ann F := ⟨_, an182, zdx160fl_ok, by kernel_rfl, Tryz.func182, x182.2.symm⟩
def an183 : Ann := { flats := zdx160fl, loops := [] }
def x183 : Σ' a, cFn Tryz.prog an183 Tryz.f183 = a := ⟨_, by conv => lhs; reduce⟩
theorem o183 : ∃ F ann, FlOk Tryz.prog ann.flats ∧ fnOk Tryz.prog ann F = true ∧ Tryz.prog.funcs[183 % 10000]? = some F ∧ x183.1 = cFn Tryz.prog ann F := ⟨_, an183, zdx160fl_ok, by kernel_rfl, Tryz.func183, x183.2.symm⟩
def an184 : Ann := { flats := zdx160fl, loops := [] }
def x184 : Σ' a, cFn Tryz.prog an184 Tryz.f184 = a := ⟨_, by conv => lhs; reduce⟩
theorem o184 : ∃ F ann, FlOk Tryz.prog ann.flats ∧ fnOk Tryz.prog ann F = true ∧ Tryz.prog.funcs[184 % 10000]? = some F ∧ x184.1 = cFn Tryz.prog ann F := ⟨_, an184, zdx160fl_ok, by kernel_rfl, Tryz.func184, x184.2.symm⟩
end Go.Proofs.YtjlebmnlphjjoaaGreatDoor.Fx
