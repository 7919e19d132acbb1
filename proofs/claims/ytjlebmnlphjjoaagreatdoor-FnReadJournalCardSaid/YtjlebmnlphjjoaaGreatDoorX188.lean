import Derived.Test.YtjlebmnlphjjoaaGreatDoorProg
import Derived.KernelRfl
import Derived.Test.YtjlebmnlphjjoaaGreatDoorAbsD
set_option linter.unusedVariables false
set_option linter.unusedSimpArgs false
/- The functions of the program, laid out by Lean's own reckoning from the program; no condition. -/
open Go Go.Proofs.YtjlebmnlphjjoaaGreatDoor.Abs
namespace Go.Proofs.YtjlebmnlphjjoaaGreatDoor.Fx
set_option maxRecDepth 100000
set_option maxHeartbeats 8000000
set_option linter.unusedVariables false
def zdx188fl : List TypeId := [90, 39]
theorem zdx188fl_ok : FlOk Tryz.prog zdx188fl := by
  intro t ht
  simp only [zdx188fl, List.mem_cons, List.mem_nil_iff, or_false] at ht
  rcases ht with rfl | rfl <;> exact ⟨by kernel_rfl, by kernel_rfl⟩
def an188 : Ann := { flats := zdx188fl, loops := [([0, 3], [0, 2])] }
def x188 : Σ' a, cFn Tryz.prog an188 Tryz.f188 = a := ⟨_, by conv => lhs; reduce⟩
theorem o188 : ∃ F ann, FlOk Tryz.prog ann.flats ∧ fnOk Tryz.prog ann F = true ∧ Tryz.prog.funcs[188 % 10000]? = some F ∧ x188.1 = cFn Tryz.prog ann F := ⟨_, an188, zdx188fl_ok, by kernel_rfl, Tryz.func188, x188.2.symm⟩
def an189 : Ann := { flats := zdx188fl, loops := [([0, 1, 2, 7], [6]), ([0, 1, 2, 7, 8], [0, 1, 2, 6, 7])] }
def x189 : Σ' a, cFn Tryz.prog an189 Tryz.f189 = a := ⟨_, by conv => lhs; reduce⟩
theorem o189 : ∃ F ann, FlOk Tryz.prog ann.flats ∧ fnOk Tryz.prog ann F = true ∧ Tryz.prog.funcs[189 % 10000]? = some F ∧ x189.1 = cFn Tryz.prog ann F := ⟨_, an189, zdx188fl_ok, by kernel_rfl, Tryz.func189, x189.2.symm⟩
def an190 : Ann := { flats := zdx188fl, loops := [] }
def x190 : Σ' a, cFn Tryz.prog an190 Tryz.f190 = a := ⟨_, by conv => lhs; reduce⟩
theorem o190 : ∃ F ann, FlOk Tryz.prog ann.flats ∧ fnOk Tryz.prog ann F = true ∧ Tryz.prog.funcs[190 % 10000]? = some F ∧ x190.1 = cFn Tryz.prog ann F := ⟨_, an190, zdx188fl_ok, by kernel_rfl, Tryz.func190, x190.2.symm⟩
def an191 : Ann := { flats := zdx188fl, loops := [([1, 5, 9, 10], [5])], befs := [(7, [0, 1, 3, 7, 0, 16, 48, 112, 0, 256, 768, 1792, 4080, 0, 8192, 24576, 57344, 0, 131072, 393216, 917504, 2088960, 4194288, 8388607, 0, 16777216, 50331648, 117440512, 0, 268435456, 805306368, 1879048192, 0, 4294967296, 12884901888, 30064771072, 68451041280, 0, 137438953472, 412316860416, 962072674304, 0, 2199023255552, 6597069766656, 15393162788864, 35046933135360, 70368475742208, 140737471578112, 281474976710655, 0, 562949953421312, 1688849860263936, 3940649673949184, 0, 9007199254740992, 27021597764222976, 63050394783186944, 0, 144115188075855872, 432345564227567616, 1008806316530991104, 2296835809958952960, 0, 4611686018427387904, 13835058055282163712, 32281802128991715328, 0, 73786976294838206464, 221360928884514619392, 516508834063867445248, 1175979934698983915520, 2361174234235567865856, 4722365919919691792384, 9444732965739290427391, 18889465931478580854783])] }
def x191 : Σ' a, cFn Tryz.prog an191 Tryz.f191 = a := ⟨_, by conv => lhs; reduce⟩
theorem o191 : ∃ F ann, FlOk Tryz.prog ann.flats ∧ fnOk Tryz.prog ann F = true ∧ Tryz.prog.funcs[191 % 10000]? = some F ∧ x191.1 = cFn Tryz.prog ann F := ⟨_, an191, zdx188fl_ok, by kernel_rfl, Tryz.func191, x191.2.symm⟩
def an192 : Ann := { flats := zdx188fl, loops := [([0, 3, 4], [3])] }
def x192 : Σ' a, cFn Tryz.prog an192 Tryz.f192 = a := ⟨_, by conv => lhs; reduce⟩
theorem o192 : ∃ F ann, FlOk Tryz.prog ann.flats ∧ fnOk Tryz.prog ann F = true ∧ Tryz.prog.funcs[192 % 10000]? = some F ∧ x192.1 = cFn Tryz.prog ann F := ⟨_, an192, zdx188fl_ok, by kernel_rfl, Tryz.func192, x192.2.symm⟩
def an193 : Ann := { flats := zdx188fl, loops := [([0, 1, 7, 8], [4])] }
def x193 : Σ' a, cFn Tryz.prog an193 Tryz.f193 = a := ⟨_, by conv => lhs; reduce⟩
theorem o193 : ∃ F ann, FlOk Tryz.prog ann.flats ∧ fnOk Tryz.prog ann F = true ∧ Tryz.prog.funcs[193 % 10000]? = some F ∧ x193.1 = cFn Tryz.prog ann F := ⟨_, an193, zdx188fl_ok, by kernel_rfl, Tryz.func193, x193.2.symm⟩
def an196 : Ann := { flats := zdx188fl, loops := [] }
def x196 : Σ' a, cFn Tryz.prog an196 Tryz.f196 = a := ⟨_, by conv => lhs; reduce⟩
theorem o196 : ∃ F ann, FlOk Tryz.prog ann.flats ∧ fnOk Tryz.prog ann F = true ∧ Tryz.prog.funcs[196 % 10000]? = some F ∧ x196.1 = cFn Tryz.prog ann F := ⟨_, an196, zdx188fl_ok, by kernel_rfl, Tryz.func196, x196.2.symm⟩
def an199 : Ann := { flats := zdx188fl, loops := [] }
def x199 : Σ' a, cFn Tryz.prog an199 Tryz.f199 = a := ⟨_, by conv => lhs; reduce⟩
theorem o199 : ∃ F ann, FlOk Tryz.prog ann.flats ∧ fnOk Tryz.prog ann F = true ∧ Tryz.prog.funcs[199 % 10000]? = some F ∧ x199.1 = cFn Tryz.prog ann F := ⟨_, an199, zdx188fl_ok, by kernel_rfl, Tryz.func199, x199.2.symm⟩
def an200 : Ann := { flats := zdx188fl, loops := [] }
def x200 : Σ' a, cFn Tryz.prog an200 Tryz.f200 = a := ⟨_, by conv => lhs; reduce⟩
theorem o200 : ∃ F ann, FlOk Tryz.prog ann.flats ∧ fnOk Tryz.prog ann F = true ∧ Tryz.prog.funcs[200 % 10000]? = some F ∧ x200.1 = cFn Tryz.prog ann F := ⟨_, an200, zdx188fl_ok, by kernel_rfl, Tryz.func200, x200.2.symm⟩
def an201 : Ann := { flats := zdx188fl, loops := [] }
def x201 : Σ' a, cFn Tryz.prog an201 Tryz.f201 = a := ⟨_, by conv => lhs; reduce⟩
theorem o201 : ∃ F ann, FlOk Tryz.prog ann.flats ∧ fnOk Tryz.prog ann F = true ∧ Tryz.prog.funcs[201 % 10000]? = some F ∧ x201.1 = cFn Tryz.prog ann F := ⟨_, an201, zdx188fl_ok, by kernel_rfl, Tryz.func201, x201.2.symm⟩
def an202 : Ann := { flats := zdx188fl, loops := [] }
def x202 : Σ' a, cFn Tryz.prog an202 Tryz.f202 = a := ⟨_, by conv => lhs; reduce⟩
theorem o202 : ∃ F ann, FlOk Tryz.prog ann.flats ∧ fnOk Tryz.prog ann F = true ∧ Tryz.prog.funcs[202 % 10000]? = some F ∧ x202.1 = cFn Tryz.prog ann F := ⟨_, an202, zdx188fl_ok, by kernel_rfl, Tryz.func202, x202.2.symm⟩
def an203 : Ann := { flats := zdx188fl, loops := [] }
def x203 : Σ' a, cFn Tryz.prog an203 Tryz.f203 = a := ⟨_, by conv => lhs; reduce⟩
theorem o203 : ∃ F ann, FlOk Tryz.prog ann.flats ∧ fnOk Tryz.prog ann F = true ∧ Tryz.prog.funcs[203 % 10000]? = some F ∧ x203.1 = cFn Tryz.prog ann F := ⟨_, an203, zdx188fl_ok, by kernel_rfl, Tryz.func203, x203.2.symm⟩
def an204 : Ann := { flats := zdx188fl, loops := [] }
def x204 : Σ' a, cFn Tryz.prog an204 Tryz.f204 = a := ⟨_, by conv => lhs; reduce⟩
theorem o204 : ∃ F ann, FlOk Tryz.prog ann.flats ∧ fnOk Tryz.prog ann F = true ∧ Tryz.prog.funcs[204 % 10000]? = some F ∧ x204.1 = cFn Tryz.prog ann F := ⟨_, an204, zdx188fl_ok, by kernel_rfl, Tryz.func204, x204.2.symm⟩
def an205 : Ann := { flats := zdx188fl, loops := [] }
def x205 : Σ' a, cFn Tryz.prog an205 Tryz.f205 = a := ⟨_, by conv => lhs; reduce⟩
theorem o205 : ∃ F ann, FlOk Tryz.prog ann.flats ∧ fnOk Tryz.prog ann F = true ∧ Tryz.prog.funcs[205 % 10000]? = some F ∧ x205.1 = cFn Tryz.prog ann F := ⟨_, an205, zdx188fl_ok, by kernel_rfl, Tryz.func205, x205.2.symm⟩
def an206 : Ann := { flats := zdx188fl, loops := [] }
def x206 : Σ' a, cFn Tryz.prog an206 Tryz.f206 = a := ⟨_, by conv => lhs; reduce⟩
theorem o206 : ∃ F ann, FlOk Tryz.prog ann.flats ∧ fnOk Tryz.prog ann F = true ∧ Tryz.prog.funcs[206 % 10000]? = some F ∧ x206.1 = cFn Tryz.prog ann F := ⟨_, an206, zdx188fl_ok, by kernel_rfl, Tryz.func206, x206.2.symm⟩
def an207 : Ann := { flats := zdx188fl, loops := [] }
def x207 : Σ' a, cFn Tryz.prog an207 Tryz.f207 = a := ⟨_, by conv => lhs; reduce⟩
theorem o207 : ∃ F ann, FlOk Tryz.prog ann.flats ∧ fnOk Tryz.prog ann F = true ∧ Tryz.prog.funcs[207 % 10000]? = some F ∧ x207.1 = cFn Tryz.prog ann F := ⟨_, an207, zdx188fl_ok, by kernel_rfl, Tryz.func207, x207.2.symm⟩
def an208 : Ann := { flats := zdx188fl, loops := [([0, 3, 8], [3]), ([0, 3, 4, 8, 12, 13], [0, 3, 8])] }
def x208 : Σ' a, cFn Tryz.prog an208 Tryz.f208 = a := ⟨_, by conv => lhs; reduce⟩
theorem o208 : ∃ F ann, FlOk Tryz.prog ann.flats ∧ fnOk Tryz.prog ann F = true ∧ Tryz.prog.funcs[208 % 10000]? = some F ∧ x208.1 = cFn Tryz.prog ann F := ⟨_, an208, zdx188fl_ok, by kernel_rfl, Tryz.func208, x208.2.symm⟩
def an214 : Ann := { flats := zdx188fl, loops := [], befs := [(3, [0, 1, 3, 7, 15, 31, 63, 127, 127, 511, 1023, 127, 127, 6271, 14463, 32767, 65535, 131071])] }
def x214 : Σ' a, cFn Tryz.prog an214 Tryz.f214 = a := ⟨_, by conv => lhs; reduce⟩
theorem o214 : ∃ F ann, FlOk Tryz.prog ann.flats ∧ fnOk Tryz.prog ann F = true ∧ Tryz.prog.funcs[214 % 10000]? = some F ∧ x214.1 = cFn Tryz.prog ann F := ⟨_, an214, zdx188fl_ok, by kernel_rfl, Tryz.func214, x214.2.symm⟩
def an215 : Ann := { flats := zdx188fl, loops := [], befs := [(5, [0, 0, 3, 0, 0, 24, 63, 127])] }
def x215 : Σ' a, cFn Tryz.prog an215 Tryz.f215 = a := ⟨_, by conv => lhs; reduce⟩
theorem o215 : ∃ F ann, FlOk Tryz.prog ann.flats ∧ fnOk Tryz.prog ann F = true ∧ Tryz.prog.funcs[215 % 10000]? = some F ∧ x215.1 = cFn Tryz.prog ann F := ⟨_, an215, zdx188fl_ok, by kernel_rfl, Tryz.func215, x215.2.symm⟩
def an225 : Ann := { flats := zdx188fl, loops := [] }
def x225 : Σ' a, cFn Tryz.prog an225 Tryz.f225 = a := ⟨_, by conv => lhs; reduce⟩
theorem o225 : ∃ F ann, FlOk Tryz.prog ann.flats ∧ fnOk Tryz.prog ann F = true ∧ Tryz.prog.funcs[225 % 10000]? = some F ∧ x225.1 = cFn Tryz.prog ann F := ⟨_, an225, zdx188fl_ok, by kernel_rfl, Tryz.func225, x225.2.symm⟩
def an226 : Ann := { flats := zdx188fl, loops := [] }
def x226 : Σ' a, cFn Tryz.prog an226 Tryz.f226 = a := ⟨_, by conv => lhs; reduce⟩
theorem o226 : ∃ F ann, FlOk Tryz.prog ann.flats ∧ fnOk Tryz.prog ann F = true ∧ Tryz.prog.funcs[226 % 10000]? = some F ∧ x226.1 = cFn Tryz.prog ann F := ⟨_, an226, zdx188fl_ok, by kernel_rfl, Tryz.func226, x226.2.symm⟩
def an234 : Ann := { flats := zdx188fl, loops := [] }
def x234 : Σ' a, cFn Tryz.prog an234 Tryz.f234 = a := ⟨_, by conv => lhs; reduce⟩
theorem o234 : ∃ F ann, FlOk Tryz.prog ann.flats ∧ fnOk Tryz.prog ann F = true ∧ Tryz.prog.funcs[234 % 10000]? = some F ∧ x234.1 = cFn Tryz.prog ann F := ⟨_, an234, zdx188fl_ok, by kernel_rfl, Tryz.func234, x234.2.symm⟩
def an236 : Ann := { flats := zdx188fl, loops := [] }
def x236 : Σ' a, cFn Tryz.prog an236 Tryz.f236 = a := ⟨_, by conv => lhs; reduce⟩
theorem o236 : ∃ F ann, FlOk Tryz.prog ann.flats ∧ fnOk Tryz.prog ann F = true ∧ Tryz.prog.funcs[236 % 10000]? = some F ∧ x236.1 = cFn Tryz.prog ann F := ⟨_, an236, zdx188fl_ok, by kernel_rfl, Tryz.func236, x236.2.symm⟩
end Go.Proofs.YtjlebmnlphjjoaaGreatDoor.Fx
