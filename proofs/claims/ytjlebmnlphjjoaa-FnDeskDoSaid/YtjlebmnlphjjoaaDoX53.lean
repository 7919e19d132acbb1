import Derived.Test.YtjlebmnlphjjoaaProg
import Derived.KernelRfl
import Derived.Test.YtjlebmnlphjjoaaDoAbsD
set_option linter.unusedVariables false
set_option linter.unusedSimpArgs false
/- The functions of the program, laid out by Lean's own reckoning from the program; no condition. -/
open Go Go.Proofs.Ytjlebmnlphjjoaa.Abs
namespace Go.Proofs.Ytjlebmnlphjjoaa.Fx
set_option maxRecDepth 100000
set_option maxHeartbeats 8000000
set_option linter.unusedVariables false
def zzx53fl : List TypeId := [43, 37]
theorem zzx53fl_ok : FlOk Try.prog zzx53fl := by
  intro t ht
  simp only [zzx53fl, List.mem_cons, List.mem_nil_iff, or_false] at ht
  rcases ht with rfl | rfl <;> exact ⟨by kernel_rfl, by kernel_rfl⟩
def an53 : Ann := { flats := zzx53fl, loops := [], befs := [(1, [0, 0, 2, 7, 15, 0, 0, 64, 224, 480, 1023, 2047])] }
def x53 : Σ' a, cFn Try.prog an53 Try.f53 = a := ⟨_, by conv => lhs; reduce⟩
theorem o53 : ∃ F ann, FlOk Try.prog ann.flats ∧ fnOk Try.prog ann F = true ∧ Try.prog.funcs[53 % 10000]? = some F ∧ x53.1 = cFn Try.prog ann F := ⟨_, an53, zzx53fl_ok, by kernel_rfl, Try.func53, x53.2.symm⟩
def an54 : Ann := { flats := zzx53fl, loops := [] }
def x54 : Σ' a, cFn Try.prog an54 Try.f54 = a := ⟨_, by conv => lhs; reduce⟩
theorem o54 : ∃ F ann, FlOk Try.prog ann.flats ∧ fnOk Try.prog ann F = true ∧ Try.prog.funcs[54 % 10000]? = some F ∧ x54.1 = cFn Try.prog ann F := ⟨_, an54, zzx53fl_ok, by kernel_rfl, Try.func54, x54.2.symm⟩
def an55 : Ann := { flats := zzx53fl, loops := [([0, 1, 7, 8], [4])] }
def x55 : Σ' a, cFn Try.prog an55 Try.f55 = a := ⟨_, by conv => lhs; reduce⟩
theorem o55 : ∃ F ann, FlOk Try.prog ann.flats ∧ fnOk Try.prog ann F = true ∧ Try.prog.funcs[55 % 10000]? = some F ∧ x55.1 = cFn Try.prog ann F := ⟨_, an55, zzx53fl_ok, by kernel_rfl, Try.func55, x55.2.symm⟩
def an56 : Ann := { flats := zzx53fl, loops := [([3, 19, 20, 21], [3]), ([3, 6, 35, 36, 37], [6]), ([3, 6, 8, 35, 36, 37, 44, 45, 46], [3, 6, 35, 36, 37]), ([3, 6, 8, 10, 35, 36, 37, 44, 45, 46, 53, 54, 55], [3, 6, 8, 35, 36, 37, 44, 45, 46])], mu := [18] }
def x56 : Σ' a, cFn Try.prog an56 Try.f56 = a := ⟨_, by conv => lhs; reduce⟩
theorem o56 : ∃ F ann, FlOk Try.prog ann.flats ∧ fnOk Try.prog ann F = true ∧ Try.prog.funcs[56 % 10000]? = some F ∧ x56.1 = cFn Try.prog ann F := ⟨_, an56, zzx53fl_ok, by kernel_rfl, Try.func56, x56.2.symm⟩
def an57 : Ann := { flats := zzx53fl, loops := [] }
def x57 : Σ' a, cFn Try.prog an57 Try.f57 = a := ⟨_, by conv => lhs; reduce⟩
theorem o57 : ∃ F ann, FlOk Try.prog ann.flats ∧ fnOk Try.prog ann F = true ∧ Try.prog.funcs[57 % 10000]? = some F ∧ x57.1 = cFn Try.prog ann F := ⟨_, an57, zzx53fl_ok, by kernel_rfl, Try.func57, x57.2.symm⟩
def an58 : Ann := { flats := zzx53fl, loops := [] }
def x58 : Σ' a, cFn Try.prog an58 Try.f58 = a := ⟨_, by conv => lhs; reduce⟩
theorem o58 : ∃ F ann, FlOk Try.prog ann.flats ∧ fnOk Try.prog ann F = true ∧ Try.prog.funcs[58 % 10000]? = some F ∧ x58.1 = cFn Try.prog ann F := ⟨_, an58, zzx53fl_ok, by kernel_rfl, Try.func58, x58.2.symm⟩
def an59 : Ann := { flats := zzx53fl, loops := [([0, 3, 7, 8], [4])], befs := [(4, [0, 0, 0, 6, 14, 31])] }
def x59 : Σ' a, cFn Try.prog an59 Try.f59 = a := ⟨_, by conv => lhs; reduce⟩
theorem o59 : ∃ F ann, FlOk Try.prog ann.flats ∧ fnOk Try.prog ann F = true ∧ Try.prog.funcs[59 % 10000]? = some F ∧ x59.1 = cFn Try.prog ann F := ⟨_, an59, zzx53fl_ok, by kernel_rfl, Try.func59, x59.2.symm⟩
def an60 : Ann := { flats := zzx53fl, loops := [([1, 3, 9], [3])] }
def x60 : Σ' a, cFn Try.prog an60 Try.f60 = a := ⟨_, by conv => lhs; reduce⟩
theorem o60 : ∃ F ann, FlOk Try.prog ann.flats ∧ fnOk Try.prog ann F = true ∧ Try.prog.funcs[60 % 10000]? = some F ∧ x60.1 = cFn Try.prog ann F := ⟨_, an60, zzx53fl_ok, by kernel_rfl, Try.func60, x60.2.symm⟩
def an61 : Ann := { flats := zzx53fl, loops := [([1, 3, 4, 5, 12, 13], [3, 4]), ([1, 3, 5, 7, 8, 12, 13], [1, 3, 4, 5, 12, 13]), ([3, 4, 50, 51], [3])], befs := [(8, [0, 0, 0, 6, 14, 1, 63]), (9, [0, 0, 0, 6, 3, 31])], exp := true }
def x61 : Σ' a, cFn Try.prog an61 Try.f61 = a := ⟨_, by conv => lhs; reduce⟩
theorem o61 : ∃ F ann, FlOk Try.prog ann.flats ∧ fnOk Try.prog ann F = true ∧ Try.prog.funcs[61 % 10000]? = some F ∧ x61.1 = cFn Try.prog ann F := ⟨_, an61, zzx53fl_ok, by kernel_rfl, Try.func61, x61.2.symm⟩
def an62 : Ann := { flats := zzx53fl, loops := [] }
def x62 : Σ' a, cFn Try.prog an62 Try.f62 = a := ⟨_, by conv => lhs; reduce⟩
theorem o62 : ∃ F ann, FlOk Try.prog ann.flats ∧ fnOk Try.prog ann F = true ∧ Try.prog.funcs[62 % 10000]? = some F ∧ x62.1 = cFn Try.prog ann F := ⟨_, an62, zzx53fl_ok, by kernel_rfl, Try.func62, x62.2.symm⟩
def an63 : Ann := { flats := zzx53fl, loops := [] }
def x63 : Σ' a, cFn Try.prog an63 Try.f63 = a := ⟨_, by conv => lhs; reduce⟩
theorem o63 : ∃ F ann, FlOk Try.prog ann.flats ∧ fnOk Try.prog ann F = true ∧ Try.prog.funcs[63 % 10000]? = some F ∧ x63.1 = cFn Try.prog ann F := ⟨_, an63, zzx53fl_ok, by kernel_rfl, Try.func63, x63.2.symm⟩
def an64 : Ann := { flats := zzx53fl, loops := [([1, 5, 8, 9, 10], [5])] }
def x64 : Σ' a, cFn Try.prog an64 Try.f64 = a := ⟨_, by conv => lhs; reduce⟩
theorem o64 : ∃ F ann, FlOk Try.prog ann.flats ∧ fnOk Try.prog ann F = true ∧ Try.prog.funcs[64 % 10000]? = some F ∧ x64.1 = cFn Try.prog ann F := ⟨_, an64, zzx53fl_ok, by kernel_rfl, Try.func64, x64.2.symm⟩
def an65 : Ann := { flats := zzx53fl, loops := [] }
def x65 : Σ' a, cFn Try.prog an65 Try.f65 = a := ⟨_, by conv => lhs; reduce⟩
theorem o65 : ∃ F ann, FlOk Try.prog ann.flats ∧ fnOk Try.prog ann F = true ∧ Try.prog.funcs[65 % 10000]? = some F ∧ x65.1 = cFn Try.prog ann F := ⟨_, an65, zzx53fl_ok, by kernel_rfl, Try.func65, x65.2.symm⟩
def an66 : Ann := { flats := zzx53fl, loops := [([0, 1, 12, 13], [4])], befs := [(6, [0, 0, 3, 7, 0, 0, 48, 112, 255])] }
def x66 : Σ' a, cFn Try.prog an66 Try.f66 = a := ⟨_, by conv => lhs; reduce⟩
theorem o66 : ∃ F ann, FlOk Try.prog ann.flats ∧ fnOk Try.prog ann F = true ∧ Try.prog.funcs[66 % 10000]? = some F ∧ x66.1 = cFn Try.prog ann F := ⟨_, an66, zzx53fl_ok, by kernel_rfl, Try.func66, x66.2.symm⟩
def an68 : Ann := { flats := zzx53fl, loops := [([0, 1, 9, 10, 11], [0, 1, 4])] }
def x68 : Σ' a, cFn Try.prog an68 Try.f68 = a := ⟨_, by conv => lhs; reduce⟩
theorem o68 : ∃ F ann, FlOk Try.prog ann.flats ∧ fnOk Try.prog ann F = true ∧ Try.prog.funcs[68 % 10000]? = some F ∧ x68.1 = cFn Try.prog ann F := ⟨_, an68, zzx53fl_ok, by kernel_rfl, Try.func68, x68.2.symm⟩
def an69 : Ann := { flats := zzx53fl, loops := [] }
def x69 : Σ' a, cFn Try.prog an69 Try.f69 = a := ⟨_, by conv => lhs; reduce⟩
theorem o69 : ∃ F ann, FlOk Try.prog ann.flats ∧ fnOk Try.prog ann F = true ∧ Try.prog.funcs[69 % 10000]? = some F ∧ x69.1 = cFn Try.prog ann F := ⟨_, an69, zzx53fl_ok, by kernel_rfl, Try.func69, x69.2.symm⟩
def an70 : Ann := { flats := zzx53fl, loops := [] }
def x70 : Σ' a, cFn Try.prog an70 Try.f70 = a := ⟨_, by conv => lhs; reduce⟩
theorem o70 : ∃ F ann, FlOk Try.prog ann.flats ∧ fnOk Try.prog ann F = true ∧ Try.prog.funcs[70 % 10000]? = some F ∧ x70.1 = cFn Try.prog ann F := ⟨_, an70, zzx53fl_ok, by kernel_rfl, Try.func70, x70.2.symm⟩
def an71 : Ann := { flats := zzx53fl, loops := [([1, 5, 9, 10], [5])], befs := [(7, [0, 1, 3, 7, 0, 16, 48, 112, 0, 256, 768, 1792, 4080, 0, 8192, 24576, 57344, 0, 131072, 393216, 917504, 2088960, 4194288, 8388607, 0, 16777216, 50331648, 117440512, 0, 268435456, 805306368, 1879048192, 0, 4294967296, 12884901888, 30064771072, 68451041280, 0, 137438953472, 412316860416, 962072674304, 0, 2199023255552, 6597069766656, 15393162788864, 35046933135360, 70368475742208, 140737471578112, 281474976710655, 0, 562949953421312, 1688849860263936, 3940649673949184, 0, 9007199254740992, 27021597764222976, 63050394783186944, 0, 144115188075855872, 432345564227567616, 1008806316530991104, 2296835809958952960, 0, 4611686018427387904, 13835058055282163712, 32281802128991715328, 0, 73786976294838206464, 221360928884514619392, 516508834063867445248, 1175979934698983915520, 2361174234235567865856, 4722365919919691792384, 9444732965739290427391, 18889465931478580854783])] }
def x71 : Σ' a, cFn Try.prog an71 Try.f71 = a := ⟨_, by conv => lhs; reduce⟩
theorem o71 : ∃ F ann, FlOk Try.prog ann.flats ∧ fnOk Try.prog ann F = true ∧ Try.prog.funcs[71 % 10000]? = some F ∧ x71.1 = cFn Try.prog ann F := ⟨_, an71, zzx53fl_ok, by kernel_rfl, Try.func71, x71.2.symm⟩
def an72 : Ann := { flats := zzx53fl, loops := [([0, 3, 4], [3])] }
def x72 : Σ' a, cFn Try.prog an72 Try.f72 = a := ⟨_, by conv => lhs; reduce⟩
theorem o72 : ∃ F ann, FlOk Try.prog ann.flats ∧ fnOk Try.prog ann F = true ∧ Try.prog.funcs[72 % 10000]? = some F ∧ x72.1 = cFn Try.prog ann F := ⟨_, an72, zzx53fl_ok, by kernel_rfl, Try.func72, x72.2.symm⟩
def an73 : Ann := { flats := zzx53fl, loops := [([0, 1, 7, 8], [4])] }
def x73 : Σ' a, cFn Try.prog an73 Try.f73 = a := ⟨_, by conv => lhs; reduce⟩
theorem o73 : ∃ F ann, FlOk Try.prog ann.flats ∧ fnOk Try.prog ann F = true ∧ Try.prog.funcs[73 % 10000]? = some F ∧ x73.1 = cFn Try.prog ann F := ⟨_, an73, zzx53fl_ok, by kernel_rfl, Try.func73, x73.2.symm⟩
def an76 : Ann := { flats := zzx53fl, loops := [] }
def x76 : Σ' a, cFn Try.prog an76 Try.f76 = a := ⟨_, by conv => lhs; reduce⟩
theorem o76 : ∃ F ann, FlOk Try.prog ann.flats ∧ fnOk Try.prog ann F = true ∧ Try.prog.funcs[76 % 10000]? = some F ∧ x76.1 = cFn Try.prog ann F := ⟨_, an76, zzx53fl_ok, by kernel_rfl, Try.func76, x76.2.symm⟩
def an77 : Ann := { flats := zzx53fl, loops := [], befs := [(5, [0, 0, 3, 0, 0, 24, 63, 127])] }
def x77 : Σ' a, cFn Try.prog an77 Try.f77 = a := ⟨_, by conv => lhs; reduce⟩
theorem o77 : ∃ F ann, FlOk Try.prog ann.flats ∧ fnOk Try.prog ann F = true ∧ Try.prog.funcs[77 % 10000]? = some F ∧ x77.1 = cFn Try.prog ann F := ⟨_, an77, zzx53fl_ok, by kernel_rfl, Try.func77, x77.2.symm⟩
def an88 : Ann := { flats := zzx53fl, loops := [] }
def x88 : Σ' a, cFn Try.prog an88 Try.f88 = a := ⟨_, by conv => lhs; reduce⟩
theorem o88 : ∃ F ann, FlOk Try.prog ann.flats ∧ fnOk Try.prog ann F = true ∧ Try.prog.funcs[88 % 10000]? = some F ∧ x88.1 = cFn Try.prog ann F := ⟨_, an88, zzx53fl_ok, by kernel_rfl, Try.func88, x88.2.symm⟩
end Go.Proofs.Ytjlebmnlphjjoaa.Fx
