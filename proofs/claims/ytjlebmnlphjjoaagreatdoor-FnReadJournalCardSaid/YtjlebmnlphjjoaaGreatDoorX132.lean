import Derived.Test.YtjlebmnlphjjoaaGreatDoorProg
import Derived.KernelRfl
import Derived.Test.YtjlebmnlphjjoaaGreatDoorAbsD
set_option linter.unusedVariables false
set_option linter.unusedSimpArgs false
/- The functions of the program, laid out by Lean's own reckoning from the program; no condition. -/
open Go Go.Proofs.YtjlebmnlphjjoaaGreatDoor.Abs
namespace Go.Proofs.YtjlebmnlphjjoaaGreatDoor.Fx
set_option maxRecDepth 100000
set_option maxHeartbeats 8000000
set_option linter.unusedVariables false
def zdx132fl : List TypeId := [90, 39]
theorem zdx132fl_ok : FlOk Tryz.prog zdx132fl := by
  intro t ht
  simp only [zdx132fl, List.mem_cons, List.mem_nil_iff, or_false] at ht
  rcases ht with rfl | rfl <;> exact ⟨by kernel_rfl, by kernel_rfl⟩
def an132 : Ann := { flats := zdx132fl, loops := [([0, 3, 7, 8], [4])], befs := [(4, [0, 0, 0, 6, 14, 31])] }
def x132 : Σ' a, cFn Tryz.prog an132 Tryz.f132 = a := ⟨_, by conv => lhs; reduce⟩
theorem o132 : ∃ F ann, FlOk Tryz.prog ann.flats ∧ fnOk Tryz.prog ann F = true ∧ Tryz.prog.funcs[132 % 10000]? = some F ∧ x132.1 = cFn Tryz.prog ann F := ⟨_, an132, zdx132fl_ok, by kernel_rfl, Tryz.func132, x132.2.symm⟩
def an133 : Ann := { flats := zdx132fl, loops := [([3, 19, 20, 21], [3]), ([3, 6, 35, 36, 37], [6]), ([3, 6, 8, 35, 36, 37, 44, 45, 46], [3, 6, 35, 36, 37]), ([3, 6, 8, 10, 35, 36, 37, 44, 45, 46, 53, 54, 55], [3, 6, 8, 35, 36, 37, 44, 45, 46])], mu := [18] }
def x133 : Σ' a, cFn Tryz.prog an133 Tryz.f133 = a := ⟨_, by conv => lhs; reduce⟩
theorem o133 : ∃ F ann, FlOk Tryz.prog ann.flats ∧ fnOk Tryz.prog ann F = true ∧ Tryz.prog.funcs[133 % 10000]? = some F ∧ x133.1 = cFn Tryz.prog ann F := ⟨_, an133, zdx132fl_ok, by kernel_rfl, Tryz.func133, x133.2.symm⟩
def an134 : Ann := { flats := zdx132fl, loops := [] }
def x134 : Σ' a, cFn Tryz.prog an134 Tryz.f134 = a := ⟨_, by conv => lhs; reduce⟩
theorem o134 : ∃ F ann, FlOk Tryz.prog ann.flats ∧ fnOk Tryz.prog ann F = true ∧ Tryz.prog.funcs[134 % 10000]? = some F ∧ x134.1 = cFn Tryz.prog ann F := ⟨_, an134, zdx132fl_ok, by kernel_rfl, Tryz.func134, x134.2.symm⟩
def an135 : Ann := { flats := zdx132fl, loops := [] }
def x135 : Σ' a, cFn Tryz.prog an135 Tryz.f135 = a := ⟨_, by conv => lhs; reduce⟩
theorem o135 : ∃ F ann, FlOk Tryz.prog ann.flats ∧ fnOk Tryz.prog ann F = true ∧ Tryz.prog.funcs[135 % 10000]? = some F ∧ x135.1 = cFn Tryz.prog ann F := ⟨_, an135, zdx132fl_ok, by kernel_rfl, Tryz.func135, x135.2.symm⟩
def an136 : Ann := { flats := zdx132fl, loops := [] }
def x136 : Σ' a, cFn Tryz.prog an136 Tryz.f136 = a := ⟨_, by conv => lhs; reduce⟩
theorem o136 : ∃ F ann, FlOk Tryz.prog ann.flats ∧ fnOk Tryz.prog ann F = true ∧ Tryz.prog.funcs[136 % 10000]? = some F ∧ x136.1 = cFn Tryz.prog ann F := ⟨_, an136, zdx132fl_ok, by kernel_rfl, Tryz.func136, x136.2.symm⟩
def an140 : Ann := { flats := zdx132fl, loops := [] }
def x140 : Σ' a, cFn Tryz.prog an140 Tryz.f140 = a := ⟨_, by conv => lhs; reduce⟩
theorem o140 : ∃ F ann, FlOk Tryz.prog ann.flats ∧ fnOk Tryz.prog ann F = true ∧ Tryz.prog.funcs[140 % 10000]? = some F ∧ x140.1 = cFn Tryz.prog ann F := ⟨_, an140, zdx132fl_ok, by kernel_rfl, Tryz.func140, x140.2.symm⟩
def an141 : Ann := { flats := zdx132fl, loops := [] }
def x141 : Σ' a, cFn Tryz.prog an141 Tryz.f141 = a := ⟨_, by conv => lhs; reduce⟩
theorem o141 : ∃ F ann, FlOk Tryz.prog ann.flats ∧ fnOk Tryz.prog ann F = true ∧ Tryz.prog.funcs[141 % 10000]? = some F ∧ x141.1 = cFn Tryz.prog ann F := ⟨_, an141, zdx132fl_ok, by kernel_rfl, Tryz.func141, x141.2.symm⟩
def an142 : Ann := { flats := zdx132fl, loops := [] }
def x142 : Σ' a, cFn Tryz.prog an142 Tryz.f142 = a := ⟨_, by conv => lhs; reduce⟩
theorem o142 : ∃ F ann, FlOk Tryz.prog ann.flats ∧ fnOk Tryz.prog ann F = true ∧ Tryz.prog.funcs[142 % 10000]? = some F ∧ x142.1 = cFn Tryz.prog ann F := ⟨_, an142, zdx132fl_ok, by kernel_rfl, Tryz.func142, x142.2.symm⟩
def an143 : Ann := { flats := zdx132fl, loops := [] }
def x143 : Σ' a, cFn Tryz.prog an143 Tryz.f143 = a := ⟨_, by conv => lhs; reduce⟩
theorem o143 : ∃ F ann, FlOk Tryz.prog ann.flats ∧ fnOk Tryz.prog ann F = true ∧ Tryz.prog.funcs[143 % 10000]? = some F ∧ x143.1 = cFn Tryz.prog ann F := ⟨_, an143, zdx132fl_ok, by kernel_rfl, Tryz.func143, x143.2.symm⟩
def an144 : Ann := { flats := zdx132fl, loops := [] }
def x144 : Σ' a, cFn Tryz.prog an144 Tryz.f144 = a := ⟨_, by conv => lhs; reduce⟩
theorem o144 : ∃ F ann, FlOk Tryz.prog ann.flats ∧ fnOk Tryz.prog ann F = true ∧ Tryz.prog.funcs[144 % 10000]? = some F ∧ x144.1 = cFn Tryz.prog ann F := ⟨_, an144, zdx132fl_ok, by kernel_rfl, Tryz.func144, x144.2.symm⟩
def an145 : Ann := { flats := zdx132fl, loops := [] }
def x145 : Σ' a, cFn Tryz.prog an145 Tryz.f145 = a := ⟨_, by conv => lhs; reduce⟩
theorem o145 : ∃ F ann, FlOk Tryz.prog ann.flats ∧ fnOk Tryz.prog ann F = true ∧ Tryz.prog.funcs[145 % 10000]? = some F ∧ x145.1 = cFn Tryz.prog ann F := ⟨_, an145, zdx132fl_ok, by kernel_rfl, Tryz.func145, x145.2.symm⟩
def an146 : Ann := { flats := zdx132fl, loops := [] }
def x146 : Σ' a, cFn Tryz.prog an146 Tryz.f146 = a := ⟨_, by conv => lhs; reduce⟩
theorem o146 : ∃ F ann, FlOk Tryz.prog ann.flats ∧ fnOk Tryz.prog ann F = true ∧ Tryz.prog.funcs[146 % 10000]? = some F ∧ x146.1 = cFn Tryz.prog ann F := ⟨_, an146, zdx132fl_ok, by kernel_rfl, Tryz.func146, x146.2.symm⟩
def an147 : Ann := { flats := zdx132fl, loops := [] }
def x147 : Σ' a, cFn Tryz.prog an147 Tryz.f147 = a := ⟨_, by conv => lhs; reduce⟩
theorem o147 : ∃ F ann, FlOk Tryz.prog ann.flats ∧ fnOk Tryz.prog ann F = true ∧ Tryz.prog.funcs[147 % 10000]? = some F ∧ x147.1 = cFn Tryz.prog ann F := ⟨_, an147, zdx132fl_ok, by kernel_rfl, Tryz.func147, x147.2.symm⟩
def an148 : Ann := { flats := zdx132fl, loops := [] }
def x148 : Σ' a, cFn Tryz.prog an148 Tryz.f148 = a := ⟨_, by conv => lhs; reduce⟩
theorem o148 : ∃ F ann, FlOk Tryz.prog ann.flats ∧ fnOk Tryz.prog ann F = true ∧ Tryz.prog.funcs[148 % 10000]? = some F ∧ x148.1 = cFn Tryz.prog ann F := ⟨_, an148, zdx132fl_ok, by kernel_rfl, Tryz.func148, x148.2.symm⟩
def an149 : Ann := { flats := zdx132fl, loops := [([0, 1, 2, 7, 8], [7]), ([0, 1, 2, 7, 8, 9, 10], [0, 1, 2, 7, 8, 9])], befs := [(11, [0, 0, 2, 6, 15, 31, 0, 0, 128, 384, 960, 1984, 0, 0, 8192, 24576, 61440, 126976, 262080, 0, 0, 1048576, 3145728, 7864320, 16252928, 0, 0, 67108864, 201326592, 503316480, 1040187392, 2146959360, 4294967232, 8589934591, 0, 0, 34359738368, 103079215104, 257698037760, 532575944704, 0, 0, 2199023255552, 6597069766656, 16492674416640, 34084860461056, 0, 0, 140737488355328, 422212465065984, 1055531162664960, 2181431069507584, 4502500115742720, 0, 0, 18014398509481984, 54043195528445952, 135107988821114880, 279223176896970752, 0, 0, 1152921504606846976, 3458764513820540928, 8646911284551352320, 17870283321406128128, 36884480948164362240, 73786975195326578688, 147573952572496543744, 295147905179352825855, 0, 0, 1180591620717411303424, 3541774862152233910272, 8854437155380584775680, 18299170121119875203072, 0, 0, 75557863725914323419136, 226673591177742970257408, 566683977944357425643520, 1171146887751672012996608, 0, 0, 4835703278458516698824704, 14507109835375550096474112, 36267774588438875241185280, 74953400816107008831782912, 154704725978809577200680960, 0, 0, 618970019642690137449562112, 1856910058928070412348686336, 4642275147320176030871715840, 9594035304461697130468212736, 0, 0, 39614081257132168796771975168, 118842243771396506390315925504, 297105609428491265975789813760, 614018259485548616349965615104, 1267341115218408056427978424320, 2535301162677526940036244701184, 5070602400322621795628107169792, 10141204801825835211973625643007, 20282409603651670423947251286015])] }
def x149 : Σ' a, cFn Tryz.prog an149 Tryz.f149 = a := ⟨_, by conv => lhs; reduce⟩
theorem o149 : ∃ F ann, FlOk Tryz.prog ann.flats ∧ fnOk Tryz.prog ann F = true ∧ Tryz.prog.funcs[149 % 10000]? = some F ∧ x149.1 = cFn Tryz.prog ann F := ⟨_, an149, zdx132fl_ok, by kernel_rfl, Tryz.func149, x149.2.symm⟩
def an150 : Ann := { flats := zdx132fl, loops := [([0, 3, 4], [0, 3]), ([0, 3, 4, 5], [0, 3, 4]), ([0, 3, 6, 7], [6])], befs := [(9, [0, 0, 0, 6, 3, 31])] }
def x150 : Σ' a, cFn Tryz.prog an150 Tryz.f150 = a := ⟨_, by conv => lhs; reduce⟩
theorem o150 : ∃ F ann, FlOk Tryz.prog ann.flats ∧ fnOk Tryz.prog ann F = true ∧ Tryz.prog.funcs[150 % 10000]? = some F ∧ x150.1 = cFn Tryz.prog ann F := ⟨_, an150, zdx132fl_ok, by kernel_rfl, Tryz.func150, x150.2.symm⟩
def an151 : Ann := { flats := zdx132fl, loops := [([0, 1, 5, 6], [5]), ([0, 1, 5, 6, 7], [0, 1, 5, 6])] }
def x151 : Σ' a, cFn Tryz.prog an151 Tryz.f151 = a := ⟨_, by conv => lhs; reduce⟩
theorem o151 : ∃ F ann, FlOk Tryz.prog ann.flats ∧ fnOk Tryz.prog ann F = true ∧ Tryz.prog.funcs[151 % 10000]? = some F ∧ x151.1 = cFn Tryz.prog ann F := ⟨_, an151, zdx132fl_ok, by kernel_rfl, Tryz.func151, x151.2.symm⟩
def an152 : Ann := { flats := zdx132fl, loops := [] }
def x152 : Σ' a, cFn Tryz.prog an152 Tryz.f152 = a := ⟨_, by conv => lhs; reduce⟩
theorem o152 : ∃ F ann, FlOk Tryz.prog ann.flats ∧ fnOk Tryz.prog ann F = true ∧ Tryz.prog.funcs[152 % 10000]? = some F ∧ x152.1 = cFn Tryz.prog ann F := ⟨_, an152, zdx132fl_ok, by kernel_rfl, Tryz.func152, x152.2.symm⟩
def an153 : Ann := { flats := zdx132fl, loops := [] }
def x153 : Σ' a, cFn Tryz.prog an153 Tryz.f153 = a := ⟨_, by conv => lhs; reduce⟩
theorem o153 : ∃ F ann, FlOk Tryz.prog ann.flats ∧ fnOk Tryz.prog ann F = true ∧ Tryz.prog.funcs[153 % 10000]? = some F ∧ x153.1 = cFn Tryz.prog ann F := ⟨_, an153, zdx132fl_ok, by kernel_rfl, Tryz.func153, x153.2.symm⟩
def an154 : Ann := { flats := zdx132fl, loops := [] }
def x154 : Σ' a, cFn Tryz.prog an154 Tryz.f154 = a := ⟨_, by conv => lhs; reduce⟩
theorem o154 : ∃ F ann, FlOk Tryz.prog ann.flats ∧ fnOk Tryz.prog ann F = true ∧ Tryz.prog.funcs[154 % 10000]? = some F ∧ x154.1 = cFn Tryz.prog ann F := ⟨_, an154, zdx132fl_ok, by kernel_rfl, Tryz.func154, x154.2.symm⟩
def an155 : Ann := { flats := zdx132fl, loops := [] }
def x155 : Σ' a, cFn Tryz.prog an155 Tryz.f155 = a := ⟨_, by conv => lhs; reduce⟩
theorem o155 : ∃ F ann, FlOk Tryz.prog ann.flats ∧ fnOk Tryz.prog ann F = true ∧ Tryz.prog.funcs[155 % 10000]? = some F ∧ x155.1 = cFn Tryz.prog ann F := ⟨_, an155, zdx132fl_ok, by kernel_rfl, Tryz.func155, x155.2.symm⟩
def an156 : Ann := { flats := zdx132fl, loops := [] }
def x156 : Σ' a, cFn Tryz.prog an156 Tryz.f156 = a := ⟨_, by conv => lhs; reduce⟩
theorem o156 : ∃ F ann, FlOk Tryz.prog ann.flats ∧ fnOk Tryz.prog ann F = true ∧ Tryz.prog.funcs[156 % 10000]? = some F ∧ x156.1 = cFn Tryz.prog ann F := ⟨_, an156, zdx132fl_ok, by kernel_rfl, Tryz.func156, x156.2.symm⟩
def an157 : Ann := { flats := zdx132fl, loops := [] }
def x157 : Σ' a, cFn Tryz.prog an157 Tryz.f157 = a := ⟨_, by conv => lhs; reduce⟩
theorem o157 : ∃ F ann, FlOk Tryz.prog ann.flats ∧ fnOk Tryz.prog ann F = true ∧ Tryz.prog.funcs[157 % 10000]? = some F ∧ x157.1 = cFn Tryz.prog ann F := ⟨_, an157, zdx132fl_ok, by kernel_rfl, Tryz.func157, x157.2.symm⟩
end Go.Proofs.YtjlebmnlphjjoaaGreatDoor.Fx
