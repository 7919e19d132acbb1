import Derived.Test.YtjlebmnlphjjoaaProg
import Derived.KernelRfl
import Derived.Test.YtjlebmnlphjjoaaDoAbsD
set_option linter.unusedVariables false
set_option linter.unusedSimpArgs false
/- The functions of the program, laid out by Lean's own reckoning from the program; no condition. -/
open Go Go.Proofs.Ytjlebmnlphjjoaa.Abs
namespace Go.Proofs.Ytjlebmnlphjjoaa.Fx
set_option maxRecDepth 100000
set_option maxHeartbeats 8000000
set_option linter.unusedVariables false
def zzx37fl : List TypeId := [43, 37]
theorem zzx37fl_ok : FlOk Try.prog zzx37fl := by
  intro t ht
  simp only [zzx37fl, List.mem_cons, List.mem_nil_iff, or_false] at ht
  rcases ht with rfl | rfl <;> exact ⟨by kernel_rfl, by kernel_rfl⟩
def an37 : Ann := { flats := zzx37fl, loops := [], befs := [(7, [0, 1, 3, 7, 0, 0, 32, 96, 224, 480, 1008, 2047, 4095, 8191, 16383, 0, 32768, 98304, 229376, 0, 524288, 1572864, 0, 4194304, 12582912, 29360128, 62914560, 133693440, 268402688, 536838144, 1073709056, 2147450880, 4294967295, 0, 8589934592, 34359738367, 0, 0, 137438953472, 412316860416, 962072674304, 2061584302080, 4329327034368, 8727373545472, 17592186044415, 35184372088831])] }
def x37 : Σ' a, cFn Try.prog an37 Try.f37 = a := ⟨_, by conv => lhs; reduce⟩
theorem o37 : ∃ F ann, FlOk Try.prog ann.flats ∧ fnOk Try.prog ann F = true ∧ Try.prog.funcs[37 % 10000]? = some F ∧ x37.1 = cFn Try.prog ann F := ⟨_, an37, zzx37fl_ok, by kernel_rfl, Try.func37, x37.2.symm⟩
def an38 : Ann := { flats := zzx37fl, loops := [([0, 5, 6, 7], [0, 2])], befs := [(4, [0, 1, 3, 7, 15, 15, 63, 15, 255, 511])] }
def x38 : Σ' a, cFn Try.prog an38 Try.f38 = a := ⟨_, by conv => lhs; reduce⟩
theorem o38 : ∃ F ann, FlOk Try.prog ann.flats ∧ fnOk Try.prog ann F = true ∧ Try.prog.funcs[38 % 10000]? = some F ∧ x38.1 = cFn Try.prog ann F := ⟨_, an38, zzx37fl_ok, by kernel_rfl, Try.func38, x38.2.symm⟩
def an39 : Ann := { flats := zzx37fl, loops := [] }
def x39 : Σ' a, cFn Try.prog an39 Try.f39 = a := ⟨_, by conv => lhs; reduce⟩
theorem o39 : ∃ F ann, FlOk Try.prog ann.flats ∧ fnOk Try.prog ann F = true ∧ Try.prog.funcs[39 % 10000]? = some F ∧ x39.1 = cFn Try.prog ann F := ⟨_, an39, zzx37fl_ok, by kernel_rfl, Try.func39, x39.2.symm⟩
def an40 : Ann := { flats := zzx37fl, loops := [] }
def x40 : Σ' a, cFn Try.prog an40 Try.f40 = a := ⟨_, by conv => lhs; reduce⟩
theorem o40 : ∃ F ann, FlOk Try.prog ann.flats ∧ fnOk Try.prog ann F = true ∧ Try.prog.funcs[40 % 10000]? = some F ∧ x40.1 = cFn Try.prog ann F := ⟨_, an40, zzx37fl_ok, by kernel_rfl, Try.func40, x40.2.symm⟩
def an41 : Ann := { flats := zzx37fl, loops := [], befs := [(5, [0, 0, 3, 0, 0, 24, 63, 127])] }
def x41 : Σ' a, cFn Try.prog an41 Try.f41 = a := ⟨_, by conv => lhs; reduce⟩
theorem o41 : ∃ F ann, FlOk Try.prog ann.flats ∧ fnOk Try.prog ann F = true ∧ Try.prog.funcs[41 % 10000]? = some F ∧ x41.1 = cFn Try.prog ann F := ⟨_, an41, zzx37fl_ok, by kernel_rfl, Try.func41, x41.2.symm⟩
def an42 : Ann := { flats := zzx37fl, loops := [] }
def x42 : Σ' a, cFn Try.prog an42 Try.f42 = a := ⟨_, by conv => lhs; reduce⟩
theorem o42 : ∃ F ann, FlOk Try.prog ann.flats ∧ fnOk Try.prog ann F = true ∧ Try.prog.funcs[42 % 10000]? = some F ∧ x42.1 = cFn Try.prog ann F := ⟨_, an42, zzx37fl_ok, by kernel_rfl, Try.func42, x42.2.symm⟩
def an43 : Ann := { flats := zzx37fl, loops := [] }
def x43 : Σ' a, cFn Try.prog an43 Try.f43 = a := ⟨_, by conv => lhs; reduce⟩
theorem o43 : ∃ F ann, FlOk Try.prog ann.flats ∧ fnOk Try.prog ann F = true ∧ Try.prog.funcs[43 % 10000]? = some F ∧ x43.1 = cFn Try.prog ann F := ⟨_, an43, zzx37fl_ok, by kernel_rfl, Try.func43, x43.2.symm⟩
def an44 : Ann := { flats := zzx37fl, loops := [], befs := [(5, [0, 0, 2, 6, 15, 0, 63, 0, 128, 398, 1023, 2047])] }
def x44 : Σ' a, cFn Try.prog an44 Try.f44 = a := ⟨_, by conv => lhs; reduce⟩
theorem o44 : ∃ F ann, FlOk Try.prog ann.flats ∧ fnOk Try.prog ann F = true ∧ Try.prog.funcs[44 % 10000]? = some F ∧ x44.1 = cFn Try.prog ann F := ⟨_, an44, zzx37fl_ok, by kernel_rfl, Try.func44, x44.2.symm⟩
def an45 : Ann := { flats := zzx37fl, loops := [] }
def x45 : Σ' a, cFn Try.prog an45 Try.f45 = a := ⟨_, by conv => lhs; reduce⟩
theorem o45 : ∃ F ann, FlOk Try.prog ann.flats ∧ fnOk Try.prog ann F = true ∧ Try.prog.funcs[45 % 10000]? = some F ∧ x45.1 = cFn Try.prog ann F := ⟨_, an45, zzx37fl_ok, by kernel_rfl, Try.func45, x45.2.symm⟩
def an46 : Ann := { flats := zzx37fl, loops := [], befs := [(2, [0, 1, 3, 7, 15, 0, 32, 96, 255, 0, 512, 1536, 3584, 7680, 16383, 0, 32768, 98528, 262143, 524287])] }
def x46 : Σ' a, cFn Try.prog an46 Try.f46 = a := ⟨_, by conv => lhs; reduce⟩
theorem o46 : ∃ F ann, FlOk Try.prog ann.flats ∧ fnOk Try.prog ann F = true ∧ Try.prog.funcs[46 % 10000]? = some F ∧ x46.1 = cFn Try.prog ann F := ⟨_, an46, zzx37fl_ok, by kernel_rfl, Try.func46, x46.2.symm⟩
def an47 : Ann := { flats := zzx37fl, loops := [] }
def x47 : Σ' a, cFn Try.prog an47 Try.f47 = a := ⟨_, by conv => lhs; reduce⟩
theorem o47 : ∃ F ann, FlOk Try.prog ann.flats ∧ fnOk Try.prog ann F = true ∧ Try.prog.funcs[47 % 10000]? = some F ∧ x47.1 = cFn Try.prog ann F := ⟨_, an47, zzx37fl_ok, by kernel_rfl, Try.func47, x47.2.symm⟩
def an48 : Ann := { flats := zzx37fl, loops := [] }
def x48 : Σ' a, cFn Try.prog an48 Try.f48 = a := ⟨_, by conv => lhs; reduce⟩
theorem o48 : ∃ F ann, FlOk Try.prog ann.flats ∧ fnOk Try.prog ann F = true ∧ Try.prog.funcs[48 % 10000]? = some F ∧ x48.1 = cFn Try.prog ann F := ⟨_, an48, zzx37fl_ok, by kernel_rfl, Try.func48, x48.2.symm⟩
def an49 : Ann := { flats := zzx37fl, loops := [([0, 4, 11, 12, 13], [0, 4]), ([0, 4, 11, 12, 13, 17, 18, 19], [0, 4, 11, 12, 13])], lay := [(33, (4, 5000004))] }
def x49 : Σ' a, cFn Try.prog an49 Try.f49 = a := ⟨_, by conv => lhs; reduce⟩
theorem o49 : ∃ F ann, FlOk Try.prog ann.flats ∧ fnOk Try.prog ann F = true ∧ Try.prog.funcs[49 % 10000]? = some F ∧ x49.1 = cFn Try.prog ann F := ⟨_, an49, zzx37fl_ok, by kernel_rfl, Try.func49, x49.2.symm⟩
def an50 : Ann := { flats := zzx37fl, loops := [] }
def x50 : Σ' a, cFn Try.prog an50 Try.f50 = a := ⟨_, by conv => lhs; reduce⟩
theorem o50 : ∃ F ann, FlOk Try.prog ann.flats ∧ fnOk Try.prog ann F = true ∧ Try.prog.funcs[50 % 10000]? = some F ∧ x50.1 = cFn Try.prog ann F := ⟨_, an50, zzx37fl_ok, by kernel_rfl, Try.func50, x50.2.symm⟩
def an51 : Ann := { flats := zzx37fl, loops := [] }
def x51 : Σ' a, cFn Try.prog an51 Try.f51 = a := ⟨_, by conv => lhs; reduce⟩
theorem o51 : ∃ F ann, FlOk Try.prog ann.flats ∧ fnOk Try.prog ann F = true ∧ Try.prog.funcs[51 % 10000]? = some F ∧ x51.1 = cFn Try.prog ann F := ⟨_, an51, zzx37fl_ok, by kernel_rfl, Try.func51, x51.2.symm⟩
def an52 : Ann := { flats := zzx37fl, loops := [([0, 1, 7, 8], [4])] }
def x52 : Σ' a, cFn Try.prog an52 Try.f52 = a := ⟨_, by conv => lhs; reduce⟩
theorem o52 : ∃ F ann, FlOk Try.prog ann.flats ∧ fnOk Try.prog ann F = true ∧ Try.prog.funcs[52 % 10000]? = some F ∧ x52.1 = cFn Try.prog ann F := ⟨_, an52, zzx37fl_ok, by kernel_rfl, Try.func52, x52.2.symm⟩
end Go.Proofs.Ytjlebmnlphjjoaa.Fx
