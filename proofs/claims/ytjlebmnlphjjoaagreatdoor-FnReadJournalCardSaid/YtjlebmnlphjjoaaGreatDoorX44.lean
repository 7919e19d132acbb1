import Derived.Test.YtjlebmnlphjjoaaGreatDoorProg
import Derived.KernelRfl
import Derived.Test.YtjlebmnlphjjoaaGreatDoorAbsD
set_option linter.unusedVariables false
set_option linter.unusedSimpArgs false
/- The functions of the program, laid out by Lean's own reckoning from the program; no condition. -/
open Go Go.Proofs.YtjlebmnlphjjoaaGreatDoor.Abs
namespace Go.Proofs.YtjlebmnlphjjoaaGreatDoor.Fx
set_option maxRecDepth 100000
set_option maxHeartbeats 8000000
set_option linter.unusedVariables false
def zdx44fl : List TypeId := [90, 39]
theorem zdx44fl_ok : FlOk Tryz.prog zdx44fl := by
  intro t ht
  simp only [zdx44fl, List.mem_cons, List.mem_nil_iff, or_false] at ht
  rcases ht with rfl | rfl <;> exact ⟨by kernel_rfl, by kernel_rfl⟩
def an44 : Ann := { flats := zdx44fl, loops := [] }
def x44 : Σ' a, cFn Tryz.prog an44 Tryz.f44 = a := ⟨_, by conv => lhs; reduce⟩
theorem o44 : ∃ F ann, FlOk Tryz.prog ann.flats ∧ fnOk Tryz.prog ann F = true ∧ Tryz.prog.funcs[44 % 10000]? = some F ∧ x44.1 = cFn Tryz.prog ann F := ⟨_, an44, zdx44fl_ok, by kernel_rfl, Tryz.func44, x44.2.symm⟩
def an45 : Ann := { flats := zdx44fl, loops := [([0, 2, 4, 5], [0, 2, 4]), ([0, 2, 4, 6], [2, 3])], mu := [8] }
def x45 : Σ' a, cFn Tryz.prog an45 Tryz.f45 = a := ⟨_, by conv => lhs; reduce⟩
theorem o45 : ∃ F ann, FlOk Tryz.prog ann.flats ∧ fnOk Tryz.prog ann F = true ∧ Tryz.prog.funcs[45 % 10000]? = some F ∧ x45.1 = cFn Tryz.prog ann F := ⟨_, an45, zdx44fl_ok, by kernel_rfl, Tryz.func45, x45.2.symm⟩
def an46 : Ann := { flats := zdx44fl, loops := [([0, 1, 4, 5, 6], [0, 1, 4, 5])], befs := [(5, [0, 0, 0, 6, 15, 31, 63, 63, 0, 383, 1023])], var := [(22, 1)] }
def x46 : Σ' a, cFn Tryz.prog an46 Tryz.f46 = a := ⟨_, by conv => lhs; reduce⟩
theorem o46 : ∃ F ann, FlOk Tryz.prog ann.flats ∧ fnOk Tryz.prog ann F = true ∧ Tryz.prog.funcs[46 % 10000]? = some F ∧ x46.1 = cFn Tryz.prog ann F := ⟨_, an46, zdx44fl_ok, by kernel_rfl, Tryz.func46, x46.2.symm⟩
def an47 : Ann := { flats := zdx44fl, loops := [] }
def x47 : Σ' a, cFn Tryz.prog an47 Tryz.f47 = a := ⟨_, by conv => lhs; reduce⟩
theorem o47 : ∃ F ann, FlOk Tryz.prog ann.flats ∧ fnOk Tryz.prog ann F = true ∧ Tryz.prog.funcs[47 % 10000]? = some F ∧ x47.1 = cFn Tryz.prog ann F := ⟨_, an47, zdx44fl_ok, by kernel_rfl, Tryz.func47, x47.2.symm⟩
def an48 : Ann := { flats := zdx44fl, loops := [([0, 5, 6, 7], [5])] }
def x48 : Σ' a, cFn Tryz.prog an48 Tryz.f48 = a := ⟨_, by conv => lhs; reduce⟩
theorem o48 : ∃ F ann, FlOk Tryz.prog ann.flats ∧ fnOk Tryz.prog ann F = true ∧ Tryz.prog.funcs[48 % 10000]? = some F ∧ x48.1 = cFn Tryz.prog ann F := ⟨_, an48, zdx44fl_ok, by kernel_rfl, Tryz.func48, x48.2.symm⟩
def an49 : Ann := { flats := zdx44fl, loops := [([0, 3], [0, 2]), ([0, 3, 4], [0, 2, 3])], befs := [(9, [0, 0, 3, 7, 0, 0, 48, 112, 255])] }
def x49 : Σ' a, cFn Tryz.prog an49 Tryz.f49 = a := ⟨_, by conv => lhs; reduce⟩
theorem o49 : ∃ F ann, FlOk Tryz.prog ann.flats ∧ fnOk Tryz.prog ann F = true ∧ Tryz.prog.funcs[49 % 10000]? = some F ∧ x49.1 = cFn Tryz.prog ann F := ⟨_, an49, zdx44fl_ok, by kernel_rfl, Tryz.func49, x49.2.symm⟩
def an50 : Ann := { flats := zdx44fl, loops := [] }
def x50 : Σ' a, cFn Tryz.prog an50 Tryz.f50 = a := ⟨_, by conv => lhs; reduce⟩
theorem o50 : ∃ F ann, FlOk Tryz.prog ann.flats ∧ fnOk Tryz.prog ann F = true ∧ Tryz.prog.funcs[50 % 10000]? = some F ∧ x50.1 = cFn Tryz.prog ann F := ⟨_, an50, zdx44fl_ok, by kernel_rfl, Tryz.func50, x50.2.symm⟩
def an51 : Ann := { flats := zdx44fl, loops := [], befs := [(7, [0, 1, 0, 0, 15, 31, 63])] }
def x51 : Σ' a, cFn Tryz.prog an51 Tryz.f51 = a := ⟨_, by conv => lhs; reduce⟩
theorem o51 : ∃ F ann, FlOk Tryz.prog ann.flats ∧ fnOk Tryz.prog ann F = true ∧ Tryz.prog.funcs[51 % 10000]? = some F ∧ x51.1 = cFn Tryz.prog ann F := ⟨_, an51, zdx44fl_ok, by kernel_rfl, Tryz.func51, x51.2.symm⟩
def an52 : Ann := { flats := zdx44fl, loops := [] }
def x52 : Σ' a, cFn Tryz.prog an52 Tryz.f52 = a := ⟨_, by conv => lhs; reduce⟩
theorem o52 : ∃ F ann, FlOk Tryz.prog ann.flats ∧ fnOk Tryz.prog ann F = true ∧ Tryz.prog.funcs[52 % 10000]? = some F ∧ x52.1 = cFn Tryz.prog ann F := ⟨_, an52, zdx44fl_ok, by kernel_rfl, Tryz.func52, x52.2.symm⟩
def an53 : Ann := { flats := zdx44fl, loops := [([2, 3, 12, 13, 14], [2, 3])], befs := [(5, [0, 1, 0, 0, 12, 28, 63, 127, 255])], keep := true }
def x53 : Σ' a, cFn Tryz.prog an53 Tryz.f53 = a := ⟨_, by conv => lhs; reduce⟩
theorem o53 : ∃ F ann, FlOk Tryz.prog ann.flats ∧ fnOk Tryz.prog ann F = true ∧ Tryz.prog.funcs[53 % 10000]? = some F ∧ x53.1 = cFn Tryz.prog ann F := ⟨_, an53, zdx44fl_ok, by kernel_rfl, Tryz.func53, x53.2.symm⟩
def an10053 : Ann := { flats := zdx44fl, loops := [([2, 3, 12, 13, 14], [2, 3])], befs := [(5, [0, 1, 0, 0, 12, 28, 63, 127, 255])] }
def x10053 : Σ' a, cFn Tryz.prog an10053 Tryz.f53 = a := ⟨_, by conv => lhs; reduce⟩
theorem o10053 : ∃ F ann, FlOk Tryz.prog ann.flats ∧ fnOk Tryz.prog ann F = true ∧ Tryz.prog.funcs[10053 % 10000]? = some F ∧ x10053.1 = cFn Tryz.prog ann F := ⟨_, an10053, zdx44fl_ok, by kernel_rfl, Tryz.func53, x10053.2.symm⟩
def an54 : Ann := { flats := zdx44fl, loops := [], befs := [(13, [0, 1, 0, 7, 15, 0, 32, 0, 224, 511, 1023, 2047, 4095])] }
def x54 : Σ' a, cFn Tryz.prog an54 Tryz.f54 = a := ⟨_, by conv => lhs; reduce⟩
theorem o54 : ∃ F ann, FlOk Tryz.prog ann.flats ∧ fnOk Tryz.prog ann F = true ∧ Tryz.prog.funcs[54 % 10000]? = some F ∧ x54.1 = cFn Tryz.prog ann F := ⟨_, an54, zdx44fl_ok, by kernel_rfl, Tryz.func54, x54.2.symm⟩
def an55 : Ann := { flats := zdx44fl, loops := [([0, 1, 5], [4])], befs := [(6, [0, 0, 3, 7, 0, 0, 48, 112, 255])] }
def x55 : Σ' a, cFn Tryz.prog an55 Tryz.f55 = a := ⟨_, by conv => lhs; reduce⟩
theorem o55 : ∃ F ann, FlOk Tryz.prog ann.flats ∧ fnOk Tryz.prog ann F = true ∧ Tryz.prog.funcs[55 % 10000]? = some F ∧ x55.1 = cFn Tryz.prog ann F := ⟨_, an55, zdx44fl_ok, by kernel_rfl, Tryz.func55, x55.2.symm⟩
def an56 : Ann := { flats := zdx44fl, loops := [] }
def x56 : Σ' a, cFn Tryz.prog an56 Tryz.f56 = a := ⟨_, by conv => lhs; reduce⟩
theorem o56 : ∃ F ann, FlOk Tryz.prog ann.flats ∧ fnOk Tryz.prog ann F = true ∧ Tryz.prog.funcs[56 % 10000]? = some F ∧ x56.1 = cFn Tryz.prog ann F := ⟨_, an56, zdx44fl_ok, by kernel_rfl, Tryz.func56, x56.2.symm⟩
def an59 : Ann := { flats := zdx44fl, loops := [([1, 2, 3, 4], [2, 3])], befs := [(5, [0, 1, 0, 0, 8, 0, 56, 120, 252, 508, 1023, 2047, 4095])] }
def x59 : Σ' a, cFn Tryz.prog an59 Tryz.f59 = a := ⟨_, by conv => lhs; reduce⟩
theorem o59 : ∃ F ann, FlOk Tryz.prog ann.flats ∧ fnOk Tryz.prog ann F = true ∧ Tryz.prog.funcs[59 % 10000]? = some F ∧ x59.1 = cFn Tryz.prog ann F := ⟨_, an59, zdx44fl_ok, by kernel_rfl, Tryz.func59, x59.2.symm⟩
def an10059 : Ann := { flats := zdx44fl, loops := [([1, 2, 3, 4], [2, 3])], befs := [(5, [0, 1, 0, 0, 8, 0, 56, 120, 252, 508, 1023, 2047, 4095])], keep := true }
def x10059 : Σ' a, cFn Tryz.prog an10059 Tryz.f59 = a := ⟨_, by conv => lhs; reduce⟩
theorem o10059 : ∃ F ann, FlOk Tryz.prog ann.flats ∧ fnOk Tryz.prog ann F = true ∧ Tryz.prog.funcs[10059 % 10000]? = some F ∧ x10059.1 = cFn Tryz.prog ann F := ⟨_, an10059, zdx44fl_ok, by kernel_rfl, Tryz.func59, x10059.2.symm⟩
def an20059 : Ann := { flats := zdx44fl, loops := [([1, 2, 3, 4], [2, 3])], befs := [(5, [0, 1, 0, 0, 8, 0, 56, 120, 252, 508, 1023, 2047, 4095])], mu := [26], keep := true }
def x20059 : Σ' a, cFn Tryz.prog an20059 Tryz.f59 = a := ⟨_, by conv => lhs; reduce⟩
theorem o20059 : ∃ F ann, FlOk Tryz.prog ann.flats ∧ fnOk Tryz.prog ann F = true ∧ Tryz.prog.funcs[20059 % 10000]? = some F ∧ x20059.1 = cFn Tryz.prog ann F := ⟨_, an20059, zdx44fl_ok, by kernel_rfl, Tryz.func59, x20059.2.symm⟩
def an60 : Ann := { flats := zdx44fl, loops := [], befs := [(17, [0, 0, 2, 0, 8, 30, 63, 0, 128, 0, 512, 1536, 3968, 8191, 16383])], var := [(16, 1)] }
def x60 : Σ' a, cFn Tryz.prog an60 Tryz.f60 = a := ⟨_, by conv => lhs; reduce⟩
theorem o60 : ∃ F ann, FlOk Tryz.prog ann.flats ∧ fnOk Tryz.prog ann F = true ∧ Tryz.prog.funcs[60 % 10000]? = some F ∧ x60.1 = cFn Tryz.prog ann F := ⟨_, an60, zdx44fl_ok, by kernel_rfl, Tryz.func60, x60.2.symm⟩
def an10060 : Ann := { flats := zdx44fl, loops := [], befs := [(17, [0, 0, 2, 0, 8, 30, 63, 0, 128, 0, 512, 1536, 3968, 8191, 16383])], mu := [109], var := [(16, 2)], keep := true }
def x10060 : Σ' a, cFn Tryz.prog an10060 Tryz.f60 = a := ⟨_, by conv => lhs; reduce⟩
theorem o10060 : ∃ F ann, FlOk Tryz.prog ann.flats ∧ fnOk Tryz.prog ann F = true ∧ Tryz.prog.funcs[10060 % 10000]? = some F ∧ x10060.1 = cFn Tryz.prog ann F := ⟨_, an10060, zdx44fl_ok, by kernel_rfl, Tryz.func60, x10060.2.symm⟩
def an61 : Ann := { flats := zdx44fl, loops := [], befs := [(3, [0, 1, 3, 0, 8, 24, 56, 120, 248, 511, 1023])] }
def x61 : Σ' a, cFn Tryz.prog an61 Tryz.f61 = a := ⟨_, by conv => lhs; reduce⟩
theorem o61 : ∃ F ann, FlOk Tryz.prog ann.flats ∧ fnOk Tryz.prog ann F = true ∧ Tryz.prog.funcs[61 % 10000]? = some F ∧ x61.1 = cFn Tryz.prog ann F := ⟨_, an61, zdx44fl_ok, by kernel_rfl, Tryz.func61, x61.2.symm⟩
def an62 : Ann := { flats := zdx44fl, loops := [([0, 4], [0, 2, 3]), ([0, 5, 6, 7], [0, 5]), ([0, 5, 6, 7, 8], [0, 5, 6, 7]), ([0, 5, 9], [2, 3, 5])], befs := [(16, [0, 0, 0, 0, 12, 28, 0, 0, 192, 448, 0, 1984, 4032, 8188, 16383, 32767])] }
def x62 : Σ' a, cFn Tryz.prog an62 Tryz.f62 = a := ⟨_, by conv => lhs; reduce⟩
theorem o62 : ∃ F ann, FlOk Tryz.prog ann.flats ∧ fnOk Tryz.prog ann F = true ∧ Tryz.prog.funcs[62 % 10000]? = some F ∧ x62.1 = cFn Tryz.prog ann F := ⟨_, an62, zdx44fl_ok, by kernel_rfl, Tryz.func62, x62.2.symm⟩
def an63 : Ann := { flats := zdx44fl, loops := [], befs := [(5, [0, 0, 2, 6, 15, 0, 63, 0, 128, 398, 1023, 2047])] }
def x63 : Σ' a, cFn Tryz.prog an63 Tryz.f63 = a := ⟨_, by conv => lhs; reduce⟩
theorem o63 : ∃ F ann, FlOk Tryz.prog ann.flats ∧ fnOk Tryz.prog ann F = true ∧ Tryz.prog.funcs[63 % 10000]? = some F ∧ x63.1 = cFn Tryz.prog ann F := ⟨_, an63, zdx44fl_ok, by kernel_rfl, Tryz.func63, x63.2.symm⟩
def an64 : Ann := { flats := zdx44fl, loops := [([0, 2, 4], [2, 3]), ([0, 2, 4, 5], [0, 2, 3, 4]), ([0, 2, 4, 5, 6], [0, 2, 3, 4, 5])] }
def x64 : Σ' a, cFn Tryz.prog an64 Tryz.f64 = a := ⟨_, by conv => lhs; reduce⟩
theorem o64 : ∃ F ann, FlOk Tryz.prog ann.flats ∧ fnOk Tryz.prog ann F = true ∧ Tryz.prog.funcs[64 % 10000]? = some F ∧ x64.1 = cFn Tryz.prog ann F := ⟨_, an64, zdx44fl_ok, by kernel_rfl, Tryz.func64, x64.2.symm⟩
def an65 : Ann := { flats := zdx44fl, loops := [([0, 3, 5], [0, 3, 4])], befs := [(8, [0, 0, 3, 0, 15, 31, 63, 127, 255, 511, 511, 1023, 4095])] }
def x65 : Σ' a, cFn Tryz.prog an65 Tryz.f65 = a := ⟨_, by conv => lhs; reduce⟩
theorem o65 : ∃ F ann, FlOk Tryz.prog ann.flats ∧ fnOk Tryz.prog ann F = true ∧ Tryz.prog.funcs[65 % 10000]? = some F ∧ x65.1 = cFn Tryz.prog ann F := ⟨_, an65, zdx44fl_ok, by kernel_rfl, Tryz.func65, x65.2.symm⟩
def an66 : Ann := { flats := zdx44fl, loops := [], befs := [(6, [0, 1, 3, 0, 8, 0, 32, 96, 255, 511])] }
def x66 : Σ' a, cFn Tryz.prog an66 Tryz.f66 = a := ⟨_, by conv => lhs; reduce⟩
theorem o66 : ∃ F ann, FlOk Tryz.prog ann.flats ∧ fnOk Tryz.prog ann F = true ∧ Tryz.prog.funcs[66 % 10000]? = some F ∧ x66.1 = cFn Tryz.prog ann F := ⟨_, an66, zdx44fl_ok, by kernel_rfl, Tryz.func66, x66.2.symm⟩
def an67 : Ann := { flats := zdx44fl, loops := [] }
def x67 : Σ' a, cFn Tryz.prog an67 Tryz.f67 = a := ⟨_, by conv => lhs; reduce⟩
theorem o67 : ∃ F ann, FlOk Tryz.prog ann.flats ∧ fnOk Tryz.prog ann F = true ∧ Tryz.prog.funcs[67 % 10000]? = some F ∧ x67.1 = cFn Tryz.prog ann F := ⟨_, an67, zdx44fl_ok, by kernel_rfl, Tryz.func67, x67.2.symm⟩
def an68 : Ann := { flats := zdx44fl, loops := [([4, 6, 7], [6])] }
def x68 : Σ' a, cFn Tryz.prog an68 Tryz.f68 = a := ⟨_, by conv => lhs; reduce⟩
theorem o68 : ∃ F ann, FlOk Tryz.prog ann.flats ∧ fnOk Tryz.prog ann F = true ∧ Tryz.prog.funcs[68 % 10000]? = some F ∧ x68.1 = cFn Tryz.prog ann F := ⟨_, an68, zdx44fl_ok, by kernel_rfl, Tryz.func68, x68.2.symm⟩
def an77 : Ann := { flats := zdx44fl, loops := [] }
def x77 : Σ' a, cFn Tryz.prog an77 Tryz.f77 = a := ⟨_, by conv => lhs; reduce⟩
theorem o77 : ∃ F ann, FlOk Tryz.prog ann.flats ∧ fnOk Tryz.prog ann F = true ∧ Tryz.prog.funcs[77 % 10000]? = some F ∧ x77.1 = cFn Tryz.prog ann F := ⟨_, an77, zdx44fl_ok, by kernel_rfl, Tryz.func77, x77.2.symm⟩
def an79 : Ann := { flats := zdx44fl, loops := [] }
def x79 : Σ' a, cFn Tryz.prog an79 Tryz.f79 = a := ⟨_, by conv => lhs; reduce⟩
theorem o79 : ∃ F ann, FlOk Tryz.prog ann.flats ∧ fnOk Tryz.prog ann F = true ∧ Tryz.prog.funcs[79 % 10000]? = some F ∧ x79.1 = cFn Tryz.prog ann F := ⟨_, an79, zdx44fl_ok, by kernel_rfl, Tryz.func79, x79.2.symm⟩
def an80 : Ann := { flats := zdx44fl, loops := [], befs := [(3, [0, 0, 3, 0, 0, 0, 32, 112, 248, 7, 1023, 2047])] }
def x80 : Σ' a, cFn Tryz.prog an80 Tryz.f80 = a := ⟨_, by conv => lhs; reduce⟩
theorem o80 : ∃ F ann, FlOk Tryz.prog ann.flats ∧ fnOk Tryz.prog ann F = true ∧ Tryz.prog.funcs[80 % 10000]? = some F ∧ x80.1 = cFn Tryz.prog ann F := ⟨_, an80, zdx44fl_ok, by kernel_rfl, Tryz.func80, x80.2.symm⟩
def an81 : Ann := { flats := zdx44fl, loops := [], keep := true }
def x81 : Σ' a, cFn Tryz.prog an81 Tryz.f81 = a := ⟨_, by conv => lhs; reduce⟩
theorem o81 : ∃ F ann, FlOk Tryz.prog ann.flats ∧ fnOk Tryz.prog ann F = true ∧ Tryz.prog.funcs[81 % 10000]? = some F ∧ x81.1 = cFn Tryz.prog ann F := ⟨_, an81, zdx44fl_ok, by kernel_rfl, Tryz.func81, x81.2.symm⟩
def an82 : Ann := { flats := zdx44fl, loops := [], befs := [(1, [0, 0, 2, 7, 15, 0, 38, 102, 230, 511, 1023, 0, 4095]), (8, [0, 1, 0, 4, 15, 31, 63, 127])] }
def x82 : Σ' a, cFn Tryz.prog an82 Tryz.f82 = a := ⟨_, by conv => lhs; reduce⟩
theorem o82 : ∃ F ann, FlOk Tryz.prog ann.flats ∧ fnOk Tryz.prog ann F = true ∧ Tryz.prog.funcs[82 % 10000]? = some F ∧ x82.1 = cFn Tryz.prog ann F := ⟨_, an82, zdx44fl_ok, by kernel_rfl, Tryz.func82, x82.2.symm⟩
def an83 : Ann := { flats := zdx44fl, loops := [] }
def x83 : Σ' a, cFn Tryz.prog an83 Tryz.f83 = a := ⟨_, by conv => lhs; reduce⟩
theorem o83 : ∃ F ann, FlOk Tryz.prog ann.flats ∧ fnOk Tryz.prog ann F = true ∧ Tryz.prog.funcs[83 % 10000]? = some F ∧ x83.1 = cFn Tryz.prog ann F := ⟨_, an83, zdx44fl_ok, by kernel_rfl, Tryz.func83, x83.2.symm⟩
def an84 : Ann := { flats := zdx44fl, loops := [([0, 5, 6, 7], [0, 2])], befs := [(4, [0, 1, 3, 7, 15, 15, 63, 15, 255, 511])] }
def x84 : Σ' a, cFn Tryz.prog an84 Tryz.f84 = a := ⟨_, by conv => lhs; reduce⟩
theorem o84 : ∃ F ann, FlOk Tryz.prog ann.flats ∧ fnOk Tryz.prog ann F = true ∧ Tryz.prog.funcs[84 % 10000]? = some F ∧ x84.1 = cFn Tryz.prog ann F := ⟨_, an84, zdx44fl_ok, by kernel_rfl, Tryz.func84, x84.2.symm⟩
def an85 : Ann := { flats := zdx44fl, loops := [] }
def x85 : Σ' a, cFn Tryz.prog an85 Tryz.f85 = a := ⟨_, by conv => lhs; reduce⟩
theorem o85 : ∃ F ann, FlOk Tryz.prog ann.flats ∧ fnOk Tryz.prog ann F = true ∧ Tryz.prog.funcs[85 % 10000]? = some F ∧ x85.1 = cFn Tryz.prog ann F := ⟨_, an85, zdx44fl_ok, by kernel_rfl, Tryz.func85, x85.2.symm⟩
def an86 : Ann := { flats := zdx44fl, loops := [] }
def x86 : Σ' a, cFn Tryz.prog an86 Tryz.f86 = a := ⟨_, by conv => lhs; reduce⟩
theorem o86 : ∃ F ann, FlOk Tryz.prog ann.flats ∧ fnOk Tryz.prog ann F = true ∧ Tryz.prog.funcs[86 % 10000]? = some F ∧ x86.1 = cFn Tryz.prog ann F := ⟨_, an86, zdx44fl_ok, by kernel_rfl, Tryz.func86, x86.2.symm⟩
end Go.Proofs.YtjlebmnlphjjoaaGreatDoor.Fx
