import Derived.Test.YtjlebmnlphjjoaaRows
import Derived.Test.YtjlebmnlphjjoaaDoUb
import Derived.Test.YtjlebmnlphjjoaaDoZs
import Derived.WalkKit
import Derived.ProofKit
import Derived.OpenShut
import Derived.ShutString
import Derived.ChangeOld
import Derived.Below
import Derived.SizedLaws
set_option linter.unusedVariables false
set_option linter.unusedSimpArgs false
/- The law FnDeskDo: for every input the call returns true and the input reads as it did; no condition. -/
namespace Go.Proofs.Ytjlebmnlphjjoaa
open Go.ChangeShapes Go.WideShapes Go.ChangeAt Go.RowKit
open Go.ChangeMaps (open_string shut_string)
open Go.Proofs.Ytjlebmnlphjjoaa.Abs
set_option linter.unusedVariables false
theorem ownFnDeskDo : ownKnob Try.prog.godebug = none := by kernel_rfl
theorem laidFnDeskDo : laidOutB Try.prog = true := by kernel_rfl
theorem spotFnDeskDo {P : Program} {w : World} {r : Reach} {base : Nat} {t e : TypeId} {a : Option Addr} {l c : Nat} (ht : P.underlying t = some (.slice e)) (h : Value.okWide P w r base t (.slice a l c)) : ∀ x, a = some x → x.spot = none := by
  intro x hx
  subst hx
  simp only [Value.okWide, ht, Cell.okWide, Cell.ok, World.has] at h
  exact h.2.2.2.1
set_option maxRecDepth 100000 in
theorem liftedFnDeskDo (os : Os) (started : os.Started) (H : Type) (enc : TypeId × Value → H) :
    ReturnsInHanded {} Try.checked os 4 .any (Rows.fnDeskDoSpec.pre6 enc Try.prog Try.f4 Rows.fnDeskDoRow.domain false) (Rows.fnDeskDoSpec.post enc Try.prog Try.f4 false true false false) := by
  refine returnsInHanded_of_change_sized (C := Try.checked) ownFnDeskDo started (by kernel_rfl) Try.func4
    (ChangeSpec.witness6 (enc := enc) (C := Try.checked) false ⟨#[], #[.slice none 0 0], []⟩ 8 (by kernel_rfl) (by kernel_rfl) (by kernel_rfl) (by kernel_rfl)) ?_
  intro W base args ds gs before hval0 hW hcnd hsz0 _
  have hval : ∀ (j : Nat) t v, Try.f4.params[j]? = some t → args[j]? = some v → Value.okWide Try.prog W .any base t v := hval0
  have hW' := hW
  obtain ⟨p, q, hA0, hV, rfl, hfz, hnd⟩ := hW
  have hA : DataW.TrodAll enc Try.prog W 0 (fun _ => true) true Try.f4.params.toList args.toList ds p := hA0
  rw [Try.params4] at hA hval
  obtain ⟨v0, vs0, d0, ds0, p0, q0, hargs, rfl, rfl, h0, r0⟩ := trodAll_cons hA
  obtain ⟨rfl, rfl, rfl⟩ := trodAll_nil r0
  obtain rfl : args = #[v0] := by cases args; simp_all
  obtain ⟨rfl, rfl⟩ := trodVars_none hV
  obtain ⟨a0, len0, cap0, rfl⟩ := okWide_slice Try.underlying22 (hval 0 22 v0 rfl rfl)
  have hspot := spotFnDeskDo Try.underlying22 (hval 0 22 _ rfl rfl)
  have k0 := h0
  have lt0 : ∀ x ∈ p0, x.block < W.heap.size := by obtain ⟨m, hm⟩ := k0; exact DataW.trod_lt m _ _ _ hm
  obtain ⟨b, hb, hrep⟩ : ∃ b : List Int, (∀ x ∈ b, 0 ≤ x ∧ x ≤ 255) ∧ RepP (allFz W) (.slice a0 len0 cap0) (.ls 1 (b.map Fx.u8)) := by
    obtain ⟨fuel, hf⟩ := h0
    rcases open_ints Try.underlying22 Try.underlying5 (by kernel_rfl) hf with ⟨hcs, _⟩ | ⟨x, l, c, zs, hcs, _, hl, hm, hz, _, hcell, hwz⟩
    · simp [Value.cells] at hcs
      obtain ⟨rfl, rfl, rfl⟩ := hcs
      exact ⟨[], by simp, .lsn 1⟩
    · simp [Value.cells] at hcs
      obtain ⟨rfl, rfl, rfl⟩ := hcs
      refine ⟨zs.take len0, fun x hx => ?_, ?_⟩
      · have := hwz x (List.mem_of_mem_take hx)
        simp [Lit.wf, IntKind.min, IntKind.max, IntKind.signed, IntKind.bits] at this
        omega
      · exact rep_ints (k := .u8) hspot (.inr ⟨x, rfl, hl, by simp at hz; omega, hcell⟩)
  clear hA0 hval0 hsz0
  have top := top_true (P := Try.prog) (W := W) (vs := [.slice a0 len0 cap0]) (ps := [.ls 1 (b.map Fx.u8)]) (Fx.E_ok Fx.ext_ok) (.cons _ _ _ _ hrep .nil) (Fx.law4 b hb) rfl
  refine top.mono fun e W' ⟨he, bel⟩ => ?_
  subst he
  exact ⟨_, rfl, _, _, _, [], _, [], hW', trodAll_mk1 (shut_bool Try.underlying4 _), (trodAll_cons_mk (Below.trod laidFnDeskDo (by kernel_rfl) (of_decide_eq_true (by kernel_rfl)) k0 bel lt0) trodAll_mk0), rfl, bel.frame _, fun h => by cases h⟩
theorem overFnDeskDo : Rows.fnDeskDoRow.holds Try.pinned (OpenSpec.ofChange Rows.fnDeskDoSpec) :=
  OpenClaim.holds_of_wide 4 Try.f4 rfl rfl rfl rfl rfl rfl rfl ⟨rfl, rfl, rfl, rfl, rfl⟩ rfl rfl rfl rfl rfl (by kernel_rfl) Try.func4 (by kernel_rfl)
    (of_decide_eq_true (by kernel_rfl)) (by unfold Func.isWrapper; first | (rw [if_pos (by decide +kernel)]; kernel_rfl) | (rw [if_neg (by decide +kernel)]; exact ⟨rfl, rfl⟩))
    (fun os started H enc _ => liftedFnDeskDo os started H enc)
theorem fnDeskDo_holds : Rows.FnDeskDoSaid := overFnDeskDo
#print axioms fnDeskDo_holds
end Go.Proofs.Ytjlebmnlphjjoaa
