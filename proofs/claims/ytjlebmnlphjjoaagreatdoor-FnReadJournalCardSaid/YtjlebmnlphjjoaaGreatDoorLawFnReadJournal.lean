import Derived.Test.YtjlebmnlphjjoaaGreatDoorRows
import Derived.Test.YtjlebmnlphjjoaaGreatDoorJj
import Derived.Test.YtjlebmnlphjjoaaGreatDoorZi
import Derived.WalkKit
import Derived.ProofKit
import Derived.OpenShut
import Derived.ShutString
import Derived.ChangeOld
import Derived.Below
import Derived.SizedLaws
import Derived.LaidMore
import Derived.Stop.Joined
import Derived.SevenTiedAt
import Derived.Test.YtjlebmnlphjjoaaGreatDoorTie
import Derived.Test.YtjlebmnlphjjoaaGreatDoorCards
set_option linter.unusedVariables false
set_option linter.unusedSimpArgs false
/- The law FnReadJournal: for every input the call returns true and the input reads as it did; its tied card; no condition. -/
namespace Go.Proofs.YtjlebmnlphjjoaaGreatDoor
open Go.ChangeShapes Go.WideShapes Go.ChangeAt Go.RowKit
open Go.ChangeMaps (open_string shut_string)
open Go.Proofs.YtjlebmnlphjjoaaGreatDoor.Abs
set_option linter.unusedVariables false
theorem extFnReadJournal (f : FuncId) (vs : List AV) (bs : List (List PV)) (out : Out) (_ : Fx.E.fn f = none) (h : Fx.extT f vs bs = some out) : CallOk Tryz.prog f vs bs out := by
  unfold Fx.extT at h
  by_cases hf : f = 104
  · subst hf; rw [if_pos rfl] at h; exact Fx.idx_ok vs bs out h
  · rw [if_neg hf] at h; cases h
theorem ownFnReadJournal : ownKnob Tryz.prog.godebug = none := by kernel_rfl
theorem laidFnReadJournal : laidOutB Tryz.prog = true := by kernel_rfl
theorem spotFnReadJournal {P : Program} {w : World} {r : Reach} {base : Nat} {t e : TypeId} {a : Option Addr} {l c : Nat} (ht : P.underlying t = some (.slice e)) (h : Value.okWide P w r base t (.slice a l c)) : ∀ x, a = some x → x.spot = none := by
  intro x hx
  subst hx
  simp only [Value.okWide, ht, Cell.okWide, Cell.ok, World.has] at h
  exact h.2.2.2.1
set_option maxRecDepth 100000 in
theorem metFnReadJournal (os : Os) (args : Array Value) : laidMetH Tryz.prog Rows.fnReadJournalRow.laid ((World.doorLaid Tryz.prog 4000 os).forCall (fun _ _ => 0) ⟨#[], args, []⟩).memory :=
  laidMetH_of_parts3 (fuel := 8) (laidMet_of_run' 8 (by kernel_rfl) (by kernel_rfl)) (by kernel_rfl) (by kernel_rfl)
set_option maxRecDepth 100000 in
theorem liftedFnReadJournal (os : Os) (started : os.Started) (H : Type) (enc : TypeId × Value → H) :
    ReturnsInHanded {} Tryz.checked os 3 .any (fun w args => (Rows.fnReadJournalSpec.pre enc Tryz.prog Tryz.f3 [] false w args ∧ laidMetH Tryz.prog Rows.fnReadJournalRow.laid w) ∧ sizedMet enc Tryz.prog Tryz.f3 (OpenSpec.ofChange Rows.fnReadJournalSpec) false w args) (Rows.fnReadJournalSpec.post enc Tryz.prog Tryz.f3 false true false false) := by
  refine returnsInHanded_of_change_and (C := Tryz.checked) (X := fun w _ => laidMetH Tryz.prog Rows.fnReadJournalRow.laid w) (fun _ _ _ hh h => h.of_heap hh) ownFnReadJournal started (by kernel_rfl) Tryz.func3
    (ChangeSpec.witness_shaped (enc := enc) (C := Tryz.checked) (os := os) (X := fun w _ => laidMetH Tryz.prog Rows.fnReadJournalRow.laid w) false (World.doorLaid Tryz.prog 4000 os) #[.slice none 0 0, .slice none 0 0] 8 rfl (World.shaped_of_RefB (by kernel_rfl) (by kernel_rfl)) (by kernel_rfl) (by kernel_rfl) (by kernel_rfl) (metFnReadJournal os _)) ?_
  intro W base args ds gs before hval0 hW hcnd hsz0 hL _
  have hval : ∀ (j : Nat) t v, Tryz.f3.params[j]? = some t → args[j]? = some v → Value.okWide Tryz.prog W .any base t v := hval0
  have hW' := hW
  obtain ⟨p, q, hA0, hV, rfl, hfz, hnd⟩ := hW
  have hA : DataW.TrodAll enc Tryz.prog W 0 (fun _ => true) true Tryz.f3.params.toList args.toList ds p := hA0
  rw [Tryz.params3] at hA hval
  obtain ⟨v0, vs0, d0, ds0, p0, q0, hargs, rfl, rfl, h0, r0⟩ := trodAll_cons hA
  obtain ⟨v1, vs1, d1, ds1, p1, q1, rfl, rfl, rfl, h1, r1⟩ := trodAll_cons r0
  obtain ⟨rfl, rfl, rfl⟩ := trodAll_nil r1
  obtain rfl : args = #[v0, v1] := by cases args; simp_all
  obtain ⟨rfl, rfl⟩ := trodVars_none hV
  obtain ⟨a0, len0, cap0, rfl⟩ := okWide_slice Tryz.underlying22 (hval 0 22 v0 rfl rfl)
  have hspot0 := spotFnReadJournal Tryz.underlying22 (hval 0 22 _ rfl rfl)
  have k0 := h0
  have lt0 : ∀ x ∈ p0, x.block < W.heap.size := by obtain ⟨m, hm⟩ := k0; exact DataW.trod_lt m _ _ _ hm
  obtain ⟨b0, hb0, hrep0⟩ : ∃ b : List Int, (∀ x ∈ b, 0 ≤ x ∧ x ≤ 255) ∧ RepP (allFz W) (.slice a0 len0 cap0) (.ls 1 (b.map Fx.u8)) := by
    obtain ⟨fuel, hf⟩ := h0
    rcases open_ints Tryz.underlying22 Tryz.underlying5 (by kernel_rfl) hf with ⟨hcs, _⟩ | ⟨x, l, c, zs, hcs, _, hl, hm, hz, _, hcell, hwz⟩
    · simp [Value.cells] at hcs
      obtain ⟨rfl, rfl, rfl⟩ := hcs
      exact ⟨[], by simp, .lsn 1⟩
    · simp [Value.cells] at hcs
      obtain ⟨rfl, rfl, rfl⟩ := hcs
      refine ⟨zs.take len0, fun x hx => ?_, ?_⟩
      · have := hwz x (List.mem_of_mem_take hx)
        simp [Lit.wf, IntKind.min, IntKind.max, IntKind.signed, IntKind.bits] at this
        omega
      · exact rep_ints (k := .u8) hspot0 (.inr ⟨x, rfl, hl, by simp at hz; omega, hcell⟩)
  obtain ⟨a1, len1, cap1, rfl⟩ := okWide_slice Tryz.underlying22 (hval 1 22 v1 rfl rfl)
  have hspot1 := spotFnReadJournal Tryz.underlying22 (hval 1 22 _ rfl rfl)
  have k1 := h1
  have lt1 : ∀ x ∈ p1, x.block < W.heap.size := by obtain ⟨m, hm⟩ := k1; exact DataW.trod_lt m _ _ _ hm
  obtain ⟨b1, hb1, hrep1⟩ : ∃ b : List Int, (∀ x ∈ b, 0 ≤ x ∧ x ≤ 255) ∧ RepP (allFz W) (.slice a1 len1 cap1) (.ls 1 (b.map Fx.u8)) := by
    obtain ⟨fuel, hf⟩ := h1
    rcases open_ints Tryz.underlying22 Tryz.underlying5 (by kernel_rfl) hf with ⟨hcs, _⟩ | ⟨x, l, c, zs, hcs, _, hl, hm, hz, _, hcell, hwz⟩
    · simp [Value.cells] at hcs
      obtain ⟨rfl, rfl, rfl⟩ := hcs
      exact ⟨[], by simp, .lsn 1⟩
    · simp [Value.cells] at hcs
      obtain ⟨rfl, rfl, rfl⟩ := hcs
      refine ⟨zs.take len1, fun x hx => ?_, ?_⟩
      · have := hwz x (List.mem_of_mem_take hx)
        simp [Lit.wf, IntKind.min, IntKind.max, IntKind.signed, IntKind.bits] at this
        omega
      · exact rep_ints (k := .u8) hspot1 (.inr ⟨x, rfl, hl, by simp at hz; omega, hcell⟩)
  clear hA0 hval0 hsz0
  have top := top_true (P := Tryz.prog) (W := W) (vs := [.slice a0 len0 cap0, .slice a1 len1 cap1]) (ps := [.ls 1 (b0.map Fx.u8), .ls 1 (b1.map Fx.u8)]) (Fx.E_ok extFnReadJournal) (.cons _ _ _ _ hrep0 (.cons _ _ _ _ hrep1 (.nil))) (Fx.law3 b0 b1 hb0 hb1) rfl
  refine top.mono fun e W' ⟨he, bel⟩ => ?_
  subst he
  exact ⟨_, rfl, _, _, _, [], _, [], hW', trodAll_mk1 (shut_bool Tryz.underlying4 _), (trodAll_cons_mk (Below.trod laidFnReadJournal (by kernel_rfl) (of_decide_eq_true (by kernel_rfl)) k0 bel lt0) (trodAll_cons_mk (Below.trod laidFnReadJournal (by kernel_rfl) (of_decide_eq_true (by kernel_rfl)) k1 bel lt1) trodAll_mk0)), rfl, bel.frame _, fun h => by cases h⟩
theorem overFnReadJournal : Rows.fnReadJournalRow.holds Tryz.pinned (OpenSpec.ofChange Rows.fnReadJournalSpec) :=
  OpenClaim.holds_of_wide 3 Tryz.f3 rfl rfl rfl rfl rfl rfl rfl ⟨rfl, rfl, rfl, rfl, rfl⟩ rfl rfl rfl rfl rfl (by kernel_rfl) Tryz.func3 (by kernel_rfl)
    (of_decide_eq_true (by kernel_rfl)) (by unfold Func.isWrapper; first | (rw [if_pos (by decide +kernel)]; kernel_rfl) | (rw [if_neg (by decide +kernel)]; exact ⟨rfl, rfl⟩))
    (fun os started H enc _ => liftedFnReadJournal os started H enc)
theorem fnReadJournal_holds : Rows.FnReadJournalCardSaid :=
  Claim7.holds_tied_plain_at .later [] [.data, .data, .data] true Rows.fnReadJournalCard.stood.harness false
    overFnReadJournal (fun _ h => by cases h) (by kernel_rfl) (fun _ h => by cases h) fnReadJournal_row_tie rfl ⟨rfl, rfl⟩ (by kernel_rfl) rfl
    (fun f fn hf hfn => by
      obtain rfl : f = 3 := Option.some.inj ((show Tryz.prog.funcNamed "loop.example/quantifiers/laws.FnReadJournal" = some 3 by kernel_rfl).symm.trans hf) |>.symm
      obtain rfl : fn = Tryz.f3 := (Option.some.inj (Tryz.func3.symm.trans hfn)).symm
      exact ⟨by kernel_rfl, fun j t ht => by
        rw [Tryz.params3] at ht
        have hall : (Tryz.f3.params.toList.all fun u => !Tryz.prog.wantsStandIn u) = true := by kernel_rfl
        rw [Tryz.params3] at hall
        have hm := Array.mem_of_getElem? ht
        exact (show Tryz.prog.wantsStandIn t = false by simpa using List.all_eq_true.1 hall t (by simpa using hm))⟩)
    (by kernel_rfl)
#print axioms fnReadJournal_holds
end Go.Proofs.YtjlebmnlphjjoaaGreatDoor
