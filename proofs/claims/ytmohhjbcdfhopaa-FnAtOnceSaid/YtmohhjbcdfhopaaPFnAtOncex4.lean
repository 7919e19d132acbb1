-- Written by a program of this session (wip/patch_print.py, over the kit's print) and not by hand; Lean checks every word.
import Derived.Test.YtmohhjbcdfhopaaPFnAtOncex0
import Derived.Test.YtmohhjbcdfhopaaPFnAtOncex1
import Derived.Test.YtmohhjbcdfhopaaPFnAtOncex2
import Derived.Test.YtmohhjbcdfhopaaPFnAtOncex3
namespace Go.Proofs.Ytmohhjbcdfhopaa.PFnAtOnce
open Go.RowKit Go.Proofs.YtmohhjbcdfhopaaW.PrintWords Go.Proofs.YtmohhjbcdfhopaaW.PrintLast Go.Proofs.YtmohhjbcdfhopaaW.PrintMore
attribute [local go_sem] max2_int min2_int max_two min_two max_three min_three max_four min_four   -- for this text's walks alone
set_option linter.unusedVariables false
set_option linter.unusedSimpArgs false

/-! ### spec_AtOnce: function 35 -/
def spec_AtOnce.j0 : Nat → List Int → Int → List Int → Int → Int → Bool → Option (Bool)
  | 0, _, _, _, _, _, _ => none
  | k + 1, x0, x1, x2, x3, x4, x26 => if x26 = true then (some false) else ((spec_l1Made.f k 1 1).bind fun t185 => ((spec_l2Size.f k x1).bind fun t188 => ((spec_WhoDo.f k t185 x3 x4).bind fun t189 => ((spec_l2Both.f k x1 t189).bind fun t190 => ((spec_l2Size.f k t190).bind fun t191 => ((spec_PlaceOf.f t188 t191).bind fun t192 => (if 0 ≤ t192 then (if t192 < (x0.length : Int) then (if (rd x0 t192) = 1 then ((spec_l2Size.f k x3).bind fun t194 => ((spec_TurnedPairs.f k x4).bind fun t195 => ((spec_WhoDo.f k t185 x1 t195).bind fun t196 => ((spec_l2Both.f k x3 t196).bind fun t197 => ((spec_l2Size.f k t197).bind fun t198 => ((spec_PlaceOf.f t194 t198).bind fun t199 => (if 0 ≤ t199 then (if t199 < (x2.length : Int) then (some ((rd x2 t199) == 1)) else (none)) else (none)))))))) else (some false)) else (none)) else (none))))))))
def spec_AtOnce.f (k : Nat) (l0 : List Int) (a1 : Int) (l2 : List Int) (a3 : Int) (a4 : Int) : Option (Bool) := (spec_TriangleOk.f k l0).bind fun t182 => (if t182 = true then ((spec_TriangleOk.f k l2).bind fun t183 => (if t183 = true then ((spec_PairsOk.f a4 a1 a3).bind fun t184 => (spec_AtOnce.j0 k l0 a1 l2 a3 a4 (!t184))) else (spec_AtOnce.j0 k l0 a1 l2 a3 a4 true))) else (spec_AtOnce.j0 k l0 a1 l2 a3 a4 true))
theorem spec_AtOnce.mono_l : ∀ k, (∀ y0 y1 y2 y3 y4 y5, LeO (spec_AtOnce.j0 k y0 y1 y2 y3 y4 y5) (spec_AtOnce.j0 (k + 1) y0 y1 y2 y3 y4 y5))
  | 0 => fun _ _ _ _ _ _ r h => by simp [spec_AtOnce.j0] at h
  | k + 1 => by
    have ih0 := spec_AtOnce.mono_l k
    · intro y0 y1 y2 y3 y4 y5
      unfold spec_AtOnce.j0
      repeat' first
      | (with_reducible exact ih0 _ _ _ _ _ _)
      | (with_reducible exact spec_TriangleOk.mono _ _)
      | (with_reducible exact spec_TurnedPairs.mono _ _)
      | (with_reducible exact spec_WhoDo.mono _ _ _ _)
      | (with_reducible exact spec_l1Made.mono _ _ _)
      | (with_reducible exact spec_l2Both.mono _ _ _)
      | (with_reducible exact spec_l2Size.mono _ _)
      | (with_reducible exact LeO.refl _)
      | (with_reducible exact LeO.none _)
      | (with_reducible refine LeO.ite ?_ ?_)
      | (with_reducible refine LeO.bind ?_ (fun _ => ?_))
      | exact ih0 _ _ _ _ _ _
      | exact spec_TriangleOk.mono _ _
      | exact spec_TurnedPairs.mono _ _
      | exact spec_WhoDo.mono _ _ _ _
      | exact spec_l1Made.mono _ _ _
      | exact spec_l2Both.mono _ _ _
      | exact spec_l2Size.mono _ _
      | exact LeO.none _
      | refine LeO.ite ?_ ?_
      | refine LeO.bind ?_ (fun _ => ?_)
theorem spec_AtOnce.mono : ∀ a0 a1 a2 a3 a4 k, LeO (spec_AtOnce.f k a0 a1 a2 a3 a4) (spec_AtOnce.f (k + 1) a0 a1 a2 a3 a4) := by
  intro a0 a1 a2 a3 a4 k
  have ih0 := spec_AtOnce.mono_l k
  unfold spec_AtOnce.f
  repeat' first
      | (with_reducible exact ih0 _ _ _ _ _ _)
      | (with_reducible exact spec_TriangleOk.mono _ _)
      | (with_reducible exact spec_TurnedPairs.mono _ _)
      | (with_reducible exact spec_WhoDo.mono _ _ _ _)
      | (with_reducible exact spec_l1Made.mono _ _ _)
      | (with_reducible exact spec_l2Both.mono _ _ _)
      | (with_reducible exact spec_l2Size.mono _ _)
      | (with_reducible exact LeO.refl _)
      | (with_reducible exact LeO.none _)
      | (with_reducible refine LeO.ite ?_ ?_)
      | (with_reducible refine LeO.bind ?_ (fun _ => ?_))
      | exact ih0 _ _ _ _ _ _
      | exact spec_TriangleOk.mono _ _
      | exact spec_TurnedPairs.mono _ _
      | exact spec_WhoDo.mono _ _ _ _
      | exact spec_l1Made.mono _ _ _
      | exact spec_l2Both.mono _ _ _
      | exact spec_l2Size.mono _ _
      | exact LeO.none _
      | refine LeO.ite ?_ ?_
      | refine LeO.bind ?_ (fun _ => ?_)
set_option maxHeartbeats 8000000 in
set_option maxRecDepth 100000 in
theorem spec_AtOnce.calls (k : Nat) (A0 : Option Addr) (c0 : Nat) (l0 : List Int) (a1 : Int) (A2 : Option Addr) (c2 : Nat) (l2 : List Int) (a3 : Int) (a4 : Int) (r : Bool) (w : World) (hr0 : Kd.C (Kd.int .i64) w A0 l0.length l0) (hc0 : l0.length ≤ c0) (hr2 : Kd.C (Kd.int .i64) w A2 l2.length l2) (hc2 : l2.length ≤ c2) (h : spec_AtOnce.f k l0 a1 l2 a3 a4 = some r) :
    Calls Try.prog 35 #[.slice A0 l0.length c0, .int .i64 a1, .slice A2 l2.length c2, .int .i64 a3, .int .i64 a4] w fun e w' => e = .returned (.bool r) ∧ Below w.heap.size w w' := by
  have HR0 := Aside0.mk hr0
  have HC0 := Aside0.mk hc0
  clear hr0 hc0
  have HR2 := Aside0.mk hr2
  have HC2 := Aside0.mk hc2
  clear hr2 hc2
  have HB := Aside0.mk (Below.refl w.heap.size w)
  have H : ((spec_TriangleOk.f k l0).bind fun t182 => (if t182 = true then ((spec_TriangleOk.f k l2).bind fun t183 => (if t183 = true then ((spec_PairsOk.f a4 a1 a3).bind fun t184 => (spec_AtOnce.j0 k l0 a1 l2 a3 a4 (!t184))) else (spec_AtOnce.j0 k l0 a1 l2 a3 a4 true))) else (spec_AtOnce.j0 k l0 a1 l2 a3 a4 true))) = some r := h
  clear h
  have HC6 := Aside0.mk H
  clear H
  go_enter Try.func35, Try.ntmps35
  go_upto_region 1 with (fail)
  go_cut [26] (fun v26 wc => ∃ (kq : Nat) (x26_5 : Bool), v26 = .bool x26_5 ∧ Aside0 (spec_AtOnce.j0 kq l0 a1 l2 a3 a4 x26_5 = some r) ∧ Aside0 (kq ≤ k) ∧ Aside0 (Below w.heap.size w wc))
  case first =>
    have H := HC6.out
    clear HC6
    replace H := Option.bind_eq_some_iff.mp H
    obtain ⟨t182, A70, H⟩ := H
    replace H : (if t182 = true then ((spec_TriangleOk.f k l2).bind fun t183 => (if t183 = true then ((spec_PairsOk.f a4 a1 a3).bind fun t184 => (spec_AtOnce.j0 k l0 a1 l2 a3 a4 (!t184))) else (spec_AtOnce.j0 k l0 a1 l2 a3 a4 true))) else (spec_AtOnce.j0 k l0 a1 l2 a3 a4 true)) = some r := H
    have A7 := Aside0.mk A70
    clear A70
    by_cases c8 : t182 = true
    · subst c8
      have H1 : ((spec_TriangleOk.f k l2).bind fun t183 => (if t183 = true then ((spec_PairsOk.f a4 a1 a3).bind fun t184 => (spec_AtOnce.j0 k l0 a1 l2 a3 a4 (!t184))) else (spec_AtOnce.j0 k l0 a1 l2 a3 a4 true))) = some r := by rw [if_pos rfl] at H; exact H
      clear H
      have H := H1
      clear H1
      replace H := Option.bind_eq_some_iff.mp H
      obtain ⟨t183, A90, H⟩ := H
      replace H : (if t183 = true then ((spec_PairsOk.f a4 a1 a3).bind fun t184 => (spec_AtOnce.j0 k l0 a1 l2 a3 a4 (!t184))) else (spec_AtOnce.j0 k l0 a1 l2 a3 a4 true)) = some r := H
      have A9 := Aside0.mk A90
      clear A90
      by_cases c10 : t183 = true
      · subst c10
        have H1 : ((spec_PairsOk.f a4 a1 a3).bind fun t184 => (spec_AtOnce.j0 k l0 a1 l2 a3 a4 (!t184))) = some r := by rw [if_pos rfl] at H; exact H
        clear H
        have H := H1
        clear H1
        replace H := Option.bind_eq_some_iff.mp H
        obtain ⟨t184, A110, H⟩ := H
        replace H : (spec_AtOnce.j0 k l0 a1 l2 a3 a4 (!t184)) = some r := H
        have A11 := Aside0.mk A110
        clear A110
        have H' := Aside0.mk H
        clear H
        go_wp2_with (first | ((with_reducible refine gate_callee (f := 40) rfl ?_); refine goesL_ (some 13) rfl rfl Try.func40 (by kernel_rfl) rfl #[.slice A0 l0.length c0] rfl (by (try simp only [List.map_toArray, List.map_cons, List.map_nil]); first | done | rfl | (simp only [List.length_drop, List.length_take]; rfl)) ?_; (with_reducible refine (spec_TriangleOk.calls k _ _ l0 true _ ?side1 ?side2 A7.out).mono ?_); (case side1 => repeat (first | exact (Kd.C_below HR0.out HB.out) | (with_reducible refine Kd.C_alloc ?_ _) | (with_reducible refine Kd.C_drewN ?_ _) | (with_reducible refine Kd.C_drew ?_))); (case side2 => exact HC0.out); rintro e w' ⟨rfl, ⟨nd, rfl⟩⟩; refine ⟨_, rfl, ?_⟩) | (go_at_call 40; (with_reducible refine (spec_TriangleOk.calls k _ _ l2 true _ ?side1 ?side2 A9.out).mono ?_); (case side1 => repeat (first | exact (Kd.C_below HR2.out (by repeat (first | (with_reducible first | exact HB.out | apply below_alloc | apply pw_below_drewN | apply below_drew1) | exact HB.out))) | (with_reducible refine Kd.C_alloc ?_ _) | (with_reducible refine Kd.C_drewN ?_ _) | (with_reducible refine Kd.C_drew ?_))); (case side2 => exact HC2.out); rintro e w' ⟨rfl, ⟨nd, rfl⟩⟩) | (go_at_call 17; (with_reducible refine (spec_PairsOk.calls a4 a1 a3 t184 _ A11.out).mono ?_); rintro e w' ⟨rfl, ⟨nd, rfl⟩⟩))
        go_meet
        case rel => exact ⟨_, (!t184), (by first | rfl | (simp; done) | (simp [*]; done)), H', ⟨by first | omega | exact Nat.le_refl _⟩, ⟨by repeat (first | (with_reducible first | exact HB.out | apply below_alloc | apply pw_below_drewN | apply below_drew1) | exact HB.out)⟩⟩
      · replace c10 := Bool.eq_false_iff.mpr c10
        subst c10
        have H1 : (spec_AtOnce.j0 k l0 a1 l2 a3 a4 true) = some r := by rw [if_neg (show ¬ (false = true) by decide)] at H; exact H
        clear H
        have H := H1
        clear H1
        have H' := Aside0.mk H
        clear H
        go_wp2_with (first | ((with_reducible refine gate_callee (f := 40) rfl ?_); refine goesL_ (some 13) rfl rfl Try.func40 (by kernel_rfl) rfl #[.slice A0 l0.length c0] rfl (by (try simp only [List.map_toArray, List.map_cons, List.map_nil]); first | done | rfl | (simp only [List.length_drop, List.length_take]; rfl)) ?_; (with_reducible refine (spec_TriangleOk.calls k _ _ l0 true _ ?side1 ?side2 A7.out).mono ?_); (case side1 => repeat (first | exact (Kd.C_below HR0.out HB.out) | (with_reducible refine Kd.C_alloc ?_ _) | (with_reducible refine Kd.C_drewN ?_ _) | (with_reducible refine Kd.C_drew ?_))); (case side2 => exact HC0.out); rintro e w' ⟨rfl, ⟨nd, rfl⟩⟩; refine ⟨_, rfl, ?_⟩) | (go_at_call 40; (with_reducible refine (spec_TriangleOk.calls k _ _ l2 false _ ?side1 ?side2 A9.out).mono ?_); (case side1 => repeat (first | exact (Kd.C_below HR2.out (by repeat (first | (with_reducible first | exact HB.out | apply below_alloc | apply pw_below_drewN | apply below_drew1) | exact HB.out))) | (with_reducible refine Kd.C_alloc ?_ _) | (with_reducible refine Kd.C_drewN ?_ _) | (with_reducible refine Kd.C_drew ?_))); (case side2 => exact HC2.out); rintro e w' ⟨rfl, ⟨nd, rfl⟩⟩))
        go_meet
        case rel => exact ⟨_, (true), (by first | rfl | (simp; done) | (simp [*]; done)), H', ⟨by first | omega | exact Nat.le_refl _⟩, ⟨by repeat (first | (with_reducible first | exact HB.out | apply below_alloc | apply pw_below_drewN | apply below_drew1) | exact HB.out)⟩⟩
    · replace c8 := Bool.eq_false_iff.mpr c8
      subst c8
      have H1 : (spec_AtOnce.j0 k l0 a1 l2 a3 a4 true) = some r := by rw [if_neg (show ¬ (false = true) by decide)] at H; exact H
      clear H
      have H := H1
      clear H1
      have H' := Aside0.mk H
      clear H
      go_wp2_with (first | ((with_reducible refine gate_callee (f := 40) rfl ?_); refine goesL_ (some 13) rfl rfl Try.func40 (by kernel_rfl) rfl #[.slice A0 l0.length c0] rfl (by (try simp only [List.map_toArray, List.map_cons, List.map_nil]); first | done | rfl | (simp only [List.length_drop, List.length_take]; rfl)) ?_; (with_reducible refine (spec_TriangleOk.calls k _ _ l0 false _ ?side1 ?side2 A7.out).mono ?_); (case side1 => repeat (first | exact (Kd.C_below HR0.out HB.out) | (with_reducible refine Kd.C_alloc ?_ _) | (with_reducible refine Kd.C_drewN ?_ _) | (with_reducible refine Kd.C_drew ?_))); (case side2 => exact HC0.out); rintro e w' ⟨rfl, ⟨nd, rfl⟩⟩; refine ⟨_, rfl, ?_⟩))
      go_meet
      case rel => exact ⟨_, (true), (by first | rfl | (simp; done) | (simp [*]; done)), H', ⟨by first | omega | exact Nat.le_refl _⟩, ⟨by repeat (first | (with_reducible first | exact HB.out | apply below_alloc | apply pw_below_drewN | apply below_drew1) | exact HB.out)⟩⟩
  case rest =>
    clear HC6
    try clear c1
    try clear c2
    try clear p2
    try clear c3
    try clear c4
    try clear c8
    try clear c10
    obtain ⟨kq, x26_5, rfl, HA, HJ5, HB⟩ := hcut
    cases kq with
    | zero => exact absurd HA.out (by simp [spec_AtOnce.j0])
    | succ kj5 =>
      have H := HA.out
      clear HA
      simp only [spec_AtOnce.j0] at H
      by_cases c12 : x26_5 = true
      · subst c12
        have H1 : (some false) = some r := by rw [if_pos rfl] at H; exact H
        clear H
        have H := H1
        clear H1
        obtain rfl := Option.some.inj H
        go_wp2
        go_ret
        exact ⟨by first | rfl | (simp [errW_none, errW_some] <;> rfl) | (simp [*, errW_none, errW_some] <;> rfl), by repeat (first | (with_reducible first | exact HB.out | apply below_alloc | apply pw_below_drewN | apply below_drew1) | exact HB.out)⟩
      · replace c12 := Bool.eq_false_iff.mpr c12
        subst c12
        have H1 : ((spec_l1Made.f kj5 1 1).bind fun t185 => ((spec_l2Size.f kj5 a1).bind fun t188 => ((spec_WhoDo.f kj5 t185 a3 a4).bind fun t189 => ((spec_l2Both.f kj5 a1 t189).bind fun t190 => ((spec_l2Size.f kj5 t190).bind fun t191 => ((spec_PlaceOf.f t188 t191).bind fun t192 => (if 0 ≤ t192 then (if t192 < (l0.length : Int) then (if (rd l0 t192) = 1 then ((spec_l2Size.f kj5 a3).bind fun t194 => ((spec_TurnedPairs.f kj5 a4).bind fun t195 => ((spec_WhoDo.f kj5 t185 a1 t195).bind fun t196 => ((spec_l2Both.f kj5 a3 t196).bind fun t197 => ((spec_l2Size.f kj5 t197).bind fun t198 => ((spec_PlaceOf.f t194 t198).bind fun t199 => (if 0 ≤ t199 then (if t199 < (l2.length : Int) then (some ((rd l2 t199) == 1)) else (none)) else (none)))))))) else (some false)) else (none)) else (none)))))))) = some r := by rw [if_neg (show ¬ (false = true) by decide)] at H; exact H
        clear H
        have H := H1
        clear H1
        replace H := Option.bind_eq_some_iff.mp H
        obtain ⟨t185, A130, H⟩ := H
        replace H : ((spec_l2Size.f kj5 a1).bind fun t188 => ((spec_WhoDo.f kj5 t185 a3 a4).bind fun t189 => ((spec_l2Both.f kj5 a1 t189).bind fun t190 => ((spec_l2Size.f kj5 t190).bind fun t191 => ((spec_PlaceOf.f t188 t191).bind fun t192 => (if 0 ≤ t192 then (if t192 < (l0.length : Int) then (if (rd l0 t192) = 1 then ((spec_l2Size.f kj5 a3).bind fun t194 => ((spec_TurnedPairs.f kj5 a4).bind fun t195 => ((spec_WhoDo.f kj5 t185 a1 t195).bind fun t196 => ((spec_l2Both.f kj5 a3 t196).bind fun t197 => ((spec_l2Size.f kj5 t197).bind fun t198 => ((spec_PlaceOf.f t194 t198).bind fun t199 => (if 0 ≤ t199 then (if t199 < (l2.length : Int) then (some ((rd l2 t199) == 1)) else (none)) else (none)))))))) else (some false)) else (none)) else (none))))))) = some r := H
        have A13 := Aside0.mk A130
        clear A130
        replace H := Option.bind_eq_some_iff.mp H
        obtain ⟨t188, A140, H⟩ := H
        replace H : ((spec_WhoDo.f kj5 t185 a3 a4).bind fun t189 => ((spec_l2Both.f kj5 a1 t189).bind fun t190 => ((spec_l2Size.f kj5 t190).bind fun t191 => ((spec_PlaceOf.f t188 t191).bind fun t192 => (if 0 ≤ t192 then (if t192 < (l0.length : Int) then (if (rd l0 t192) = 1 then ((spec_l2Size.f kj5 a3).bind fun t194 => ((spec_TurnedPairs.f kj5 a4).bind fun t195 => ((spec_WhoDo.f kj5 t185 a1 t195).bind fun t196 => ((spec_l2Both.f kj5 a3 t196).bind fun t197 => ((spec_l2Size.f kj5 t197).bind fun t198 => ((spec_PlaceOf.f t194 t198).bind fun t199 => (if 0 ≤ t199 then (if t199 < (l2.length : Int) then (some ((rd l2 t199) == 1)) else (none)) else (none)))))))) else (some false)) else (none)) else (none)))))) = some r := H
        have A14 := Aside0.mk A140
        clear A140
        replace H := Option.bind_eq_some_iff.mp H
        obtain ⟨t189, A150, H⟩ := H
        replace H : ((spec_l2Both.f kj5 a1 t189).bind fun t190 => ((spec_l2Size.f kj5 t190).bind fun t191 => ((spec_PlaceOf.f t188 t191).bind fun t192 => (if 0 ≤ t192 then (if t192 < (l0.length : Int) then (if (rd l0 t192) = 1 then ((spec_l2Size.f kj5 a3).bind fun t194 => ((spec_TurnedPairs.f kj5 a4).bind fun t195 => ((spec_WhoDo.f kj5 t185 a1 t195).bind fun t196 => ((spec_l2Both.f kj5 a3 t196).bind fun t197 => ((spec_l2Size.f kj5 t197).bind fun t198 => ((spec_PlaceOf.f t194 t198).bind fun t199 => (if 0 ≤ t199 then (if t199 < (l2.length : Int) then (some ((rd l2 t199) == 1)) else (none)) else (none)))))))) else (some false)) else (none)) else (none))))) = some r := H
        have A15 := Aside0.mk A150
        clear A150
        replace H := Option.bind_eq_some_iff.mp H
        obtain ⟨t190, A160, H⟩ := H
        replace H : ((spec_l2Size.f kj5 t190).bind fun t191 => ((spec_PlaceOf.f t188 t191).bind fun t192 => (if 0 ≤ t192 then (if t192 < (l0.length : Int) then (if (rd l0 t192) = 1 then ((spec_l2Size.f kj5 a3).bind fun t194 => ((spec_TurnedPairs.f kj5 a4).bind fun t195 => ((spec_WhoDo.f kj5 t185 a1 t195).bind fun t196 => ((spec_l2Both.f kj5 a3 t196).bind fun t197 => ((spec_l2Size.f kj5 t197).bind fun t198 => ((spec_PlaceOf.f t194 t198).bind fun t199 => (if 0 ≤ t199 then (if t199 < (l2.length : Int) then (some ((rd l2 t199) == 1)) else (none)) else (none)))))))) else (some false)) else (none)) else (none)))) = some r := H
        have A16 := Aside0.mk A160
        clear A160
        replace H := Option.bind_eq_some_iff.mp H
        obtain ⟨t191, A170, H⟩ := H
        replace H : ((spec_PlaceOf.f t188 t191).bind fun t192 => (if 0 ≤ t192 then (if t192 < (l0.length : Int) then (if (rd l0 t192) = 1 then ((spec_l2Size.f kj5 a3).bind fun t194 => ((spec_TurnedPairs.f kj5 a4).bind fun t195 => ((spec_WhoDo.f kj5 t185 a1 t195).bind fun t196 => ((spec_l2Both.f kj5 a3 t196).bind fun t197 => ((spec_l2Size.f kj5 t197).bind fun t198 => ((spec_PlaceOf.f t194 t198).bind fun t199 => (if 0 ≤ t199 then (if t199 < (l2.length : Int) then (some ((rd l2 t199) == 1)) else (none)) else (none)))))))) else (some false)) else (none)) else (none))) = some r := H
        have A17 := Aside0.mk A170
        clear A170
        replace H := Option.bind_eq_some_iff.mp H
        obtain ⟨t192, A180, H⟩ := H
        replace H : (if 0 ≤ t192 then (if t192 < (l0.length : Int) then (if (rd l0 t192) = 1 then ((spec_l2Size.f kj5 a3).bind fun t194 => ((spec_TurnedPairs.f kj5 a4).bind fun t195 => ((spec_WhoDo.f kj5 t185 a1 t195).bind fun t196 => ((spec_l2Both.f kj5 a3 t196).bind fun t197 => ((spec_l2Size.f kj5 t197).bind fun t198 => ((spec_PlaceOf.f t194 t198).bind fun t199 => (if 0 ≤ t199 then (if t199 < (l2.length : Int) then (some ((rd l2 t199) == 1)) else (none)) else (none)))))))) else (some false)) else (none)) else (none)) = some r := H
        have A18 := Aside0.mk A180
        clear A180
        by_cases c19 : 0 ≤ t192
        · rw [if_pos c19] at H
          have c19b0 : decide (0 ≤ t192) = true := decide_eq_true c19
          clear c19
          by_cases c20 : t192 < (l0.length : Int)
          · rw [if_pos c20] at H
            have c20b0 : decide (t192 < (l0.length : Int)) = true := decide_eq_true c20
            clear c20
            by_cases c21 : (rd l0 t192) = 1
            · rw [if_pos c21] at H
              have c21b0 : ((rd l0 t192) == 1) = true := beq_iff_eq.mpr c21
              have c21b1 : ((rd l0 t192) != 1) = false := bne_eq_false_iff_eq.mpr c21
              clear c21
              replace H := Option.bind_eq_some_iff.mp H
              obtain ⟨t194, A220, H⟩ := H
              replace H : ((spec_TurnedPairs.f kj5 a4).bind fun t195 => ((spec_WhoDo.f kj5 t185 a1 t195).bind fun t196 => ((spec_l2Both.f kj5 a3 t196).bind fun t197 => ((spec_l2Size.f kj5 t197).bind fun t198 => ((spec_PlaceOf.f t194 t198).bind fun t199 => (if 0 ≤ t199 then (if t199 < (l2.length : Int) then (some ((rd l2 t199) == 1)) else (none)) else (none))))))) = some r := H
              have A22 := Aside0.mk A220
              clear A220
              replace H := Option.bind_eq_some_iff.mp H
              obtain ⟨t195, A230, H⟩ := H
              replace H : ((spec_WhoDo.f kj5 t185 a1 t195).bind fun t196 => ((spec_l2Both.f kj5 a3 t196).bind fun t197 => ((spec_l2Size.f kj5 t197).bind fun t198 => ((spec_PlaceOf.f t194 t198).bind fun t199 => (if 0 ≤ t199 then (if t199 < (l2.length : Int) then (some ((rd l2 t199) == 1)) else (none)) else (none)))))) = some r := H
              have A23 := Aside0.mk A230
              clear A230
              replace H := Option.bind_eq_some_iff.mp H
              obtain ⟨t196, A240, H⟩ := H
              replace H : ((spec_l2Both.f kj5 a3 t196).bind fun t197 => ((spec_l2Size.f kj5 t197).bind fun t198 => ((spec_PlaceOf.f t194 t198).bind fun t199 => (if 0 ≤ t199 then (if t199 < (l2.length : Int) then (some ((rd l2 t199) == 1)) else (none)) else (none))))) = some r := H
              have A24 := Aside0.mk A240
              clear A240
              replace H := Option.bind_eq_some_iff.mp H
              obtain ⟨t197, A250, H⟩ := H
              replace H : ((spec_l2Size.f kj5 t197).bind fun t198 => ((spec_PlaceOf.f t194 t198).bind fun t199 => (if 0 ≤ t199 then (if t199 < (l2.length : Int) then (some ((rd l2 t199) == 1)) else (none)) else (none)))) = some r := H
              have A25 := Aside0.mk A250
              clear A250
              replace H := Option.bind_eq_some_iff.mp H
              obtain ⟨t198, A260, H⟩ := H
              replace H : ((spec_PlaceOf.f t194 t198).bind fun t199 => (if 0 ≤ t199 then (if t199 < (l2.length : Int) then (some ((rd l2 t199) == 1)) else (none)) else (none))) = some r := H
              have A26 := Aside0.mk A260
              clear A260
              replace H := Option.bind_eq_some_iff.mp H
              obtain ⟨t199, A270, H⟩ := H
              replace H : (if 0 ≤ t199 then (if t199 < (l2.length : Int) then (some ((rd l2 t199) == 1)) else (none)) else (none)) = some r := H
              have A27 := Aside0.mk A270
              clear A270
              by_cases c28 : 0 ≤ t199
              · rw [if_pos c28] at H
                have c28b0 : decide (0 ≤ t199) = true := decide_eq_true c28
                clear c28
                by_cases c29 : t199 < (l2.length : Int)
                · rw [if_pos c29] at H
                  have c29b0 : decide (t199 < (l2.length : Int)) = true := decide_eq_true c29
                  clear c29
                  obtain rfl := Option.some.inj H
                  go_wp2_with (first | ((with_reducible refine gate_callee (f := 59) rfl ?_); refine goesL_ (some 27) rfl rfl Try.func59 (by kernel_rfl) rfl #[.int .i64 1, .int .i64 1] rfl (by (try simp only [List.map_toArray, List.map_cons, List.map_nil]); first | done | rfl | (simp only [List.length_drop, List.length_take]; rfl)) ?_; (with_reducible refine (spec_l1Made.calls kj5 1 1 t185 _ A13.out).mono ?_); rintro e w30 ⟨v186, rfl, ho0, hb⟩; refine ⟨_, rfl, ?_⟩; have n0_ := Aside0.mk (Kd.R_lower ho0 (below_size (by repeat (first | (with_reducible first | exact HB.out | apply below_alloc | apply pw_below_drewN | apply below_drew1) | exact HB.out)))); have n1_ := Aside0.mk (below_step (by repeat (first | (with_reducible first | exact HB.out | apply below_alloc | apply pw_below_drewN | apply below_drew1) | exact HB.out)) hb); clear HB; have HO187 := n0_; have HB := n1_; clear n0_ n1_; (try clear hb); (try clear hb2); (try clear hk); (try clear hi); (try clear ho0)) | ((with_reducible refine gate_callee (f := 54) rfl ?_); refine goesL_ (some 30) rfl rfl Try.func54 (by kernel_rfl) rfl #[.int .i64 a1] rfl (by (try simp only [List.map_toArray, List.map_cons, List.map_nil]); first | done | rfl | (simp only [List.length_drop, List.length_take]; rfl)) ?_; (with_reducible refine (spec_l2Size.calls kj5 a1 t188 _ A14.out).mono ?_); rintro e w' ⟨rfl, ⟨nd, rfl⟩⟩; refine ⟨_, rfl, ?_⟩; obtain ⟨Ao31, co31, eo31⟩ := Kd.R_slice HO187.out; subst eo31) | ((with_reducible refine gate_callee (f := 27) rfl ?_); refine goesL_ (some 35) rfl rfl Try.func27 (by kernel_rfl) rfl #[.slice Ao31 t185.length co31, .int .i64 a3, .int .i64 a4] rfl (by (try simp only [List.map_toArray, List.map_cons, List.map_nil]); first | done | rfl | (simp only [List.length_drop, List.length_take]; rfl)) ?_; (with_reducible refine (spec_WhoDo.calls kj5 _ _ t185 a3 a4 t189 _ ?side1 ?side2 A15.out).mono ?_); (case side1 => repeat (first | exact (Kd.R_reads' HO187.out).2.2 | (with_reducible refine Kd.C_alloc ?_ _) | (with_reducible refine Kd.C_drewN ?_ _) | (with_reducible refine Kd.C_drew ?_))); (case side2 => exact (Kd.R_reads' HO187.out).2.1); rintro e w' ⟨rfl, ⟨nd, rfl⟩⟩; refine ⟨_, rfl, ?_⟩) | ((with_reducible refine gate_callee (f := 55) rfl ?_); refine goesL_ (some 36) rfl rfl Try.func55 (by kernel_rfl) rfl #[.int .i64 a1, .int .i64 t189] rfl (by (try simp only [List.map_toArray, List.map_cons, List.map_nil]); first | done | rfl | (simp only [List.length_drop, List.length_take]; rfl)) ?_; (with_reducible refine (spec_l2Both.calls kj5 a1 t189 t190 _ A16.out).mono ?_); rintro e w' ⟨rfl, ⟨nd, rfl⟩⟩; refine ⟨_, rfl, ?_⟩) | ((with_reducible refine gate_callee (f := 54) rfl ?_); refine goesL_ (some 37) rfl rfl Try.func54 (by kernel_rfl) rfl #[.int .i64 t190] rfl (by (try simp only [List.map_toArray, List.map_cons, List.map_nil]); first | done | rfl | (simp only [List.length_drop, List.length_take]; rfl)) ?_; (with_reducible refine (spec_l2Size.calls kj5 t190 t191 _ A17.out).mono ?_); rintro e w' ⟨rfl, ⟨nd, rfl⟩⟩; refine ⟨_, rfl, ?_⟩) | ((with_reducible refine gate_callee (f := 53) rfl ?_); refine goesL_ (some 38) rfl rfl Try.func53 (by kernel_rfl) rfl #[.int .i64 t188, .int .i64 t191] rfl (by (try simp only [List.map_toArray, List.map_cons, List.map_nil]); first | done | rfl | (simp only [List.length_drop, List.length_take]; rfl)) ?_; (with_reducible refine (spec_PlaceOf.calls t188 t191 t192 _ A18.out).mono ?_); rintro e w' ⟨rfl, ⟨nd, rfl⟩⟩; refine ⟨_, rfl, ?_⟩; have p193 : 0 ≤ (t192 : Int) := of_decide_eq_true (by first | (with_reducible assumption) | assumption); have q193 : t192 < (l0.length : Int) := of_decide_eq_true (by first | (with_reducible assumption) | assumption); obtain ⟨ad193, e193, hx193_0⟩ := Kd.at_int HR0.out t192 p193 q193; cases e193; replace hx193_0 := (HB.out.cell (World.block_lt_of_cell? w _ hx193_0)).trans hx193_0; replace p193 := eq_true p193; replace q193 := eq_true q193) | (go_at_call 54; (with_reducible refine (spec_l2Size.calls kj5 a3 t194 _ A22.out).mono ?_); rintro e w' ⟨rfl, ⟨nd, rfl⟩⟩) | (go_at_call 19; (with_reducible refine (spec_TurnedPairs.calls kj5 a4 t195 _ A23.out).mono ?_); rintro e w' ⟨rfl, ⟨nd, rfl⟩⟩) | (go_at_call 27; (with_reducible refine (spec_WhoDo.calls kj5 _ _ t185 a1 t195 t196 _ ?side1 ?side2 A24.out).mono ?_); (case side1 => repeat (first | exact (Kd.R_reads' HO187.out).2.2 | (with_reducible refine Kd.C_alloc ?_ _) | (with_reducible refine Kd.C_drewN ?_ _) | (with_reducible refine Kd.C_drew ?_))); (case side2 => exact (Kd.R_reads' HO187.out).2.1); rintro e w' ⟨rfl, ⟨nd, rfl⟩⟩) | (go_at_call 55; (with_reducible refine (spec_l2Both.calls kj5 a3 t196 t197 _ A25.out).mono ?_); rintro e w' ⟨rfl, ⟨nd, rfl⟩⟩) | (go_at_call 54; (with_reducible refine (spec_l2Size.calls kj5 t197 t198 _ A26.out).mono ?_); rintro e w' ⟨rfl, ⟨nd, rfl⟩⟩) | (go_at_call 53; (with_reducible refine (spec_PlaceOf.calls t194 t198 t199 _ A27.out).mono ?_); rintro e w' ⟨rfl, ⟨nd, rfl⟩⟩; have p200 : 0 ≤ (t199 : Int) := of_decide_eq_true (by first | (with_reducible assumption) | assumption); have q200 : t199 < (l2.length : Int) := of_decide_eq_true (by first | (with_reducible assumption) | assumption); obtain ⟨ad200, e200, hx200_0⟩ := Kd.at_int HR2.out t199 p200 q200; cases e200; replace hx200_0 := (HB.out.cell (World.block_lt_of_cell? w _ hx200_0)).trans hx200_0; replace p200 := eq_true p200; replace q200 := eq_true q200))
                  go_ret
                  exact ⟨by first | rfl | (simp [errW_none, errW_some] <;> rfl) | (simp [*, errW_none, errW_some] <;> rfl), by repeat (first | (with_reducible first | exact HB.out | apply below_alloc | apply pw_below_drewN | apply below_drew1) | exact HB.out)⟩
                · rw [if_neg c29] at H
                  exact absurd H (by simp)
              · rw [if_neg c28] at H
                exact absurd H (by simp)
            · rw [if_neg c21] at H
              have c21b0 : ((rd l0 t192) == 1) = false := beq_eq_false_iff_ne.mpr c21
              have c21b1 : ((rd l0 t192) != 1) = true := bne_iff_ne.mpr c21
              obtain rfl := Option.some.inj H
              go_wp2_with (first | ((with_reducible refine gate_callee (f := 59) rfl ?_); refine goesL_ (some 27) rfl rfl Try.func59 (by kernel_rfl) rfl #[.int .i64 1, .int .i64 1] rfl (by (try simp only [List.map_toArray, List.map_cons, List.map_nil]); first | done | rfl | (simp only [List.length_drop, List.length_take]; rfl)) ?_; (with_reducible refine (spec_l1Made.calls kj5 1 1 t185 _ A13.out).mono ?_); rintro e w32 ⟨v186, rfl, ho0, hb⟩; refine ⟨_, rfl, ?_⟩; have n0_ := Aside0.mk (Kd.R_lower ho0 (below_size (by repeat (first | (with_reducible first | exact HB.out | apply below_alloc | apply pw_below_drewN | apply below_drew1) | exact HB.out)))); have n1_ := Aside0.mk (below_step (by repeat (first | (with_reducible first | exact HB.out | apply below_alloc | apply pw_below_drewN | apply below_drew1) | exact HB.out)) hb); clear HB; have HO187 := n0_; have HB := n1_; clear n0_ n1_; (try clear hb); (try clear hb2); (try clear hk); (try clear hi); (try clear ho0)) | ((with_reducible refine gate_callee (f := 54) rfl ?_); refine goesL_ (some 30) rfl rfl Try.func54 (by kernel_rfl) rfl #[.int .i64 a1] rfl (by (try simp only [List.map_toArray, List.map_cons, List.map_nil]); first | done | rfl | (simp only [List.length_drop, List.length_take]; rfl)) ?_; (with_reducible refine (spec_l2Size.calls kj5 a1 t188 _ A14.out).mono ?_); rintro e w' ⟨rfl, ⟨nd, rfl⟩⟩; refine ⟨_, rfl, ?_⟩; obtain ⟨Ao33, co33, eo33⟩ := Kd.R_slice HO187.out; subst eo33) | ((with_reducible refine gate_callee (f := 27) rfl ?_); refine goesL_ (some 35) rfl rfl Try.func27 (by kernel_rfl) rfl #[.slice Ao33 t185.length co33, .int .i64 a3, .int .i64 a4] rfl (by (try simp only [List.map_toArray, List.map_cons, List.map_nil]); first | done | rfl | (simp only [List.length_drop, List.length_take]; rfl)) ?_; (with_reducible refine (spec_WhoDo.calls kj5 _ _ t185 a3 a4 t189 _ ?side1 ?side2 A15.out).mono ?_); (case side1 => repeat (first | exact (Kd.R_reads' HO187.out).2.2 | (with_reducible refine Kd.C_alloc ?_ _) | (with_reducible refine Kd.C_drewN ?_ _) | (with_reducible refine Kd.C_drew ?_))); (case side2 => exact (Kd.R_reads' HO187.out).2.1); rintro e w' ⟨rfl, ⟨nd, rfl⟩⟩; refine ⟨_, rfl, ?_⟩) | ((with_reducible refine gate_callee (f := 55) rfl ?_); refine goesL_ (some 36) rfl rfl Try.func55 (by kernel_rfl) rfl #[.int .i64 a1, .int .i64 t189] rfl (by (try simp only [List.map_toArray, List.map_cons, List.map_nil]); first | done | rfl | (simp only [List.length_drop, List.length_take]; rfl)) ?_; (with_reducible refine (spec_l2Both.calls kj5 a1 t189 t190 _ A16.out).mono ?_); rintro e w' ⟨rfl, ⟨nd, rfl⟩⟩; refine ⟨_, rfl, ?_⟩) | ((with_reducible refine gate_callee (f := 54) rfl ?_); refine goesL_ (some 37) rfl rfl Try.func54 (by kernel_rfl) rfl #[.int .i64 t190] rfl (by (try simp only [List.map_toArray, List.map_cons, List.map_nil]); first | done | rfl | (simp only [List.length_drop, List.length_take]; rfl)) ?_; (with_reducible refine (spec_l2Size.calls kj5 t190 t191 _ A17.out).mono ?_); rintro e w' ⟨rfl, ⟨nd, rfl⟩⟩; refine ⟨_, rfl, ?_⟩) | ((with_reducible refine gate_callee (f := 53) rfl ?_); refine goesL_ (some 38) rfl rfl Try.func53 (by kernel_rfl) rfl #[.int .i64 t188, .int .i64 t191] rfl (by (try simp only [List.map_toArray, List.map_cons, List.map_nil]); first | done | rfl | (simp only [List.length_drop, List.length_take]; rfl)) ?_; (with_reducible refine (spec_PlaceOf.calls t188 t191 t192 _ A18.out).mono ?_); rintro e w' ⟨rfl, ⟨nd, rfl⟩⟩; refine ⟨_, rfl, ?_⟩; have p193 : 0 ≤ (t192 : Int) := of_decide_eq_true (by first | (with_reducible assumption) | assumption); have q193 : t192 < (l0.length : Int) := of_decide_eq_true (by first | (with_reducible assumption) | assumption); obtain ⟨ad193, e193, hx193_0⟩ := Kd.at_int HR0.out t192 p193 q193; cases e193; replace hx193_0 := (HB.out.cell (World.block_lt_of_cell? w _ hx193_0)).trans hx193_0; replace p193 := eq_true p193; replace q193 := eq_true q193))
              go_ret
              exact ⟨by first | rfl | (simp [errW_none, errW_some] <;> rfl) | (simp [*, errW_none, errW_some] <;> rfl), by repeat (first | (with_reducible first | exact HB.out | apply below_alloc | apply pw_below_drewN | apply below_drew1) | exact HB.out)⟩
          · rw [if_neg c20] at H
            exact absurd H (by simp)
        · rw [if_neg c19] at H
          exact absurd H (by simp)

/-! ### impl_AtOnce: function 36 -/
mutual
def impl_AtOnce.j0 : Nat → List Int → Int → List Int → Int → Int → Bool → Option (Bool)
  | 0, _, _, _, _, _, _ => none
  | k + 1, x0, x1, x2, x3, x4, x28 => if x28 = true then (some false) else (impl_AtOnce.l0 k x0 x1 x2 x3 x4 0 0 0)
def impl_AtOnce.l0 : Nat → List Int → Int → List Int → Int → Int → Int → Int → Int → Option (Bool)
  | 0, _, _, _, _, _, _, _, _ => none
  | k + 1, x0, x1, x2, x3, x4, x11, x12, x29 => if x29 < 3 then ((impl_relatedTo.f x4 x29).bind fun t204 => (if (Go.bits .and .i64 t204 x3) = 0 then (impl_AtOnce.j2 k x0 x1 x2 x3 x4 x11 x12 x29 x29) else (if 0 ≤ x29 then (impl_AtOnce.j2 k x0 x1 x2 x3 x4 (Go.bits .or .i64 x11 (shl .i64 1 x29)) x12 x29 x29) else (none)))) else ((impl_sizeOf.f x1).bind fun t207 => ((impl_sizeOf.f (Go.bits .and .i64 x1 x11)).bind fun t208 => ((impl_holds.f x0 t207 t208).bind fun t209 => (if t209 = true then ((impl_sizeOf.f x3).bind fun t210 => ((impl_sizeOf.f (Go.bits .and .i64 x3 x12)).bind fun t211 => ((impl_holds.f x2 t210 t211).bind fun t212 => (some t212)))) else (some false)))))
def impl_AtOnce.j2 : Nat → List Int → Int → List Int → Int → Int → Int → Int → Int → Int → Option (Bool)
  | 0, _, _, _, _, _, _, _, _, _ => none
  | k + 1, x0, x1, x2, x3, x4, x11, x12, x13, x29 => (impl_turnedPairs.f k x4).bind fun t205 => ((impl_relatedTo.f t205 x13).bind fun t206 => (if (Go.bits .and .i64 t206 x1) = 0 then (impl_AtOnce.l0 k x0 x1 x2 x3 x4 x11 x12 (wrap64 (x29 + 1))) else (if 0 ≤ x13 then (impl_AtOnce.l0 k x0 x1 x2 x3 x4 x11 (Go.bits .or .i64 x12 (shl .i64 1 x13)) (wrap64 (x29 + 1))) else (none))))
end
def impl_AtOnce.f (k : Nat) (l0 : List Int) (a1 : Int) (l2 : List Int) (a3 : Int) (a4 : Int) : Option (Bool) := (impl_isTriangle.f k l0).bind fun t201 => (if t201 = true then ((impl_isTriangle.f k l2).bind fun t202 => (if t202 = true then ((impl_arePairs.f a4 a1 a3).bind fun t203 => (impl_AtOnce.j0 k l0 a1 l2 a3 a4 (!t203))) else (impl_AtOnce.j0 k l0 a1 l2 a3 a4 true))) else (impl_AtOnce.j0 k l0 a1 l2 a3 a4 true))
theorem impl_AtOnce.mono_l : ∀ k, (∀ y0 y1 y2 y3 y4 y5, LeO (impl_AtOnce.j0 k y0 y1 y2 y3 y4 y5) (impl_AtOnce.j0 (k + 1) y0 y1 y2 y3 y4 y5)) ∧ (∀ y0 y1 y2 y3 y4 y5 y6 y7, LeO (impl_AtOnce.l0 k y0 y1 y2 y3 y4 y5 y6 y7) (impl_AtOnce.l0 (k + 1) y0 y1 y2 y3 y4 y5 y6 y7)) ∧ (∀ y0 y1 y2 y3 y4 y5 y6 y7 y8, LeO (impl_AtOnce.j2 k y0 y1 y2 y3 y4 y5 y6 y7 y8) (impl_AtOnce.j2 (k + 1) y0 y1 y2 y3 y4 y5 y6 y7 y8))
  | 0 => ⟨fun _ _ _ _ _ _ r h => by simp [impl_AtOnce.j0] at h, fun _ _ _ _ _ _ _ _ r h => by simp [impl_AtOnce.l0] at h, fun _ _ _ _ _ _ _ _ _ r h => by simp [impl_AtOnce.j2] at h⟩
  | k + 1 => by
    obtain ⟨ih0, ih1, ih2⟩ := impl_AtOnce.mono_l k
    refine ⟨?_, ?_, ?_⟩
    · intro y0 y1 y2 y3 y4 y5
      unfold impl_AtOnce.j0
      repeat' first
      | (with_reducible exact ih0 _ _ _ _ _ _)
      | (with_reducible exact ih1 _ _ _ _ _ _ _ _)
      | (with_reducible exact ih2 _ _ _ _ _ _ _ _ _)
      | (with_reducible exact impl_isTriangle.mono _ _)
      | (with_reducible exact impl_turnedPairs.mono _ _)
      | (with_reducible exact LeO.refl _)
      | (with_reducible exact LeO.none _)
      | (with_reducible refine LeO.ite ?_ ?_)
      | (with_reducible refine LeO.bind ?_ (fun _ => ?_))
      | exact ih0 _ _ _ _ _ _
      | exact ih1 _ _ _ _ _ _ _ _
      | exact ih2 _ _ _ _ _ _ _ _ _
      | exact impl_isTriangle.mono _ _
      | exact impl_turnedPairs.mono _ _
      | exact LeO.none _
      | refine LeO.ite ?_ ?_
      | refine LeO.bind ?_ (fun _ => ?_)
    · intro y0 y1 y2 y3 y4 y5 y6 y7
      unfold impl_AtOnce.l0
      repeat' first
      | (with_reducible exact ih0 _ _ _ _ _ _)
      | (with_reducible exact ih1 _ _ _ _ _ _ _ _)
      | (with_reducible exact ih2 _ _ _ _ _ _ _ _ _)
      | (with_reducible exact impl_isTriangle.mono _ _)
      | (with_reducible exact impl_turnedPairs.mono _ _)
      | (with_reducible exact LeO.refl _)
      | (with_reducible exact LeO.none _)
      | (with_reducible refine LeO.ite ?_ ?_)
      | (with_reducible refine LeO.bind ?_ (fun _ => ?_))
      | exact ih0 _ _ _ _ _ _
      | exact ih1 _ _ _ _ _ _ _ _
      | exact ih2 _ _ _ _ _ _ _ _ _
      | exact impl_isTriangle.mono _ _
      | exact impl_turnedPairs.mono _ _
      | exact LeO.none _
      | refine LeO.ite ?_ ?_
      | refine LeO.bind ?_ (fun _ => ?_)
    · intro y0 y1 y2 y3 y4 y5 y6 y7 y8
      unfold impl_AtOnce.j2
      repeat' first
      | (with_reducible exact ih0 _ _ _ _ _ _)
      | (with_reducible exact ih1 _ _ _ _ _ _ _ _)
      | (with_reducible exact ih2 _ _ _ _ _ _ _ _ _)
      | (with_reducible exact impl_isTriangle.mono _ _)
      | (with_reducible exact impl_turnedPairs.mono _ _)
      | (with_reducible exact LeO.refl _)
      | (with_reducible exact LeO.none _)
      | (with_reducible refine LeO.ite ?_ ?_)
      | (with_reducible refine LeO.bind ?_ (fun _ => ?_))
      | exact ih0 _ _ _ _ _ _
      | exact ih1 _ _ _ _ _ _ _ _
      | exact ih2 _ _ _ _ _ _ _ _ _
      | exact impl_isTriangle.mono _ _
      | exact impl_turnedPairs.mono _ _
      | exact LeO.none _
      | refine LeO.ite ?_ ?_
      | refine LeO.bind ?_ (fun _ => ?_)
theorem impl_AtOnce.mono : ∀ a0 a1 a2 a3 a4 k, LeO (impl_AtOnce.f k a0 a1 a2 a3 a4) (impl_AtOnce.f (k + 1) a0 a1 a2 a3 a4) := by
  intro a0 a1 a2 a3 a4 k
  obtain ⟨ih0, ih1, ih2⟩ := impl_AtOnce.mono_l k
  unfold impl_AtOnce.f
  repeat' first
      | (with_reducible exact ih0 _ _ _ _ _ _)
      | (with_reducible exact ih1 _ _ _ _ _ _ _ _)
      | (with_reducible exact ih2 _ _ _ _ _ _ _ _ _)
      | (with_reducible exact impl_isTriangle.mono _ _)
      | (with_reducible exact impl_turnedPairs.mono _ _)
      | (with_reducible exact LeO.refl _)
      | (with_reducible exact LeO.none _)
      | (with_reducible refine LeO.ite ?_ ?_)
      | (with_reducible refine LeO.bind ?_ (fun _ => ?_))
      | exact ih0 _ _ _ _ _ _
      | exact ih1 _ _ _ _ _ _ _ _
      | exact ih2 _ _ _ _ _ _ _ _ _
      | exact impl_isTriangle.mono _ _
      | exact impl_turnedPairs.mono _ _
      | exact LeO.none _
      | refine LeO.ite ?_ ?_
      | refine LeO.bind ?_ (fun _ => ?_)
set_option maxHeartbeats 8000000 in
set_option maxRecDepth 100000 in
theorem impl_AtOnce.calls (k : Nat) (A0 : Option Addr) (c0 : Nat) (l0 : List Int) (a1 : Int) (A2 : Option Addr) (c2 : Nat) (l2 : List Int) (a3 : Int) (a4 : Int) (r : Bool) (w : World) (hr0 : Kd.C (Kd.int .i64) w A0 l0.length l0) (hc0 : l0.length ≤ c0) (hr2 : Kd.C (Kd.int .i64) w A2 l2.length l2) (hc2 : l2.length ≤ c2) (h : impl_AtOnce.f k l0 a1 l2 a3 a4 = some r) :
    Calls Try.prog 36 #[.slice A0 l0.length c0, .int .i64 a1, .slice A2 l2.length c2, .int .i64 a3, .int .i64 a4] w fun e w' => e = .returned (.bool r) ∧ Drawn0 w w' := by
  have HR0 := Aside0.mk hr0
  have HC0 := Aside0.mk hc0
  clear hr0 hc0
  have HR2 := Aside0.mk hr2
  have HC2 := Aside0.mk hc2
  clear hr2 hc2
  have H : ((impl_isTriangle.f k l0).bind fun t201 => (if t201 = true then ((impl_isTriangle.f k l2).bind fun t202 => (if t202 = true then ((impl_arePairs.f a4 a1 a3).bind fun t203 => (impl_AtOnce.j0 k l0 a1 l2 a3 a4 (!t203))) else (impl_AtOnce.j0 k l0 a1 l2 a3 a4 true))) else (impl_AtOnce.j0 k l0 a1 l2 a3 a4 true))) = some r := h
  clear h
  have HC6 := Aside0.mk H
  clear H
  go_enter Try.func36, Try.ntmps36
  go_upto_region 1 with (fail)
  go_cut [28] (fun v28 wc => ∃ (kq : Nat) (x28_5 : Bool), v28 = .bool x28_5 ∧ Aside0 (impl_AtOnce.j0 kq l0 a1 l2 a3 a4 x28_5 = some r) ∧ Aside0 (kq ≤ k) ∧ Drawn0 w wc)
  case first =>
    have H := HC6.out
    clear HC6
    replace H := Option.bind_eq_some_iff.mp H
    obtain ⟨t201, A70, H⟩ := H
    replace H : (if t201 = true then ((impl_isTriangle.f k l2).bind fun t202 => (if t202 = true then ((impl_arePairs.f a4 a1 a3).bind fun t203 => (impl_AtOnce.j0 k l0 a1 l2 a3 a4 (!t203))) else (impl_AtOnce.j0 k l0 a1 l2 a3 a4 true))) else (impl_AtOnce.j0 k l0 a1 l2 a3 a4 true)) = some r := H
    have A7 := Aside0.mk A70
    clear A70
    by_cases c8 : t201 = true
    · subst c8
      have H1 : ((impl_isTriangle.f k l2).bind fun t202 => (if t202 = true then ((impl_arePairs.f a4 a1 a3).bind fun t203 => (impl_AtOnce.j0 k l0 a1 l2 a3 a4 (!t203))) else (impl_AtOnce.j0 k l0 a1 l2 a3 a4 true))) = some r := by rw [if_pos rfl] at H; exact H
      clear H
      have H := H1
      clear H1
      replace H := Option.bind_eq_some_iff.mp H
      obtain ⟨t202, A90, H⟩ := H
      replace H : (if t202 = true then ((impl_arePairs.f a4 a1 a3).bind fun t203 => (impl_AtOnce.j0 k l0 a1 l2 a3 a4 (!t203))) else (impl_AtOnce.j0 k l0 a1 l2 a3 a4 true)) = some r := H
      have A9 := Aside0.mk A90
      clear A90
      by_cases c10 : t202 = true
      · subst c10
        have H1 : ((impl_arePairs.f a4 a1 a3).bind fun t203 => (impl_AtOnce.j0 k l0 a1 l2 a3 a4 (!t203))) = some r := by rw [if_pos rfl] at H; exact H
        clear H
        have H := H1
        clear H1
        replace H := Option.bind_eq_some_iff.mp H
        obtain ⟨t203, A110, H⟩ := H
        replace H : (impl_AtOnce.j0 k l0 a1 l2 a3 a4 (!t203)) = some r := H
        have A11 := Aside0.mk A110
        clear A110
        have H' := Aside0.mk H
        clear H
        go_wp2_with (first | ((with_reducible refine gate_callee (f := 56) rfl ?_); refine goesL_ (some 15) rfl rfl Try.func56 (by kernel_rfl) rfl #[.slice A0 l0.length c0] rfl (by (try simp only [List.map_toArray, List.map_cons, List.map_nil]); first | done | rfl | (simp only [List.length_drop, List.length_take]; rfl)) ?_; (with_reducible refine (impl_isTriangle.calls k _ _ l0 true _ ?side1 ?side2 A7.out).mono ?_); (case side1 => repeat (first | exact HR0.out | (with_reducible refine Kd.C_alloc ?_ _) | (with_reducible refine Kd.C_drewN ?_ _) | (with_reducible refine Kd.C_drew ?_))); (case side2 => exact HC0.out); rintro e w' ⟨rfl, ⟨nd, rfl⟩⟩; refine ⟨_, rfl, ?_⟩) | (go_at_call 56; (with_reducible refine (impl_isTriangle.calls k _ _ l2 true _ ?side1 ?side2 A9.out).mono ?_); (case side1 => repeat (first | exact HR2.out | (with_reducible refine Kd.C_alloc ?_ _) | (with_reducible refine Kd.C_drewN ?_ _) | (with_reducible refine Kd.C_drew ?_))); (case side2 => exact HC2.out); rintro e w' ⟨rfl, ⟨nd, rfl⟩⟩) | (go_at_call 46; (with_reducible refine (impl_arePairs.calls a4 a1 a3 t203 _ A11.out).mono ?_); rintro e w' ⟨rfl, ⟨nd, rfl⟩⟩))
        go_meet
        case rel => exact ⟨_, (!t203), (by first | rfl | (simp; done) | (simp [*]; done)), H', ⟨by first | omega | exact Nat.le_refl _⟩, by repeat (first | exact Drawn0.refl _ | apply Drawn0.step)⟩
      · replace c10 := Bool.eq_false_iff.mpr c10
        subst c10
        have H1 : (impl_AtOnce.j0 k l0 a1 l2 a3 a4 true) = some r := by rw [if_neg (show ¬ (false = true) by decide)] at H; exact H
        clear H
        have H := H1
        clear H1
        have H' := Aside0.mk H
        clear H
        go_wp2_with (first | ((with_reducible refine gate_callee (f := 56) rfl ?_); refine goesL_ (some 15) rfl rfl Try.func56 (by kernel_rfl) rfl #[.slice A0 l0.length c0] rfl (by (try simp only [List.map_toArray, List.map_cons, List.map_nil]); first | done | rfl | (simp only [List.length_drop, List.length_take]; rfl)) ?_; (with_reducible refine (impl_isTriangle.calls k _ _ l0 true _ ?side1 ?side2 A7.out).mono ?_); (case side1 => repeat (first | exact HR0.out | (with_reducible refine Kd.C_alloc ?_ _) | (with_reducible refine Kd.C_drewN ?_ _) | (with_reducible refine Kd.C_drew ?_))); (case side2 => exact HC0.out); rintro e w' ⟨rfl, ⟨nd, rfl⟩⟩; refine ⟨_, rfl, ?_⟩) | (go_at_call 56; (with_reducible refine (impl_isTriangle.calls k _ _ l2 false _ ?side1 ?side2 A9.out).mono ?_); (case side1 => repeat (first | exact HR2.out | (with_reducible refine Kd.C_alloc ?_ _) | (with_reducible refine Kd.C_drewN ?_ _) | (with_reducible refine Kd.C_drew ?_))); (case side2 => exact HC2.out); rintro e w' ⟨rfl, ⟨nd, rfl⟩⟩))
        go_meet
        case rel => exact ⟨_, (true), (by first | rfl | (simp; done) | (simp [*]; done)), H', ⟨by first | omega | exact Nat.le_refl _⟩, by repeat (first | exact Drawn0.refl _ | apply Drawn0.step)⟩
    · replace c8 := Bool.eq_false_iff.mpr c8
      subst c8
      have H1 : (impl_AtOnce.j0 k l0 a1 l2 a3 a4 true) = some r := by rw [if_neg (show ¬ (false = true) by decide)] at H; exact H
      clear H
      have H := H1
      clear H1
      have H' := Aside0.mk H
      clear H
      go_wp2_with (first | ((with_reducible refine gate_callee (f := 56) rfl ?_); refine goesL_ (some 15) rfl rfl Try.func56 (by kernel_rfl) rfl #[.slice A0 l0.length c0] rfl (by (try simp only [List.map_toArray, List.map_cons, List.map_nil]); first | done | rfl | (simp only [List.length_drop, List.length_take]; rfl)) ?_; (with_reducible refine (impl_isTriangle.calls k _ _ l0 false _ ?side1 ?side2 A7.out).mono ?_); (case side1 => repeat (first | exact HR0.out | (with_reducible refine Kd.C_alloc ?_ _) | (with_reducible refine Kd.C_drewN ?_ _) | (with_reducible refine Kd.C_drew ?_))); (case side2 => exact HC0.out); rintro e w' ⟨rfl, ⟨nd, rfl⟩⟩; refine ⟨_, rfl, ?_⟩))
      go_meet
      case rel => exact ⟨_, (true), (by first | rfl | (simp; done) | (simp [*]; done)), H', ⟨by first | omega | exact Nat.le_refl _⟩, by repeat (first | exact Drawn0.refl _ | apply Drawn0.step)⟩
  case rest =>
    clear HC6
    try clear c1
    try clear c2
    try clear p2
    try clear c3
    try clear c5
    try clear c8
    try clear c10
    obtain ⟨kq, x28_5, rfl, HA, HJ5, ⟨mc5, rfl⟩⟩ := hcut
    cases kq with
    | zero => exact absurd HA.out (by simp [impl_AtOnce.j0])
    | succ kj5 =>
      have H := HA.out
      clear HA
      simp only [impl_AtOnce.j0] at H
      by_cases c12 : x28_5 = true
      · subst c12
        have H1 : (some false) = some r := by rw [if_pos rfl] at H; exact H
        clear H
        have H := H1
        clear H1
        obtain rfl := Option.some.inj H
        go_wp2
        go_ret
        exact ⟨by first | rfl | (simp; done) | (simp [*]; done), by repeat (first | exact Drawn0.refl _ | apply Drawn0.step)⟩
      · replace c12 := Bool.eq_false_iff.mpr c12
        subst c12
        have H1 : (impl_AtOnce.l0 kj5 l0 a1 l2 a3 a4 0 0 0) = some r := by rw [if_neg (show ¬ (false = true) by decide)] at H; exact H
        clear H
        have H := H1
        clear H1
        have H' := Aside0.mk H
        clear H
        go_wp2
        go_loopg [11, 12, 29] kj5 (fun kq v11 v12 v29 w' => ∃ (x11_2 : Int) (x12_2 : Int) (x29_2 : Int), v11 = .int .i64 x11_2 ∧ v12 = .int .i64 x12_2 ∧ v29 = .int .i64 x29_2 ∧ Aside0 (impl_AtOnce.l0 kq l0 a1 l2 a3 a4 x11_2 x12_2 x29_2 = some r) ∧ Aside0 (kq ≤ kj5) ∧ Drawn0 w w')
        case atStart => exact ⟨(0), (0), (0), (by first | rfl | (simp; done) | (simp [*]; done)), (by first | rfl | (simp; done) | (simp [*]; done)), (by first | rfl | (simp; done) | (simp [*]; done)), H', ⟨Nat.le_refl _⟩, by repeat (first | exact Drawn0.refl _ | apply Drawn0.step)⟩
        case round =>
          clear H'
          try clear c1
          try clear c2
          try clear p2
          try clear c3
          try clear c5
          try clear c8
          try clear c10
          try clear c12
          try clear p2
          obtain ⟨x11_2, x12_2, x29_2, rfl, rfl, rfl, HA, HK2, ⟨m2, rfl⟩⟩ := hrel
          cases gk with
          | zero => exact absurd HA.out (by simp [impl_AtOnce.l0])
          | succ k2 =>
            have H := HA.out
            clear HA
            simp only [impl_AtOnce.l0] at H
            by_cases c13 : x29_2 < 3
            · rw [if_pos c13] at H
              have c13b0 : decide (x29_2 < 3) = true := decide_eq_true c13
              clear c13
              replace H := Option.bind_eq_some_iff.mp H
              obtain ⟨t204, A140, H⟩ := H
              replace H : (if (Go.bits .and .i64 t204 a3) = 0 then (impl_AtOnce.j2 k2 l0 a1 l2 a3 a4 x11_2 x12_2 x29_2 x29_2) else (if 0 ≤ x29_2 then (impl_AtOnce.j2 k2 l0 a1 l2 a3 a4 (Go.bits .or .i64 x11_2 (shl .i64 1 x29_2)) x12_2 x29_2 x29_2) else (none))) = some r := H
              have A14 := Aside0.mk A140
              clear A140
              have HC15 := Aside0.mk H
              clear H
              go_upto_if 37 with (first | ((with_reducible refine gate_callee (f := 49) rfl ?_); refine goesL_ (some 34) rfl rfl Try.func49 (by kernel_rfl) rfl #[.int .i64 a4, .int .i64 x29_2] rfl (by (try simp only [List.map_toArray, List.map_cons, List.map_nil]); first | done | rfl | (simp only [List.length_drop, List.length_take]; rfl)) ?_; (with_reducible refine (impl_relatedTo.calls a4 x29_2 t204 _ A14.out).mono ?_); rintro e w' ⟨rfl, ⟨nd, rfl⟩⟩; refine ⟨_, rfl, ?_⟩))
              (try simp only [Act.put, List.setIfInBounds_toArray, List.set_cons_zero, List.set_cons_succ])
              go_cut [11] (fun v11 wc => ∃ (kq : Nat) (x11_14 : Int), v11 = .int .i64 x11_14 ∧ Aside0 (impl_AtOnce.j2 kq l0 a1 l2 a3 a4 x11_14 x12_2 x29_2 x29_2 = some r) ∧ Aside0 (kq ≤ k2) ∧ Drawn0 w wc)
              case first =>
                have H := HC15.out
                clear HC15
                by_cases c16 : (Go.bits .and .i64 t204 a3) = 0
                · rw [if_pos c16] at H
                  have c16b0 : ((Go.bits .and .i64 t204 a3) == 0) = true := beq_iff_eq.mpr c16
                  have c16b1 : ((Go.bits .and .i64 t204 a3) != 0) = false := bne_eq_false_iff_eq.mpr c16
                  clear c16
                  (first | rw [c16b0] | (simp only [i64_w, i32_w]; rw [c16b0]) | skip)
                  have H' := Aside0.mk H
                  clear H
                  go_wp2
                  go_meet
                  case rel => exact ⟨_, (x11_2), (by first | rfl | (simp; done) | (simp [*]; done)), H', ⟨by have := HJ5.out; have := HK2.out; first | omega | exact Nat.le_refl _⟩, by repeat (first | exact Drawn0.refl _ | apply Drawn0.step)⟩
                · rw [if_neg c16] at H
                  have c16b0 : ((Go.bits .and .i64 t204 a3) == 0) = false := beq_eq_false_iff_ne.mpr c16
                  have c16b1 : ((Go.bits .and .i64 t204 a3) != 0) = true := bne_iff_ne.mpr c16
                  (first | rw [c16b0] | (simp only [i64_w, i32_w]; rw [c16b0]) | skip)
                  by_cases c17 : 0 ≤ x29_2
                  · rw [if_pos c17] at H
                    have c17b0 := eq_true c17
                    have c17b1 : decide (0 ≤ x29_2) = true := decide_eq_true c17
                    clear c17
                    obtain ⟨ji18, hji18⟩ : ∃ j_ : Int, (shl .i64 1 x29_2) = j_ := ⟨_, rfl⟩
                    replace H : (impl_AtOnce.j2 k2 l0 a1 l2 a3 a4 (Go.bits .or .i64 x11_2 (ji18)) x12_2 x29_2 x29_2) = some r := by first | (rw [hji18] at H; exact H) | (simp only [hji18] at H ⊢; exact H)
                    have hji18_ : (IntKind.i64.wrap (1 * 2 ^ min x29_2.toNat 64)) = ji18 := hji18
                    have hji18z : x29_2 ≤ 64 → (IntKind.i64.wrap (1 * 2 ^ x29_2.toNat)) = ji18 := shl_small hji18
                    have hji18u : (IntKind.i64.wrap (2 ^ min x29_2.toNat 64)) = ji18 := by have h_ := hji18_; rw [Int.one_mul] at h_; exact h_
                    have hji18v : x29_2 ≤ 64 → (IntKind.i64.wrap (2 ^ x29_2.toNat)) = ji18 := fun hle_ => by have h_ := hji18z hle_; rw [Int.one_mul] at h_; exact h_
                    have hji18y : (wrap64 (1 * 2 ^ min x29_2.toNat 64)) = ji18 := (i64_w _).symm.trans hji18_
                    have hji18x : x29_2 ≤ 64 → (wrap64 (1 * 2 ^ x29_2.toNat)) = ji18 := fun h_ => (i64_w _).symm.trans (hji18z h_)
                    have H' := Aside0.mk H
                    clear H
                    go_wp2
                    go_meet
                    case rel => exact ⟨_, (Go.bits .or .i64 x11_2 (ji18)), (by first | rfl | (simp; done) | (simp only [← hji18] <;> (first | rfl | simp)) | (simp [*]; done)), H', ⟨by have := HJ5.out; have := HK2.out; first | omega | exact Nat.le_refl _⟩, by repeat (first | exact Drawn0.refl _ | apply Drawn0.step)⟩
                  · rw [if_neg c17] at H
                    exact absurd H (by simp)
              case rest =>
                clear HC15
                try clear c1
                try clear c2
                try clear p2
                try clear c3
                try clear c4
                try clear c5
                try clear p6
                try clear c8
                try clear c10
                try clear c12
                try clear c13
                try clear c13b0
                try clear c16
                try clear c16b0
                try clear c16b1
                try clear c17
                try clear c17b0
                try clear c17b1
                try clear p2
                obtain ⟨kq, x11_14, rfl, HA, HJ14, ⟨mc14, rfl⟩⟩ := hcut
                cases kq with
                | zero => exact absurd HA.out (by simp [impl_AtOnce.j2])
                | succ kj14 =>
                  have H := HA.out
                  clear HA
                  simp only [impl_AtOnce.j2] at H
                  replace H := Option.bind_eq_some_iff.mp H
                  obtain ⟨t205, A190, H⟩ := H
                  replace H : ((impl_relatedTo.f t205 x29_2).bind fun t206 => (if (Go.bits .and .i64 t206 a1) = 0 then (impl_AtOnce.l0 kj14 l0 a1 l2 a3 a4 x11_14 x12_2 (wrap64 (x29_2 + 1))) else (if 0 ≤ x29_2 then (impl_AtOnce.l0 kj14 l0 a1 l2 a3 a4 x11_14 (Go.bits .or .i64 x12_2 (shl .i64 1 x29_2)) (wrap64 (x29_2 + 1))) else (none)))) = some r := H
                  have A19 := Aside0.mk A190
                  clear A190
                  replace H := Option.bind_eq_some_iff.mp H
                  obtain ⟨t206, A200, H⟩ := H
                  replace H : (if (Go.bits .and .i64 t206 a1) = 0 then (impl_AtOnce.l0 kj14 l0 a1 l2 a3 a4 x11_14 x12_2 (wrap64 (x29_2 + 1))) else (if 0 ≤ x29_2 then (impl_AtOnce.l0 kj14 l0 a1 l2 a3 a4 x11_14 (Go.bits .or .i64 x12_2 (shl .i64 1 x29_2)) (wrap64 (x29_2 + 1))) else (none))) = some r := H
                  have A20 := Aside0.mk A200
                  clear A200
                  by_cases c21 : (Go.bits .and .i64 t206 a1) = 0
                  · rw [if_pos c21] at H
                    have c21b0 : ((Go.bits .and .i64 t206 a1) == 0) = true := beq_iff_eq.mpr c21
                    have c21b1 : ((Go.bits .and .i64 t206 a1) != 0) = false := bne_eq_false_iff_eq.mpr c21
                    clear c21
                    have H' := Aside0.mk H
                    clear H
                    go_wp2_with (first | ((with_reducible refine gate_callee (f := 48) rfl ?_); refine goesL_ (some 43) rfl rfl Try.func48 (by kernel_rfl) rfl #[.int .i64 a4] rfl (by (try simp only [List.map_toArray, List.map_cons, List.map_nil]); first | done | rfl | (simp only [List.length_drop, List.length_take]; rfl)) ?_; (with_reducible refine (impl_turnedPairs.calls kj14 a4 t205 _ A19.out).mono ?_); rintro e w' ⟨rfl, ⟨nd, rfl⟩⟩; refine ⟨_, rfl, ?_⟩) | ((with_reducible refine gate_callee (f := 49) rfl ?_); refine goesL_ (some 45) rfl rfl Try.func49 (by kernel_rfl) rfl #[.int .i64 t205, .int .i64 x29_2] rfl (by (try simp only [List.map_toArray, List.map_cons, List.map_nil]); first | done | rfl | (simp only [List.length_drop, List.length_take]; rfl)) ?_; (with_reducible refine (impl_relatedTo.calls t205 x29_2 t206 _ A20.out).mono ?_); rintro e w' ⟨rfl, ⟨nd, rfl⟩⟩; refine ⟨_, rfl, ?_⟩))
                    go_roundg kj14
                    case measure => have := HJ5.out; have := HK2.out; have := HJ14.out; omega
                    case rel => exact ⟨(x11_14), (x12_2), (wrap64 (x29_2 + 1)), (by first | rfl | (simp; done) | (simp [*]; done)), (by first | rfl | (simp; done) | (simp [*]; done)), (by first | rfl | (simp; done) | (simp [*]; done)), H', ⟨by have := HJ5.out; have := HK2.out; have := HJ14.out; omega⟩, by repeat (first | exact Drawn0.refl _ | apply Drawn0.step)⟩
                  · rw [if_neg c21] at H
                    have c21b0 : ((Go.bits .and .i64 t206 a1) == 0) = false := beq_eq_false_iff_ne.mpr c21
                    have c21b1 : ((Go.bits .and .i64 t206 a1) != 0) = true := bne_iff_ne.mpr c21
                    by_cases c22 : 0 ≤ x29_2
                    · rw [if_pos c22] at H
                      have c22b0 := eq_true c22
                      have c22b1 : decide (0 ≤ x29_2) = true := decide_eq_true c22
                      clear c22
                      obtain ⟨ji23, hji23⟩ : ∃ j_ : Int, (shl .i64 1 x29_2) = j_ := ⟨_, rfl⟩
                      replace H : (impl_AtOnce.l0 kj14 l0 a1 l2 a3 a4 x11_14 (Go.bits .or .i64 x12_2 (ji23)) (wrap64 (x29_2 + 1))) = some r := by first | (rw [hji23] at H; exact H) | (simp only [hji23] at H ⊢; exact H)
                      (try rw [hji23] at A19)
                      (try rw [hji23] at A20)
                      have hji23_ : (IntKind.i64.wrap (1 * 2 ^ min x29_2.toNat 64)) = ji23 := hji23
                      have hji23z : x29_2 ≤ 64 → (IntKind.i64.wrap (1 * 2 ^ x29_2.toNat)) = ji23 := shl_small hji23
                      have hji23u : (IntKind.i64.wrap (2 ^ min x29_2.toNat 64)) = ji23 := by have h_ := hji23_; rw [Int.one_mul] at h_; exact h_
                      have hji23v : x29_2 ≤ 64 → (IntKind.i64.wrap (2 ^ x29_2.toNat)) = ji23 := fun hle_ => by have h_ := hji23z hle_; rw [Int.one_mul] at h_; exact h_
                      have hji23y : (wrap64 (1 * 2 ^ min x29_2.toNat 64)) = ji23 := (i64_w _).symm.trans hji23_
                      have hji23x : x29_2 ≤ 64 → (wrap64 (1 * 2 ^ x29_2.toNat)) = ji23 := fun h_ => (i64_w _).symm.trans (hji23z h_)
                      have H' := Aside0.mk H
                      clear H
                      go_wp2_with (first | ((with_reducible refine gate_callee (f := 48) rfl ?_); refine goesL_ (some 43) rfl rfl Try.func48 (by kernel_rfl) rfl #[.int .i64 a4] rfl (by (try simp only [List.map_toArray, List.map_cons, List.map_nil]); first | done | rfl | (simp only [List.length_drop, List.length_take]; rfl)) ?_; (with_reducible refine (impl_turnedPairs.calls kj14 a4 t205 _ A19.out).mono ?_); rintro e w' ⟨rfl, ⟨nd, rfl⟩⟩; refine ⟨_, rfl, ?_⟩) | ((with_reducible refine gate_callee (f := 49) rfl ?_); refine goesL_ (some 45) rfl rfl Try.func49 (by kernel_rfl) rfl #[.int .i64 t205, .int .i64 x29_2] rfl (by (try simp only [List.map_toArray, List.map_cons, List.map_nil]); first | done | rfl | (simp only [List.length_drop, List.length_take]; rfl)) ?_; (with_reducible refine (impl_relatedTo.calls t205 x29_2 t206 _ A20.out).mono ?_); rintro e w' ⟨rfl, ⟨nd, rfl⟩⟩; refine ⟨_, rfl, ?_⟩))
                      go_roundg kj14
                      case measure => have := HJ5.out; have := HK2.out; have := HJ14.out; omega
                      case rel => exact ⟨(x11_14), (Go.bits .or .i64 x12_2 (ji23)), (wrap64 (x29_2 + 1)), (by first | rfl | (simp; done) | (simp [*]; done)), (by first | rfl | (simp; done) | (simp only [← hji23] <;> (first | rfl | simp)) | (simp [*]; done)), (by first | rfl | (simp; done) | (simp [*]; done)), H', ⟨by have := HJ5.out; have := HK2.out; have := HJ14.out; omega⟩, by repeat (first | exact Drawn0.refl _ | apply Drawn0.step)⟩
                    · rw [if_neg c22] at H
                      exact absurd H (by simp)
            · rw [if_neg c13] at H
              have c13b0 : decide (x29_2 < 3) = false := decide_eq_false c13
              clear c13
              replace H := Option.bind_eq_some_iff.mp H
              obtain ⟨t207, A240, H⟩ := H
              replace H : ((impl_sizeOf.f (Go.bits .and .i64 a1 x11_2)).bind fun t208 => ((impl_holds.f l0 t207 t208).bind fun t209 => (if t209 = true then ((impl_sizeOf.f a3).bind fun t210 => ((impl_sizeOf.f (Go.bits .and .i64 a3 x12_2)).bind fun t211 => ((impl_holds.f l2 t210 t211).bind fun t212 => (some t212)))) else (some false)))) = some r := H
              have A24 := Aside0.mk A240
              clear A240
              replace H := Option.bind_eq_some_iff.mp H
              obtain ⟨t208, A250, H⟩ := H
              replace H : ((impl_holds.f l0 t207 t208).bind fun t209 => (if t209 = true then ((impl_sizeOf.f a3).bind fun t210 => ((impl_sizeOf.f (Go.bits .and .i64 a3 x12_2)).bind fun t211 => ((impl_holds.f l2 t210 t211).bind fun t212 => (some t212)))) else (some false))) = some r := H
              have A25 := Aside0.mk A250
              clear A250
              replace H := Option.bind_eq_some_iff.mp H
              obtain ⟨t209, A260, H⟩ := H
              replace H : (if t209 = true then ((impl_sizeOf.f a3).bind fun t210 => ((impl_sizeOf.f (Go.bits .and .i64 a3 x12_2)).bind fun t211 => ((impl_holds.f l2 t210 t211).bind fun t212 => (some t212)))) else (some false)) = some r := H
              have A26 := Aside0.mk A260
              clear A260
              by_cases c27 : t209 = true
              · subst c27
                have H1 : ((impl_sizeOf.f a3).bind fun t210 => ((impl_sizeOf.f (Go.bits .and .i64 a3 x12_2)).bind fun t211 => ((impl_holds.f l2 t210 t211).bind fun t212 => (some t212)))) = some r := by rw [if_pos rfl] at H; exact H
                clear H
                have H := H1
                clear H1
                replace H := Option.bind_eq_some_iff.mp H
                obtain ⟨t210, A280, H⟩ := H
                replace H : ((impl_sizeOf.f (Go.bits .and .i64 a3 x12_2)).bind fun t211 => ((impl_holds.f l2 t210 t211).bind fun t212 => (some t212))) = some r := H
                have A28 := Aside0.mk A280
                clear A280
                replace H := Option.bind_eq_some_iff.mp H
                obtain ⟨t211, A290, H⟩ := H
                replace H : ((impl_holds.f l2 t210 t211).bind fun t212 => (some t212)) = some r := H
                have A29 := Aside0.mk A290
                clear A290
                replace H := Option.bind_eq_some_iff.mp H
                obtain ⟨t212, A300, H⟩ := H
                replace H : (some t212) = some r := H
                have A30 := Aside0.mk A300
                clear A300
                obtain rfl := Option.some.inj H
                go_wp2_with (first | ((with_reducible refine gate_callee (f := 61) rfl ?_); refine goesL_ (some 56) rfl rfl Try.func61 (by kernel_rfl) rfl #[.int .i64 a1] rfl (by (try simp only [List.map_toArray, List.map_cons, List.map_nil]); first | done | rfl | (simp only [List.length_drop, List.length_take]; rfl)) ?_; (with_reducible refine (impl_sizeOf.calls a1 t207 _ A24.out).mono ?_); rintro e w' ⟨rfl, ⟨nd, rfl⟩⟩; refine ⟨_, rfl, ?_⟩) | ((with_reducible refine gate_callee (f := 61) rfl ?_); refine goesL_ (some 60) rfl rfl Try.func61 (by kernel_rfl) rfl #[.int .i64 (Go.bits .and .i64 a1 x11_2)] rfl (by (try simp only [List.map_toArray, List.map_cons, List.map_nil]); first | done | rfl | (simp only [List.length_drop, List.length_take]; rfl)) ?_; (with_reducible refine (impl_sizeOf.calls (Go.bits .and .i64 a1 x11_2) t208 _ A25.out).mono ?_); rintro e w' ⟨rfl, ⟨nd, rfl⟩⟩; refine ⟨_, rfl, ?_⟩) | ((with_reducible refine gate_callee (f := 60) rfl ?_); refine goesL_ (some 61) rfl rfl Try.func60 (by kernel_rfl) rfl #[.slice A0 l0.length c0, .int .i64 t207, .int .i64 t208] rfl (by (try simp only [List.map_toArray, List.map_cons, List.map_nil]); first | done | rfl | (simp only [List.length_drop, List.length_take]; rfl)) ?_; (with_reducible refine (impl_holds.calls _ _ l0 t207 t208 true _ ?side1 ?side2 A26.out).mono ?_); (case side1 => repeat (first | exact HR0.out | (with_reducible refine Kd.C_alloc ?_ _) | (with_reducible refine Kd.C_drewN ?_ _) | (with_reducible refine Kd.C_drew ?_))); (case side2 => exact HC0.out); rintro e w' ⟨rfl, ⟨nd, rfl⟩⟩; refine ⟨_, rfl, ?_⟩) | (go_at_call 61; (with_reducible refine (impl_sizeOf.calls a3 t210 _ A28.out).mono ?_); rintro e w' ⟨rfl, ⟨nd, rfl⟩⟩) | (go_at_call 61; (with_reducible refine (impl_sizeOf.calls (Go.bits .and .i64 a3 x12_2) t211 _ A29.out).mono ?_); rintro e w' ⟨rfl, ⟨nd, rfl⟩⟩) | (go_at_call 60; (with_reducible refine (impl_holds.calls _ _ l2 t210 t211 t212 _ ?side1 ?side2 A30.out).mono ?_); (case side1 => repeat (first | exact HR2.out | (with_reducible refine Kd.C_alloc ?_ _) | (with_reducible refine Kd.C_drewN ?_ _) | (with_reducible refine Kd.C_drew ?_))); (case side2 => exact HC2.out); rintro e w' ⟨rfl, ⟨nd, rfl⟩⟩))
                go_ret
                exact ⟨by first | rfl | (simp; done) | (simp [*]; done), by repeat (first | exact Drawn0.refl _ | apply Drawn0.step)⟩
              · replace c27 := Bool.eq_false_iff.mpr c27
                subst c27
                have H1 : (some false) = some r := by rw [if_neg (show ¬ (false = true) by decide)] at H; exact H
                clear H
                have H := H1
                clear H1
                obtain rfl := Option.some.inj H
                go_wp2_with (first | ((with_reducible refine gate_callee (f := 61) rfl ?_); refine goesL_ (some 56) rfl rfl Try.func61 (by kernel_rfl) rfl #[.int .i64 a1] rfl (by (try simp only [List.map_toArray, List.map_cons, List.map_nil]); first | done | rfl | (simp only [List.length_drop, List.length_take]; rfl)) ?_; (with_reducible refine (impl_sizeOf.calls a1 t207 _ A24.out).mono ?_); rintro e w' ⟨rfl, ⟨nd, rfl⟩⟩; refine ⟨_, rfl, ?_⟩) | ((with_reducible refine gate_callee (f := 61) rfl ?_); refine goesL_ (some 60) rfl rfl Try.func61 (by kernel_rfl) rfl #[.int .i64 (Go.bits .and .i64 a1 x11_2)] rfl (by (try simp only [List.map_toArray, List.map_cons, List.map_nil]); first | done | rfl | (simp only [List.length_drop, List.length_take]; rfl)) ?_; (with_reducible refine (impl_sizeOf.calls (Go.bits .and .i64 a1 x11_2) t208 _ A25.out).mono ?_); rintro e w' ⟨rfl, ⟨nd, rfl⟩⟩; refine ⟨_, rfl, ?_⟩) | ((with_reducible refine gate_callee (f := 60) rfl ?_); refine goesL_ (some 61) rfl rfl Try.func60 (by kernel_rfl) rfl #[.slice A0 l0.length c0, .int .i64 t207, .int .i64 t208] rfl (by (try simp only [List.map_toArray, List.map_cons, List.map_nil]); first | done | rfl | (simp only [List.length_drop, List.length_take]; rfl)) ?_; (with_reducible refine (impl_holds.calls _ _ l0 t207 t208 false _ ?side1 ?side2 A26.out).mono ?_); (case side1 => repeat (first | exact HR0.out | (with_reducible refine Kd.C_alloc ?_ _) | (with_reducible refine Kd.C_drewN ?_ _) | (with_reducible refine Kd.C_drew ?_))); (case side2 => exact HC0.out); rintro e w' ⟨rfl, ⟨nd, rfl⟩⟩; refine ⟨_, rfl, ?_⟩))
                go_ret
                exact ⟨by first | rfl | (simp; done) | (simp [*]; done), by repeat (first | exact Drawn0.refl _ | apply Drawn0.step)⟩

/-! ### impl_triangleBy: function 77 -/
def rowE (p : Nat → Nat → Bool) (a s : Nat) : List Int := (List.range s).map fun j => if p a j then 1 else 0
def triP (p : Nat → Nat → Bool) : Nat → List Int
  | 0 => []
  | a + 1 => triP p a ++ rowE p a (a + 1)
theorem rowE_succ (p : Nat → Nat → Bool) (a s : Nat) (b : Bool) (h : p a s = b) : rowE p a (s + 1) = rowE p a s ++ [if b then 1 else 0] := by
  unfold rowE; rw [List.range_succ, List.map_append, ← h]; rfl
theorem rowE_len (p : Nat → Nat → Bool) (a s : Nat) : (rowE p a s).length = s := by simp [rowE]
theorem triP_len (p : Nat → Nat → Bool) (a : Nat) (h : a ≤ 6) : (triP p a).length ≤ 21 := by
  rcases (show a = 0 ∨ a = 1 ∨ a = 2 ∨ a = 3 ∨ a = 4 ∨ a = 5 ∨ a = 6 by omega) with rfl | rfl | rfl | rfl | rfl | rfl | rfl <;> simp [triP, rowE]
def impl_triangleBy.M (p : Nat → Nat → Bool) : List Int := triP p 6
set_option maxHeartbeats 8000000 in
set_option maxRecDepth 100000 in
theorem impl_triangleBy.calls (c : Nat) (caps : Array Value) (p : Nat → Nat → Bool) (w : World) (hen : ∀ (args : Array Value) (wx : World), (callFunc c args).run Try.prog wx = .ok (.enter c args) wx)
    (hso : ∀ wx, Below w.heap.size w wx → ∀ a s : Nat, s ≤ a → a ≤ 5 → Calls Try.prog c (#[.int .i64 a, .int .i64 s] ++ caps) wx fun e w' => e = .returned (.bool (p a s)) ∧ Drawn0 wx w') :
    Calls Try.prog 77 #[.func (.func c) #[] caps] w fun e w' => ∃ v0_ : Value, e = .returned (v0_) ∧ Kd.R (Kd.int .i64) 3 w' w.heap.size (fun _ => True) v0_ (impl_triangleBy.M p) ∧ Below w.heap.size w w' := by
  have HB := Aside0.mk (Below.refl w.heap.size w)
  obtain ⟨y0, hy0⟩ : ∃ y_ : List Int, y_ = (([] : List Int)) := ⟨_, rfl⟩
  have Ny0 := Aside0.mk hy0
  clear hy0
  have HSO := Aside0.mk hso
  clear hso
  go_enter Try.func77, Try.ntmps77
  go_wp2_with (first | ((with_reducible refine gate_dst (N := 7) rfl ?_); refine Kd.R_lit (Kd.int .i64) _ 3 ?hg (N := 7) ?hd (xs := ([] : List Int)) (inner := []) (ok := fun _ => True) (okp := fun _ => True) ?hr ?hp (fun _ hk => hk) trivial (Below.refl _ _) (Nat.le_refl _) (by simp) ?_; (case hd => rfl); (case hg => rfl); (case hr => first | (go_simp; done) | (go_simp; rfl)); (case hp => exact (Reps.none _ _)); intro v1 w3 ho4 hb hg_ hnew_; clear hg_ hnew_; have n0_ := Aside0.mk (Kd.R_lower ho4 (below_size (by repeat (first | (with_reducible first | exact HB.out | apply below_alloc | apply pw_below_drewN | apply below_drew1) | exact HB.out)))); have n1_ := Aside0.mk (below_step (by repeat (first | (with_reducible first | exact HB.out | apply below_alloc | apply pw_below_drewN | apply below_drew1) | exact HB.out)) hb); clear HB; have HO1 := n0_; have HB := n1_; clear n0_ n1_; clear hb ho4))
  go_loopg [3, 8] 7 (fun kq v3 v8 w' => ∃ (a : Nat), v8 = .int .i64 a ∧ Aside0 (kq + a = 7 ∧ a ≤ 6) ∧ Aside0 (Kd.R (Kd.int .i64) 3 w' w.heap.size (fun _ => True) v3 (triP p a)) ∧ Aside0 (Below w.heap.size w w'))
  case atStart => exact ⟨0, rfl, ⟨by omega⟩, ⟨by (with_reducible repeat (first | apply Kd.R_alloc | apply Kd.R_drewN | apply Kd.R_drew)); exact HO1.out⟩, ⟨(by repeat (first | (with_reducible first | exact HB.out | apply below_alloc | apply pw_below_drewN | apply below_drew1) | exact HB.out))⟩⟩
  case round =>
    clear HB HO1
    try clear v1
    obtain ⟨a, rfl, HA, HO3, HB⟩ := hrel
    cases gk with
    | zero => exact absurd HA.out (by omega)
    | succ k1 =>
      by_cases c5 : a < 6
      · have c5b : decide ((a : Int) < 6) = true := by simp; omega
        have c5w : wrap64 ((a : Int) + 1) = (a : Int) + 1 := by unfold wrap64; omega
        have c5v : IntKind.i64.wrap ((a : Int) + 1) = (a : Int) + 1 := by rw [IntKind.wrap_i64]; omega
        have C5 := Aside0.mk c5
        clear c5
        go_wp2
        go_loopg [3, 13] (a + 2) (fun kq v3 v13 w' => ∃ (s : Nat), v13 = .int .i64 s ∧ Aside0 (kq + s = a + 2 ∧ s ≤ a + 1) ∧ Aside0 (Kd.R (Kd.int .i64) 3 w' w.heap.size (fun _ => True) v3 (triP p a ++ rowE p a s)) ∧ Aside0 (Below w.heap.size w w'))
        case atStart => exact ⟨0, rfl, ⟨by omega⟩, ⟨by (with_reducible repeat (first | apply Kd.R_alloc | apply Kd.R_drewN | apply Kd.R_drew)); have := HO3.out; simpa [rowE] using this⟩, ⟨(by repeat (first | (with_reducible first | exact HB.out | apply below_alloc | apply pw_below_drewN | apply below_drew1) | exact HB.out))⟩⟩
        case round =>
          clear HO3 HB
          obtain ⟨s, rfl, HA2, HO3, HB⟩ := hrel
          cases gk with
          | zero => exact absurd HA2.out (by omega)
          | succ k2 =>
            by_cases c6 : s < a + 1
            · have c6b : decide ((s : Int) < (a : Int) + 1) = true := by simp; omega
              have c6w : wrap64 ((s : Int) + 1) = (s : Int) + 1 := by have := C5.out; unfold wrap64; omega
              have LM := Aside0.mk (show (triP p a ++ rowE p a s).length < 17592186044416 by have := triP_len p a (by have := C5.out; omega); have := C5.out; rw [List.length_append, rowE_len]; omega)
              have HC := Aside0.mk (fun wx hx => HSO.out wx hx a s (by omega) (by have := C5.out; omega))
              cases hp : p a s
              · rw [hp] at HC
                go_wp2_with (first | ((with_reducible refine (HC.out _ (by repeat (first | (with_reducible first | exact HB.out | apply below_alloc | apply pw_below_drewN | apply below_drew1) | exact HB.out))).mono ?_); rintro e w' ⟨rfl, ⟨nd, rfl⟩⟩) | ((with_reducible refine gate_builtin (b := .append) (xs := #[.tmp 20, .tmp 22]) rfl ?_); at_builtin; refine Kd.R_append (Kd.int .i64) (w0 := w) w.heap.size rfl (.tmp 20) (.tmp 22) 32 3 (.int .i64 0) 8 rfl Try.underlying32 info3 rfl (by decide) (by omega) u3 (triP p a ++ rowE p a s) 0 [.int .i64 0] (fun _ => True) (fun _ => False) rfl rfl ?aP (fun _ hk => hk.elim) ?aF ?aO ?aB ?aS ?aL ?_; (case aP => exact rfl); (case aB => exact (by repeat (first | (with_reducible first | exact HB.out | apply below_alloc | apply pw_below_drewN | apply below_drew1) | exact HB.out))); (case aF => exact (fun _ _ => trivial)); (case aO => exact (by (with_reducible repeat (first | apply Kd.R_alloc | apply Kd.R_drewN | apply Kd.R_drew)); exact HO3.out)); (case aS => exact (below_size (by repeat (first | (with_reducible first | exact HB.out | apply below_alloc | apply pw_below_drewN | apply below_drew1) | exact HB.out)))); (case aL => have := LM.out; omega); intro v129 w10 ho hb hg hat; have n0_ := Aside0.mk (hb); have n1_ := Aside0.mk (ho); clear HB; clear HO3; have HB := n0_; have HO3 := n1_; clear n0_ n1_; clear ho hb hg hat))
                go_roundg k2
                case measure => omega
                case rel => exact ⟨s + 1, (by go_num), ⟨by have := HA2.out; omega⟩, ⟨by have := HO3.out; rw [rowE_succ p a s false hp, ← List.append_assoc]; exact this⟩, ⟨(by repeat (first | (with_reducible first | exact HB.out | apply below_alloc | apply pw_below_drewN | apply below_drew1) | exact HB.out))⟩⟩
              · rw [hp] at HC
                go_wp2_with (first | ((with_reducible refine (HC.out _ (by repeat (first | (with_reducible first | exact HB.out | apply below_alloc | apply pw_below_drewN | apply below_drew1) | exact HB.out))).mono ?_); rintro e w' ⟨rfl, ⟨nd, rfl⟩⟩) | ((with_reducible refine gate_builtin (b := .append) (xs := #[.tmp 20, .tmp 22]) rfl ?_); at_builtin; refine Kd.R_append (Kd.int .i64) (w0 := w) w.heap.size rfl (.tmp 20) (.tmp 22) 32 3 (.int .i64 0) 8 rfl Try.underlying32 info3 rfl (by decide) (by omega) u3 (triP p a ++ rowE p a s) 1 [.int .i64 1] (fun _ => True) (fun _ => False) rfl rfl ?aP (fun _ hk => hk.elim) ?aF ?aO ?aB ?aS ?aL ?_; (case aP => exact rfl); (case aB => exact (by repeat (first | (with_reducible first | exact HB.out | apply below_alloc | apply pw_below_drewN | apply below_drew1) | exact HB.out))); (case aF => exact (fun _ _ => trivial)); (case aO => exact (by (with_reducible repeat (first | apply Kd.R_alloc | apply Kd.R_drewN | apply Kd.R_drew)); exact HO3.out)); (case aS => exact (below_size (by repeat (first | (with_reducible first | exact HB.out | apply below_alloc | apply pw_below_drewN | apply below_drew1) | exact HB.out)))); (case aL => have := LM.out; omega); intro v129 w10 ho hb hg hat; have n0_ := Aside0.mk (hb); have n1_ := Aside0.mk (ho); clear HB; clear HO3; have HB := n0_; have HO3 := n1_; clear n0_ n1_; clear ho hb hg hat))
                go_roundg k2
                case measure => omega
                case rel => exact ⟨s + 1, (by go_num), ⟨by have := HA2.out; omega⟩, ⟨by have := HO3.out; rw [rowE_succ p a s true hp, ← List.append_assoc]; exact this⟩, ⟨(by repeat (first | (with_reducible first | exact HB.out | apply below_alloc | apply pw_below_drewN | apply below_drew1) | exact HB.out))⟩⟩
            · have c6b : decide ((s : Int) < (a : Int) + 1) = false := by simp; omega
              have es : s = a + 1 := by have := HA2.out; omega
              go_wp2
              go_roundg k1
              case measure => omega
              case rel => exact ⟨a + 1, (by go_num), ⟨by have := HA.out; have := C5.out; omega⟩, ⟨by have := HO3.out; subst es; exact this⟩, ⟨(by repeat (first | (with_reducible first | exact HB.out | apply below_alloc | apply pw_below_drewN | apply below_drew1) | exact HB.out))⟩⟩
      · have c5b : decide ((a : Int) < 6) = false := by simp; omega
        have e6 : a = 6 := by have := HA.out; omega
        go_wp2
        go_ret
        exact ⟨_, rfl, by have := HO3.out; subst e6; exact this, HB.out⟩

/-! ### stringslite_HasPrefix: function 94 -/
def stringslite_HasPrefix.f (a0 : ByteArray) (a1 : ByteArray) : Option (Bool) := if (a0.size : Int) ≥ (a1.size : Int) then (if 0 ≤ (a1.size : Int) then (if (a1.size : Int) ≤ (a0.size : Int) then (some ((a0.extract 0 ((a1.size : Int) : Int).toNat).toList == a1.toList)) else (none)) else (none)) else (some false)
set_option maxHeartbeats 8000000 in
set_option maxRecDepth 100000 in
theorem stringslite_HasPrefix.calls (a0 : ByteArray) (a1 : ByteArray) (r : Bool) (w : World) (h : stringslite_HasPrefix.f a0 a1 = some r) :
    Calls Try.prog 94 #[.string a0, .string a1] w fun e w' => e = .returned (.bool r) ∧ Drawn0 w w' := by
  have H : (if (a0.size : Int) ≥ (a1.size : Int) then (if 0 ≤ (a1.size : Int) then (if (a1.size : Int) ≤ (a0.size : Int) then (some ((a0.extract 0 ((a1.size : Int) : Int).toNat).toList == a1.toList)) else (none)) else (none)) else (some false)) = some r := h
  clear h
  by_cases c3 : (a0.size : Int) ≥ (a1.size : Int)
  · rw [if_pos c3] at H
    have c3b0 : decide ((a1.size : Int) ≤ (a0.size : Int)) = true := decide_eq_true c3
    have c3b1 : decide (a1.size ≤ a0.size) = true := decide_eq_true (Int.ofNat_le.mp c3)
    clear c3
    by_cases c4 : 0 ≤ (a1.size : Int)
    · rw [if_pos c4] at H
      have c4b0 := eq_true c4
      have c4b1 : decide (0 ≤ (a1.size : Int)) = true := decide_eq_true c4
      clear c4
      by_cases c5 : (a1.size : Int) ≤ (a0.size : Int)
      · rw [if_pos c5] at H
        have c5b0 := eq_true c5
        have c5b1 : decide ((a1.size : Int) ≤ (a0.size : Int)) = true := decide_eq_true c5
        clear c5
        obtain rfl := Option.some.inj H
        go_enter Try.func94, Try.ntmps94
        go_wp2
        go_ret
        exact ⟨by first | rfl | (simp; done) | (simp [*]; done), by repeat (first | exact Drawn0.refl _ | apply Drawn0.step)⟩
      · rw [if_neg c5] at H
        exact absurd H (by simp)
    · rw [if_neg c4] at H
      exact absurd H (by simp)
  · rw [if_neg c3] at H
    have c3b0 : decide ((a1.size : Int) ≤ (a0.size : Int)) = false := decide_eq_false c3
    have c3b1 : decide (a1.size ≤ a0.size) = false := decide_eq_false (fun h => c3 (Int.ofNat_le.mpr h))
    clear c3
    obtain rfl := Option.some.inj H
    go_enter Try.func94, Try.ntmps94
    go_wp2
    go_ret
    exact ⟨by first | rfl | (simp; done) | (simp [*]; done), by repeat (first | exact Drawn0.refl _ | apply Drawn0.step)⟩

/-! ### stringslite_CutPrefix: function 93 -/
def stringslite_CutPrefix.f (a0 : ByteArray) (a1 : ByteArray) : Option (ByteArray × Bool) := (stringslite_HasPrefix.f a0 a1).bind fun t213 => (if t213 = true then (if 0 ≤ (a1.size : Int) then (if (a1.size : Int) ≤ (a0.size : Int) then (some (a0.extract ((a1.size : Int) : Int).toNat a0.size, true)) else (none)) else (none)) else (some (a0, false)))
set_option maxHeartbeats 8000000 in
set_option maxRecDepth 100000 in
theorem stringslite_CutPrefix.calls (a0 : ByteArray) (a1 : ByteArray) (r1 : ByteArray) (r2 : Bool) (w : World) (h : stringslite_CutPrefix.f a0 a1 = some (r1, r2)) :
    Calls Try.prog 93 #[.string a0, .string a1] w fun e w' => e = .returned (.tuple #[.string r1, .bool r2]) ∧ Drawn0 w w' := by
  have H : ((stringslite_HasPrefix.f a0 a1).bind fun t213 => (if t213 = true then (if 0 ≤ (a1.size : Int) then (if (a1.size : Int) ≤ (a0.size : Int) then (some (a0.extract ((a1.size : Int) : Int).toNat a0.size, true)) else (none)) else (none)) else (some (a0, false)))) = some (r1, r2) := h
  clear h
  replace H := Option.bind_eq_some_iff.mp H
  obtain ⟨t213, A30, H⟩ := H
  replace H : (if t213 = true then (if 0 ≤ (a1.size : Int) then (if (a1.size : Int) ≤ (a0.size : Int) then (some (a0.extract ((a1.size : Int) : Int).toNat a0.size, true)) else (none)) else (none)) else (some (a0, false))) = some (r1, r2) := H
  have A3 := Aside0.mk A30
  clear A30
  by_cases c4 : t213 = true
  · subst c4
    have H1 : (if 0 ≤ (a1.size : Int) then (if (a1.size : Int) ≤ (a0.size : Int) then (some (a0.extract ((a1.size : Int) : Int).toNat a0.size, true)) else (none)) else (none)) = some (r1, r2) := by rw [if_pos rfl] at H; exact H
    clear H
    have H := H1
    clear H1
    by_cases c5 : 0 ≤ (a1.size : Int)
    · rw [if_pos c5] at H
      have c5b0 := eq_true c5
      have c5b1 : decide (0 ≤ (a1.size : Int)) = true := decide_eq_true c5
      clear c5
      by_cases c6 : (a1.size : Int) ≤ (a0.size : Int)
      · rw [if_pos c6] at H
        have c6b0 := eq_true c6
        have c6b1 : decide ((a1.size : Int) ≤ (a0.size : Int)) = true := decide_eq_true c6
        clear c6
        simp only [Option.some.injEq, Prod.mk.injEq] at H
        obtain ⟨rfl, rfl⟩ := H
        go_enter Try.func93, Try.ntmps93
        go_wp2_with (first | ((with_reducible refine gate_callee (f := 94) rfl ?_); refine goesL_ (some 8) rfl rfl Try.func94 (by kernel_rfl) rfl #[.string a0, .string a1] rfl (by (try simp only [List.map_toArray, List.map_cons, List.map_nil]); first | done | rfl | (simp only [List.length_drop, List.length_take]; rfl)) ?_; (with_reducible refine (stringslite_HasPrefix.calls a0 a1 true _ A3.out).mono ?_); rintro e w' ⟨rfl, ⟨nd, rfl⟩⟩; refine ⟨_, rfl, ?_⟩))
        go_ret2
        exact ⟨by first | rfl | (simp; done) | (simp [*]; done), by repeat (first | exact Drawn0.refl _ | apply Drawn0.step)⟩
      · rw [if_neg c6] at H
        exact absurd H (by simp)
    · rw [if_neg c5] at H
      exact absurd H (by simp)
  · replace c4 := Bool.eq_false_iff.mpr c4
    subst c4
    have H1 : (some (a0, false)) = some (r1, r2) := by rw [if_neg (show ¬ (false = true) by decide)] at H; exact H
    clear H
    have H := H1
    clear H1
    simp only [Option.some.injEq, Prod.mk.injEq] at H
    obtain ⟨rfl, rfl⟩ := H
    go_enter Try.func93, Try.ntmps93
    go_wp2_with (first | ((with_reducible refine gate_callee (f := 94) rfl ?_); refine goesL_ (some 8) rfl rfl Try.func94 (by kernel_rfl) rfl #[.string a0, .string a1] rfl (by (try simp only [List.map_toArray, List.map_cons, List.map_nil]); first | done | rfl | (simp only [List.length_drop, List.length_take]; rfl)) ?_; (with_reducible refine (stringslite_HasPrefix.calls a0 a1 false _ A3.out).mono ?_); rintro e w' ⟨rfl, ⟨nd, rfl⟩⟩; refine ⟨_, rfl, ?_⟩))
    go_ret2
    exact ⟨by first | rfl | (simp; done) | (simp [*]; done), by repeat (first | exact Drawn0.refl _ | apply Drawn0.step)⟩

/-! ### strings_CutPrefix: function 92 -/
def strings_CutPrefix.f (a0 : ByteArray) (a1 : ByteArray) : Option (ByteArray × Bool) := (stringslite_CutPrefix.f a0 a1).bind fun bt214 => (some (bt214.1, bt214.2))
set_option maxHeartbeats 8000000 in
set_option maxRecDepth 100000 in
theorem strings_CutPrefix.calls (a0 : ByteArray) (a1 : ByteArray) (r1 : ByteArray) (r2 : Bool) (w : World) (h : strings_CutPrefix.f a0 a1 = some (r1, r2)) :
    Calls Try.prog 92 #[.string a0, .string a1] w fun e w' => e = .returned (.tuple #[.string r1, .bool r2]) ∧ Drawn0 w w' := by
  have H : ((stringslite_CutPrefix.f a0 a1).bind fun bt214 => (some (bt214.1, bt214.2))) = some (r1, r2) := h
  clear h
  replace H := Option.bind_eq_some_iff.mp H
  obtain ⟨⟨t214, t215⟩, A30, H⟩ := H
  replace H : (some (t214, t215)) = some (r1, r2) := H
  have A3 := Aside0.mk A30
  clear A30
  simp only [Option.some.injEq, Prod.mk.injEq] at H
  obtain ⟨rfl, rfl⟩ := H
  go_enter Try.func92, Try.ntmps92
  go_wp2_with (first | ((with_reducible refine gate_callee (f := 93) rfl ?_); refine goesL_ (some 8) rfl rfl Try.func93 (by kernel_rfl) rfl #[.string a0, .string a1] rfl (by (try simp only [List.map_toArray, List.map_cons, List.map_nil]); first | done | rfl | (simp only [List.length_drop, List.length_take]; rfl)) ?_; (with_reducible refine (stringslite_CutPrefix.calls a0 a1 t214 t215 _ A3.out).mono ?_); rintro e w' ⟨rfl, ⟨nd, rfl⟩⟩; refine ⟨_, rfl, ?_⟩))
  go_ret2
  exact ⟨by first | rfl | (simp; done) | (simp [*]; done), by repeat (first | exact Drawn0.refl _ | apply Drawn0.step)⟩

end Go.Proofs.Ytmohhjbcdfhopaa.PFnAtOnce
