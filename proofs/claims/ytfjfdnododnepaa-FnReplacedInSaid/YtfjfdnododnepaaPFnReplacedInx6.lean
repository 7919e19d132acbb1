-- Written by a program of this session (wip/patch_print.py, over the kit's print) and not by hand; Lean checks every word.
import Derived.Test.YtfjfdnododnepaaPFnReplacedInxb
import Derived.Test.YtfjfdnododnepaaPFnReplacedInx0
import Derived.Test.YtfjfdnododnepaaPFnReplacedInx5
namespace Go.Proofs.Ytfjfdnododnepaa.PFnReplacedIn
open Go.RowKit Go.Proofs.YtfjfdnododnepaaW.PrintWords Go.Proofs.YtfjfdnododnepaaW.PrintLast Go.Proofs.YtfjfdnododnepaaW.PrintMore
attribute [local go_sem] max2_int min2_int max_two min_two max_three min_three max_four min_four   -- for this text's walks alone
set_option linter.unusedVariables false
set_option linter.unusedSimpArgs false

/-! ### spec_PlaceOf: function 49 -/
def spec_PlaceOf.f (a0 : Int) (a1 : Int) : Option (Int) := (spec_l1In.f a0 0 5).bind fun t186 => (if t186 = true then ((spec_l1In.f a1 0 a0).bind fun t187 => (if t187 = true then (some (wrap64 ((wrap64 (Int.tdiv (wrap64 (a0 * (wrap64 (a0 + 1)))) 2)) + a1))) else (some (-1)))) else (some (-1)))
set_option maxHeartbeats 8000000 in
set_option maxRecDepth 100000 in
theorem spec_PlaceOf.calls (a0 : Int) (a1 : Int) (r : Int) (w : World) (h : spec_PlaceOf.f a0 a1 = some r) :
    Calls Try.prog 49 #[.int .i64 a0, .int .i64 a1] w fun e w' => e = .returned (.int .i64 r) ∧ Drawn0 w w' := by
  have H : ((spec_l1In.f a0 0 5).bind fun t186 => (if t186 = true then ((spec_l1In.f a1 0 a0).bind fun t187 => (if t187 = true then (some (wrap64 ((wrap64 (Int.tdiv (wrap64 (a0 * (wrap64 (a0 + 1)))) 2)) + a1))) else (some (-1)))) else (some (-1)))) = some r := h; clear h; replace H := Option.bind_eq_some_iff.mp H; obtain ⟨t186, A30, H⟩ := H; replace H : (if t186 = true then ((spec_l1In.f a1 0 a0).bind fun t187 => (if t187 = true then (some (wrap64 ((wrap64 (Int.tdiv (wrap64 (a0 * (wrap64 (a0 + 1)))) 2)) + a1))) else (some (-1)))) else (some (-1))) = some r := H; have A3 := Aside0.mk A30; clear A30; by_cases c4 : t186 = true
  · subst c4; (have H1 : ((spec_l1In.f a1 0 a0).bind fun t187 => (if t187 = true then (some (wrap64 ((wrap64 (Int.tdiv (wrap64 (a0 * (wrap64 (a0 + 1)))) 2)) + a1))) else (some (-1)))) = some r := by rw [if_pos rfl] at H; exact H); clear H; have H := H1; clear H1; replace H := Option.bind_eq_some_iff.mp H; obtain ⟨t187, A50, H⟩ := H; replace H : (if t187 = true then (some (wrap64 ((wrap64 (Int.tdiv (wrap64 (a0 * (wrap64 (a0 + 1)))) 2)) + a1))) else (some (-1))) = some r := H; have A5 := Aside0.mk A50; clear A50; by_cases c6 : t187 = true
    · subst c6; (have H1 : (some (wrap64 ((wrap64 (Int.tdiv (wrap64 (a0 * (wrap64 (a0 + 1)))) 2)) + a1))) = some r := by rw [if_pos rfl] at H; exact H); clear H; have H := H1; clear H1; obtain rfl := Option.some.inj H; go_enter Try.func49, Try.ntmps49; go_wp2_with (first | ((with_reducible refine gate_callee (f := 34) rfl ?_); refine goesL_ (some 6) rfl rfl Try.func34 (by kernel_rfl) rfl #[.int .i64 a0, .int .i64 0, .int .i64 5] rfl gf ?_; (with_reducible refine (spec_l1In.calls a0 0 5 true _ A3.out).mono ?_); rintro e w' ⟨rfl, ⟨nd, rfl⟩⟩; refine ⟨_, rfl, ?_⟩) | (go_at_call 34; (with_reducible refine (spec_l1In.calls a1 0 a0 true _ A5.out).mono ?_); rintro e w' ⟨rfl, ⟨nd, rfl⟩⟩)); go_ret; exact ⟨mr, by repeat (first | exact Drawn0.refl _ | apply Drawn0.step)⟩
    · replace c6 := Bool.eq_false_iff.mpr c6; subst c6; (have H1 : (some (-1)) = some r := by rw [if_neg (show ¬ (false = true) by decide)] at H; exact H); clear H; have H := H1; clear H1; obtain rfl := Option.some.inj H; go_enter Try.func49, Try.ntmps49; go_wp2_with (first | ((with_reducible refine gate_callee (f := 34) rfl ?_); refine goesL_ (some 6) rfl rfl Try.func34 (by kernel_rfl) rfl #[.int .i64 a0, .int .i64 0, .int .i64 5] rfl gf ?_; (with_reducible refine (spec_l1In.calls a0 0 5 true _ A3.out).mono ?_); rintro e w' ⟨rfl, ⟨nd, rfl⟩⟩; refine ⟨_, rfl, ?_⟩) | (go_at_call 34; (with_reducible refine (spec_l1In.calls a1 0 a0 false _ A5.out).mono ?_); rintro e w' ⟨rfl, ⟨nd, rfl⟩⟩)); go_ret; exact ⟨mr, by repeat (first | exact Drawn0.refl _ | apply Drawn0.step)⟩
  · replace c4 := Bool.eq_false_iff.mpr c4; subst c4; (have H1 : (some (-1)) = some r := by rw [if_neg (show ¬ (false = true) by decide)] at H; exact H); clear H; have H := H1; clear H1; obtain rfl := Option.some.inj H; go_enter Try.func49, Try.ntmps49; go_wp2_with (first | ((with_reducible refine gate_callee (f := 34) rfl ?_); refine goesL_ (some 6) rfl rfl Try.func34 (by kernel_rfl) rfl #[.int .i64 a0, .int .i64 0, .int .i64 5] rfl gf ?_; (with_reducible refine (spec_l1In.calls a0 0 5 false _ A3.out).mono ?_); rintro e w' ⟨rfl, ⟨nd, rfl⟩⟩; refine ⟨_, rfl, ?_⟩)); go_ret; exact ⟨mr, by repeat (first | exact Drawn0.refl _ | apply Drawn0.step)⟩

/-! ### spec_l3Stays: function 98 -/
def spec_l3Stays.f (l0 : List Int) (a1 : Int) (a2 : Int) (a3 : Int) (a4 : Int) : Option (Bool) := (spec_PlaceOf.f a1 a2).bind fun t188 => ((spec_PlaceOf.f (wrap64 (a1 + a3)) (wrap64 (a2 + a4))).bind fun t189 => (if t188 < 0 then (some true) else (if t189 < 0 then (some true) else (if 0 ≤ t188 then (if t188 < (l0.length : Int) then (if 0 ≤ t189 then (if t189 < (l0.length : Int) then (some (decide ((rd l0 t188) ≤ (rd l0 t189)))) else (none)) else (none)) else (none)) else (none)))))
set_option maxHeartbeats 8000000 in
set_option maxRecDepth 100000 in
theorem spec_l3Stays.calls (A0 : Option Addr) (c0 : Nat) (l0 : List Int) (a1 : Int) (a2 : Int) (a3 : Int) (a4 : Int) (r : Bool) (w : World) (hr0 : Kd.C (Kd.int .i64) w A0 l0.length l0) (hc0 : l0.length ≤ c0) (h : spec_l3Stays.f l0 a1 a2 a3 a4 = some r) :
    Calls Try.prog 98 #[.slice A0 l0.length c0, .int .i64 a1, .int .i64 a2, .int .i64 a3, .int .i64 a4] w fun e w' => e = .returned (.bool r) ∧ Drawn0 w w' := by
  have HR0 := Aside0.mk hr0; have HC0 := Aside0.mk hc0; clear hr0 hc0; have H : ((spec_PlaceOf.f a1 a2).bind fun t188 => ((spec_PlaceOf.f (wrap64 (a1 + a3)) (wrap64 (a2 + a4))).bind fun t189 => (if t188 < 0 then (some true) else (if t189 < 0 then (some true) else (if 0 ≤ t188 then (if t188 < (l0.length : Int) then (if 0 ≤ t189 then (if t189 < (l0.length : Int) then (some (decide ((rd l0 t188) ≤ (rd l0 t189)))) else (none)) else (none)) else (none)) else (none)))))) = some r := h; clear h; replace H := Option.bind_eq_some_iff.mp H; obtain ⟨t188, A60, H⟩ := H; replace H : ((spec_PlaceOf.f (wrap64 (a1 + a3)) (wrap64 (a2 + a4))).bind fun t189 => (if t188 < 0 then (some true) else (if t189 < 0 then (some true) else (if 0 ≤ t188 then (if t188 < (l0.length : Int) then (if 0 ≤ t189 then (if t189 < (l0.length : Int) then (some (decide ((rd l0 t188) ≤ (rd l0 t189)))) else (none)) else (none)) else (none)) else (none))))) = some r := H; have A6 := Aside0.mk A60; clear A60; replace H := Option.bind_eq_some_iff.mp H; obtain ⟨t189, A70, H⟩ := H; replace H : (if t188 < 0 then (some true) else (if t189 < 0 then (some true) else (if 0 ≤ t188 then (if t188 < (l0.length : Int) then (if 0 ≤ t189 then (if t189 < (l0.length : Int) then (some (decide ((rd l0 t188) ≤ (rd l0 t189)))) else (none)) else (none)) else (none)) else (none)))) = some r := H; have A7 := Aside0.mk A70; clear A70; by_cases c8 : t188 < 0
  · rw [if_pos c8] at H; have c8b0 : decide (t188 < 0) = true := decide_eq_true c8; clear c8; obtain rfl := Option.some.inj H; go_enter Try.func98, Try.ntmps98; go_wp2_with (first | (go_at_call 49; (with_reducible refine (spec_PlaceOf.calls a1 a2 t188 _ A6.out).mono ?_); rintro e w' ⟨rfl, ⟨nd, rfl⟩⟩; (try first | exact ⟨rfl, _, World.drewN_drewN _ _ _⟩ | exact ⟨rfl, _, Eq.trans (World.drewN_drewN _ _ _) (congrArg (World.drewN _) (Nat.add_assoc _ _ _))⟩)) | (go_at_call 49; (with_reducible refine (spec_PlaceOf.calls (wrap64 (a1 + a3)) (wrap64 (a2 + a4)) t189 _ A7.out).mono ?_); rintro e w' ⟨rfl, ⟨nd, rfl⟩⟩; (try first | exact ⟨rfl, _, World.drewN_drewN _ _ _⟩ | exact ⟨rfl, _, Eq.trans (World.drewN_drewN _ _ _) (congrArg (World.drewN _) (Nat.add_assoc _ _ _))⟩))); (repeat (go_quiet (first | (go_at_call 49; (with_reducible refine (spec_PlaceOf.calls a1 a2 t188 _ A6.out).mono ?_); rintro e w' ⟨rfl, ⟨nd, rfl⟩⟩; (try first | exact ⟨rfl, _, World.drewN_drewN _ _ _⟩ | exact ⟨rfl, _, Eq.trans (World.drewN_drewN _ _ _) (congrArg (World.drewN _) (Nat.add_assoc _ _ _))⟩)) | (go_at_call 49; (with_reducible refine (spec_PlaceOf.calls (wrap64 (a1 + a3)) (wrap64 (a2 + a4)) t189 _ A7.out).mono ?_); rintro e w' ⟨rfl, ⟨nd, rfl⟩⟩; (try first | exact ⟨rfl, _, World.drewN_drewN _ _ _⟩ | exact ⟨rfl, _, Eq.trans (World.drewN_drewN _ _ _) (congrArg (World.drewN _) (Nat.add_assoc _ _ _))⟩))); try go_wp2_with (first | (go_at_call 49; (with_reducible refine (spec_PlaceOf.calls a1 a2 t188 _ A6.out).mono ?_); rintro e w' ⟨rfl, ⟨nd, rfl⟩⟩; (try first | exact ⟨rfl, _, World.drewN_drewN _ _ _⟩ | exact ⟨rfl, _, Eq.trans (World.drewN_drewN _ _ _) (congrArg (World.drewN _) (Nat.add_assoc _ _ _))⟩)) | (go_at_call 49; (with_reducible refine (spec_PlaceOf.calls (wrap64 (a1 + a3)) (wrap64 (a2 + a4)) t189 _ A7.out).mono ?_); rintro e w' ⟨rfl, ⟨nd, rfl⟩⟩; (try first | exact ⟨rfl, _, World.drewN_drewN _ _ _⟩ | exact ⟨rfl, _, Eq.trans (World.drewN_drewN _ _ _) (congrArg (World.drewN _) (Nat.add_assoc _ _ _))⟩))))); go_ret; exact ⟨mr, by repeat (first | exact Drawn0.refl _ | apply Drawn0.step)⟩
  · rw [if_neg c8] at H; have c8b0 : decide (t188 < 0) = false := decide_eq_false c8; clear c8; by_cases c9 : t189 < 0
    · rw [if_pos c9] at H; have c9b0 : decide (t189 < 0) = true := decide_eq_true c9; clear c9; obtain rfl := Option.some.inj H; go_enter Try.func98, Try.ntmps98; go_wp2_with (first | (go_at_call 49; (with_reducible refine (spec_PlaceOf.calls a1 a2 t188 _ A6.out).mono ?_); rintro e w' ⟨rfl, ⟨nd, rfl⟩⟩; (try first | exact ⟨rfl, _, World.drewN_drewN _ _ _⟩ | exact ⟨rfl, _, Eq.trans (World.drewN_drewN _ _ _) (congrArg (World.drewN _) (Nat.add_assoc _ _ _))⟩)) | (go_at_call 49; (with_reducible refine (spec_PlaceOf.calls (wrap64 (a1 + a3)) (wrap64 (a2 + a4)) t189 _ A7.out).mono ?_); rintro e w' ⟨rfl, ⟨nd, rfl⟩⟩; (try first | exact ⟨rfl, _, World.drewN_drewN _ _ _⟩ | exact ⟨rfl, _, Eq.trans (World.drewN_drewN _ _ _) (congrArg (World.drewN _) (Nat.add_assoc _ _ _))⟩))); (repeat (go_quiet (first | (go_at_call 49; (with_reducible refine (spec_PlaceOf.calls a1 a2 t188 _ A6.out).mono ?_); rintro e w' ⟨rfl, ⟨nd, rfl⟩⟩; (try first | exact ⟨rfl, _, World.drewN_drewN _ _ _⟩ | exact ⟨rfl, _, Eq.trans (World.drewN_drewN _ _ _) (congrArg (World.drewN _) (Nat.add_assoc _ _ _))⟩)) | (go_at_call 49; (with_reducible refine (spec_PlaceOf.calls (wrap64 (a1 + a3)) (wrap64 (a2 + a4)) t189 _ A7.out).mono ?_); rintro e w' ⟨rfl, ⟨nd, rfl⟩⟩; (try first | exact ⟨rfl, _, World.drewN_drewN _ _ _⟩ | exact ⟨rfl, _, Eq.trans (World.drewN_drewN _ _ _) (congrArg (World.drewN _) (Nat.add_assoc _ _ _))⟩))); try go_wp2_with (first | (go_at_call 49; (with_reducible refine (spec_PlaceOf.calls a1 a2 t188 _ A6.out).mono ?_); rintro e w' ⟨rfl, ⟨nd, rfl⟩⟩; (try first | exact ⟨rfl, _, World.drewN_drewN _ _ _⟩ | exact ⟨rfl, _, Eq.trans (World.drewN_drewN _ _ _) (congrArg (World.drewN _) (Nat.add_assoc _ _ _))⟩)) | (go_at_call 49; (with_reducible refine (spec_PlaceOf.calls (wrap64 (a1 + a3)) (wrap64 (a2 + a4)) t189 _ A7.out).mono ?_); rintro e w' ⟨rfl, ⟨nd, rfl⟩⟩; (try first | exact ⟨rfl, _, World.drewN_drewN _ _ _⟩ | exact ⟨rfl, _, Eq.trans (World.drewN_drewN _ _ _) (congrArg (World.drewN _) (Nat.add_assoc _ _ _))⟩))))); go_ret; exact ⟨mr, by repeat (first | exact Drawn0.refl _ | apply Drawn0.step)⟩
    · rw [if_neg c9] at H; have c9b0 : decide (t189 < 0) = false := decide_eq_false c9; clear c9; by_cases c10 : 0 ≤ t188
      · rw [if_pos c10] at H; have c10b0 : decide (0 ≤ t188) = true := decide_eq_true c10; clear c10; by_cases c11 : t188 < (l0.length : Int)
        · rw [if_pos c11] at H; have c11b0 : decide (t188 < (l0.length : Int)) = true := decide_eq_true c11; clear c11; by_cases c12 : 0 ≤ t189
          · rw [if_pos c12] at H; have c12b0 : decide (0 ≤ t189) = true := decide_eq_true c12; clear c12; by_cases c13 : t189 < (l0.length : Int)
            · rw [if_pos c13] at H; have c13b0 : decide (t189 < (l0.length : Int)) = true := decide_eq_true c13; clear c13; obtain rfl := Option.some.inj H; go_enter Try.func98, Try.ntmps98; go_wp2_with (first | (go_at_call 49; (with_reducible refine (spec_PlaceOf.calls a1 a2 t188 _ A6.out).mono ?_); rintro e w' ⟨rfl, ⟨nd, rfl⟩⟩; (try first | exact ⟨rfl, _, World.drewN_drewN _ _ _⟩ | exact ⟨rfl, _, Eq.trans (World.drewN_drewN _ _ _) (congrArg (World.drewN _) (Nat.add_assoc _ _ _))⟩)) | (go_at_call 49; (with_reducible refine (spec_PlaceOf.calls (wrap64 (a1 + a3)) (wrap64 (a2 + a4)) t189 _ A7.out).mono ?_); rintro e w' ⟨rfl, ⟨nd, rfl⟩⟩; (try first | exact ⟨rfl, _, World.drewN_drewN _ _ _⟩ | exact ⟨rfl, _, Eq.trans (World.drewN_drewN _ _ _) (congrArg (World.drewN _) (Nat.add_assoc _ _ _))⟩); have p190 : 0 ≤ (t188 : Int) := of_decide_eq_true fa; have q190 : t188 < (l0.length : Int) := of_decide_eq_true fa; obtain ⟨ad190, e190, hx190_0⟩ := Kd.at_int HR0.out t188 p190 q190; cases e190; replace p190 := eq_true p190; replace q190 := eq_true q190; have p191 : 0 ≤ (t189 : Int) := of_decide_eq_true fa; have q191 : t189 < (l0.length : Int) := of_decide_eq_true fa; obtain ⟨ad191, e191, hx191_0⟩ := Kd.at_int HR0.out t189 p191 q191; obtain rfl : ad190 = ad191 := (by injection e191); replace p191 := eq_true p191; replace q191 := eq_true q191)); (repeat (go_quiet (first | (go_at_call 49; (with_reducible refine (spec_PlaceOf.calls a1 a2 t188 _ A6.out).mono ?_); rintro e w' ⟨rfl, ⟨nd, rfl⟩⟩; (try first | exact ⟨rfl, _, World.drewN_drewN _ _ _⟩ | exact ⟨rfl, _, Eq.trans (World.drewN_drewN _ _ _) (congrArg (World.drewN _) (Nat.add_assoc _ _ _))⟩)) | (go_at_call 49; (with_reducible refine (spec_PlaceOf.calls (wrap64 (a1 + a3)) (wrap64 (a2 + a4)) t189 _ A7.out).mono ?_); rintro e w' ⟨rfl, ⟨nd, rfl⟩⟩; (try first | exact ⟨rfl, _, World.drewN_drewN _ _ _⟩ | exact ⟨rfl, _, Eq.trans (World.drewN_drewN _ _ _) (congrArg (World.drewN _) (Nat.add_assoc _ _ _))⟩); have p190 : 0 ≤ (t188 : Int) := of_decide_eq_true fa; have q190 : t188 < (l0.length : Int) := of_decide_eq_true fa; obtain ⟨ad190, e190, hx190_0⟩ := Kd.at_int HR0.out t188 p190 q190; cases e190; replace p190 := eq_true p190; replace q190 := eq_true q190; have p191 : 0 ≤ (t189 : Int) := of_decide_eq_true fa; have q191 : t189 < (l0.length : Int) := of_decide_eq_true fa; obtain ⟨ad191, e191, hx191_0⟩ := Kd.at_int HR0.out t189 p191 q191; obtain rfl : ad190 = ad191 := (by injection e191); replace p191 := eq_true p191; replace q191 := eq_true q191)); try go_wp2_with (first | (go_at_call 49; (with_reducible refine (spec_PlaceOf.calls a1 a2 t188 _ A6.out).mono ?_); rintro e w' ⟨rfl, ⟨nd, rfl⟩⟩; (try first | exact ⟨rfl, _, World.drewN_drewN _ _ _⟩ | exact ⟨rfl, _, Eq.trans (World.drewN_drewN _ _ _) (congrArg (World.drewN _) (Nat.add_assoc _ _ _))⟩)) | (go_at_call 49; (with_reducible refine (spec_PlaceOf.calls (wrap64 (a1 + a3)) (wrap64 (a2 + a4)) t189 _ A7.out).mono ?_); rintro e w' ⟨rfl, ⟨nd, rfl⟩⟩; (try first | exact ⟨rfl, _, World.drewN_drewN _ _ _⟩ | exact ⟨rfl, _, Eq.trans (World.drewN_drewN _ _ _) (congrArg (World.drewN _) (Nat.add_assoc _ _ _))⟩); have p190 : 0 ≤ (t188 : Int) := of_decide_eq_true fa; have q190 : t188 < (l0.length : Int) := of_decide_eq_true fa; obtain ⟨ad190, e190, hx190_0⟩ := Kd.at_int HR0.out t188 p190 q190; cases e190; replace p190 := eq_true p190; replace q190 := eq_true q190; have p191 : 0 ≤ (t189 : Int) := of_decide_eq_true fa; have q191 : t189 < (l0.length : Int) := of_decide_eq_true fa; obtain ⟨ad191, e191, hx191_0⟩ := Kd.at_int HR0.out t189 p191 q191; obtain rfl : ad190 = ad191 := (by injection e191); replace p191 := eq_true p191; replace q191 := eq_true q191)))); go_ret; exact ⟨mr, by repeat (first | exact Drawn0.refl _ | apply Drawn0.step)⟩
            · rw [if_neg c13] at H; exact absurd H (by simp)
          · rw [if_neg c12] at H; exact absurd H (by simp)
        · rw [if_neg c11] at H; exact absurd H (by simp)
      · rw [if_neg c10] at H; exact absurd H (by simp)

/-! ### spec_l3Each: function 84 -/
mutual
def spec_l3Each.l0 : Nat → List Int → Int → Int → Int → Option (Bool)
  | 0, _, _, _, _ => none
  | k + 1, x0, x1, x2, x7 => if x7 ≤ 5 then (spec_l3Each.l1 k x0 x1 x2 x7 0) else (some true)
def spec_l3Each.l1 : Nat → List Int → Int → Int → Int → Int → Option (Bool)
  | 0, _, _, _, _, _ => none
  | k + 1, x0, x1, x2, x7, x8 => if x8 ≤ x7 then ((spec_l3Stays.f x0 x7 x8 x1 x2).bind fun t192 => (if t192 = true then (spec_l3Each.l1 k x0 x1 x2 x7 (wrap64 (x8 + 1))) else (some false))) else (spec_l3Each.l0 k x0 x1 x2 (wrap64 (x7 + 1)))
end
def spec_l3Each.f (k : Nat) (l0 : List Int) (a1 : Int) (a2 : Int) : Option (Bool) := spec_l3Each.l0 k l0 a1 a2 0
theorem spec_l3Each.mono_l : ∀ k, (∀ y0 y1 y2 y3, LeO (spec_l3Each.l0 k y0 y1 y2 y3) (spec_l3Each.l0 (k + 1) y0 y1 y2 y3)) ∧ (∀ y0 y1 y2 y3 y4, LeO (spec_l3Each.l1 k y0 y1 y2 y3 y4) (spec_l3Each.l1 (k + 1) y0 y1 y2 y3 y4))
  | 0 => ⟨fun _ _ _ _ r h => by simp [spec_l3Each.l0] at h, fun _ _ _ _ _ r h => by simp [spec_l3Each.l1] at h⟩
  | k + 1 => by
    obtain ⟨ih0, ih1⟩ := spec_l3Each.mono_l k; refine ⟨?_, ?_⟩
    · intro y0 y1 y2 y3; unfold spec_l3Each.l0; repeat' first
      | (with_reducible exact ih0 _ _ _ _)
      | (with_reducible exact ih1 _ _ _ _ _)
      | (with_reducible exact LeO.refl _)
      | (with_reducible exact LeO.none _)
      | (with_reducible refine LeO.ite ?_ ?_)
      | (with_reducible refine LeO.bind ?_ (fun _ => ?_))
      | exact ih0 _ _ _ _
      | exact ih1 _ _ _ _ _
      | exact LeO.none _
      | refine LeO.ite ?_ ?_
      | refine LeO.bind ?_ (fun _ => ?_)
    · intro y0 y1 y2 y3 y4; unfold spec_l3Each.l1; repeat' first
      | (with_reducible exact ih0 _ _ _ _)
      | (with_reducible exact ih1 _ _ _ _ _)
      | (with_reducible exact LeO.refl _)
      | (with_reducible exact LeO.none _)
      | (with_reducible refine LeO.ite ?_ ?_)
      | (with_reducible refine LeO.bind ?_ (fun _ => ?_))
      | exact ih0 _ _ _ _
      | exact ih1 _ _ _ _ _
      | exact LeO.none _
      | refine LeO.ite ?_ ?_
      | refine LeO.bind ?_ (fun _ => ?_)
theorem spec_l3Each.mono : ∀ a0 a1 a2 k, LeO (spec_l3Each.f k a0 a1 a2) (spec_l3Each.f (k + 1) a0 a1 a2) := by
  intro a0 a1 a2 k; obtain ⟨ih0, ih1⟩ := spec_l3Each.mono_l k; unfold spec_l3Each.f
  repeat' first
      | (with_reducible exact ih0 _ _ _ _)
      | (with_reducible exact ih1 _ _ _ _ _)
      | (with_reducible exact LeO.refl _)
      | (with_reducible exact LeO.none _)
      | (with_reducible refine LeO.ite ?_ ?_)
      | (with_reducible refine LeO.bind ?_ (fun _ => ?_))
      | exact ih0 _ _ _ _
      | exact ih1 _ _ _ _ _
      | exact LeO.none _
      | refine LeO.ite ?_ ?_
      | refine LeO.bind ?_ (fun _ => ?_)
set_option maxHeartbeats 8000000 in
set_option maxRecDepth 100000 in
theorem spec_l3Each.calls (k : Nat) (A0 : Option Addr) (c0 : Nat) (l0 : List Int) (a1 : Int) (a2 : Int) (r : Bool) (w : World) (hr0 : Kd.C (Kd.int .i64) w A0 l0.length l0) (hc0 : l0.length ≤ c0) (h : spec_l3Each.f k l0 a1 a2 = some r) :
    Calls Try.prog 84 #[.slice A0 l0.length c0, .int .i64 a1, .int .i64 a2] w fun e w' => e = .returned (.bool r) ∧ Drawn0 w w' := by
  have HR0 := Aside0.mk hr0; have HC0 := Aside0.mk hc0; clear hr0 hc0; have H : (spec_l3Each.l0 k l0 a1 a2 0) = some r := h; clear h; have H' := Aside0.mk H; clear H; go_enter Try.func84, Try.ntmps84; go_wp2; go_loopg [7] k (fun kq v7 w' => ∃ (x7_1 : Int), v7 = .int .i64 x7_1 ∧ Aside0 (spec_l3Each.l0 kq l0 a1 a2 x7_1 = some r) ∧ Aside0 (kq ≤ k) ∧ Drawn0 w w'); case atStart => exact ⟨(0), mr, H', ⟨Nat.le_refl _⟩, by repeat (first | exact Drawn0.refl _ | apply Drawn0.step)⟩
  case round =>
    clear H'; obtain ⟨x7_1, rfl, HA, HK1, ⟨m1, rfl⟩⟩ := hrel
    cases gk with
    | zero => exact absurd HA.out (by simp [spec_l3Each.l0])
    | succ k1 =>
      have H := HA.out; clear HA; simp only [spec_l3Each.l0] at H; by_cases c4 : x7_1 ≤ 5
      · rw [if_pos c4] at H; have c4b0 : decide (x7_1 ≤ 5) = true := decide_eq_true c4; clear c4; have H' := Aside0.mk H; clear H; go_wp2; go_loopg [8] k1 (fun kq v8 w' => ∃ (x8_2 : Int), v8 = .int .i64 x8_2 ∧ Aside0 (spec_l3Each.l1 kq l0 a1 a2 x7_1 x8_2 = some r) ∧ Aside0 (kq ≤ k1) ∧ Drawn0 w w'); case atStart => exact ⟨(0), mr, H', ⟨Nat.le_refl _⟩, by repeat (first | exact Drawn0.refl _ | apply Drawn0.step)⟩
        case round =>
          clear H'; obtain ⟨x8_2, rfl, HA, HK2, ⟨m2, rfl⟩⟩ := hrel
          cases gk with
          | zero => exact absurd HA.out (by simp [spec_l3Each.l1])
          | succ k2 =>
            have H := HA.out; clear HA; simp only [spec_l3Each.l1] at H; by_cases c5 : x8_2 ≤ x7_1
            · rw [if_pos c5] at H; have c5b0 : decide (x8_2 ≤ x7_1) = true := decide_eq_true c5; clear c5; replace H := Option.bind_eq_some_iff.mp H; obtain ⟨t192, A60, H⟩ := H; replace H : (if t192 = true then (spec_l3Each.l1 k2 l0 a1 a2 x7_1 (wrap64 (x8_2 + 1))) else (some false)) = some r := H; have A6 := Aside0.mk A60; clear A60; by_cases c7 : t192 = true
              · subst c7; (have H1 : (spec_l3Each.l1 k2 l0 a1 a2 x7_1 (wrap64 (x8_2 + 1))) = some r := by rw [if_pos rfl] at H; exact H); clear H; have H := H1; clear H1; have H' := Aside0.mk H; clear H; go_wp2_with (first | ((with_reducible refine gate_callee (f := 98) rfl ?_); refine goesL_ (some 23) rfl rfl Try.func98 (by kernel_rfl) rfl #[.slice A0 l0.length c0, .int .i64 x7_1, .int .i64 x8_2, .int .i64 a1, .int .i64 a2] rfl gf ?_; (with_reducible refine (spec_l3Stays.calls _ _ l0 x7_1 x8_2 a1 a2 true _ ?side1 ?side2 A6.out).mono ?_); (case side1 => repeat (first | exact HR0.out | (with_reducible refine Kd.C_alloc ?_ _) | (with_reducible refine Kd.C_drewN ?_ _) | (with_reducible refine Kd.C_drew ?_))); (case side2 => exact HC0.out); rintro e w' ⟨rfl, ⟨nd, rfl⟩⟩; refine ⟨_, rfl, ?_⟩)); go_roundg k2; (case measure => have := HK1.out; have := HK2.out; omega); case rel => exact ⟨(wrap64 (x8_2 + 1)), mr, H', ⟨by have := HK1.out; have := HK2.out; omega⟩, by repeat (first | exact Drawn0.refl _ | apply Drawn0.step)⟩
              · replace c7 := Bool.eq_false_iff.mpr c7; subst c7; (have H1 : (some false) = some r := by rw [if_neg (show ¬ (false = true) by decide)] at H; exact H); clear H; have H := H1; clear H1; obtain rfl := Option.some.inj H; go_wp2_with (first | ((with_reducible refine gate_callee (f := 98) rfl ?_); refine goesL_ (some 23) rfl rfl Try.func98 (by kernel_rfl) rfl #[.slice A0 l0.length c0, .int .i64 x7_1, .int .i64 x8_2, .int .i64 a1, .int .i64 a2] rfl gf ?_; (with_reducible refine (spec_l3Stays.calls _ _ l0 x7_1 x8_2 a1 a2 false _ ?side1 ?side2 A6.out).mono ?_); (case side1 => repeat (first | exact HR0.out | (with_reducible refine Kd.C_alloc ?_ _) | (with_reducible refine Kd.C_drewN ?_ _) | (with_reducible refine Kd.C_drew ?_))); (case side2 => exact HC0.out); rintro e w' ⟨rfl, ⟨nd, rfl⟩⟩; refine ⟨_, rfl, ?_⟩)); go_ret; exact ⟨mr, by repeat (first | exact Drawn0.refl _ | apply Drawn0.step)⟩
            · rw [if_neg c5] at H; have c5b0 : decide (x8_2 ≤ x7_1) = false := decide_eq_false c5; clear c5; have H' := Aside0.mk H; clear H; go_wp2; go_roundg k2; (case measure => have := HK1.out; have := HK2.out; omega); case rel => exact ⟨(wrap64 (x7_1 + 1)), mr, H', ⟨by have := HK1.out; have := HK2.out; omega⟩, by repeat (first | exact Drawn0.refl _ | apply Drawn0.step)⟩
      · rw [if_neg c4] at H; have c4b0 : decide (x7_1 ≤ 5) = false := decide_eq_false c4; clear c4; obtain rfl := Option.some.inj H; go_wp2; go_ret; exact ⟨mr, by repeat (first | exact Drawn0.refl _ | apply Drawn0.step)⟩

/-! ### spec_FewerAre: function 66 -/
def spec_FewerAre.f (k : Nat) (l0 : List Int) : Option (Bool) := (spec_TriangleOk.f k l0).bind fun t193 => (if t193 = true then ((spec_l3Each.f k l0 (-1) 0).bind fun t194 => (if t194 = true then ((spec_l3Each.f k l0 (-1) (-1)).bind fun t195 => (some t195)) else (some false))) else (some false))
theorem spec_FewerAre.mono : ∀ a0 k, LeO (spec_FewerAre.f k a0) (spec_FewerAre.f (k + 1) a0) := by
  intro a0 k; unfold spec_FewerAre.f
  repeat' first
      | (with_reducible exact spec_TriangleOk.mono _ _)
      | (with_reducible exact spec_l3Each.mono _ _ _ _)
      | (with_reducible exact LeO.refl _)
      | (with_reducible exact LeO.none _)
      | (with_reducible refine LeO.ite ?_ ?_)
      | (with_reducible refine LeO.bind ?_ (fun _ => ?_))
      | exact spec_TriangleOk.mono _ _
      | exact spec_l3Each.mono _ _ _ _
      | exact LeO.none _
      | refine LeO.ite ?_ ?_
      | refine LeO.bind ?_ (fun _ => ?_)
set_option maxHeartbeats 8000000 in
set_option maxRecDepth 100000 in
theorem spec_FewerAre.calls (k : Nat) (A0 : Option Addr) (c0 : Nat) (l0 : List Int) (r : Bool) (w : World) (hr0 : Kd.C (Kd.int .i64) w A0 l0.length l0) (hc0 : l0.length ≤ c0) (h : spec_FewerAre.f k l0 = some r) :
    Calls Try.prog 66 #[.slice A0 l0.length c0] w fun e w' => e = .returned (.bool r) ∧ Drawn0 w w' := by
  have HR0 := Aside0.mk hr0; have HC0 := Aside0.mk hc0; clear hr0 hc0; have H : ((spec_TriangleOk.f k l0).bind fun t193 => (if t193 = true then ((spec_l3Each.f k l0 (-1) 0).bind fun t194 => (if t194 = true then ((spec_l3Each.f k l0 (-1) (-1)).bind fun t195 => (some t195)) else (some false))) else (some false))) = some r := h; clear h; replace H := Option.bind_eq_some_iff.mp H; obtain ⟨t193, A20, H⟩ := H; replace H : (if t193 = true then ((spec_l3Each.f k l0 (-1) 0).bind fun t194 => (if t194 = true then ((spec_l3Each.f k l0 (-1) (-1)).bind fun t195 => (some t195)) else (some false))) else (some false)) = some r := H; have A2 := Aside0.mk A20; clear A20; by_cases c3 : t193 = true
  · subst c3; (have H1 : ((spec_l3Each.f k l0 (-1) 0).bind fun t194 => (if t194 = true then ((spec_l3Each.f k l0 (-1) (-1)).bind fun t195 => (some t195)) else (some false))) = some r := by rw [if_pos rfl] at H; exact H); clear H; have H := H1; clear H1; replace H := Option.bind_eq_some_iff.mp H; obtain ⟨t194, A40, H⟩ := H; replace H : (if t194 = true then ((spec_l3Each.f k l0 (-1) (-1)).bind fun t195 => (some t195)) else (some false)) = some r := H; have A4 := Aside0.mk A40; clear A40; by_cases c5 : t194 = true
    · subst c5; (have H1 : ((spec_l3Each.f k l0 (-1) (-1)).bind fun t195 => (some t195)) = some r := by rw [if_pos rfl] at H; exact H); clear H; have H := H1; clear H1; replace H := Option.bind_eq_some_iff.mp H; obtain ⟨t195, A60, H⟩ := H; replace H : (some t195) = some r := H; have A6 := Aside0.mk A60; clear A60; obtain rfl := Option.some.inj H; go_enter Try.func66, Try.ntmps66; go_wp2_with (first | ((with_reducible refine gate_callee (f := 83) rfl ?_); refine goesL_ (some 4) rfl rfl Try.func83 (by kernel_rfl) rfl #[.slice A0 l0.length c0] rfl gf ?_; (with_reducible refine (spec_TriangleOk.calls k _ _ l0 true _ ?side1 ?side2 A2.out).mono ?_); (case side1 => repeat (first | exact HR0.out | (with_reducible refine Kd.C_alloc ?_ _) | (with_reducible refine Kd.C_drewN ?_ _) | (with_reducible refine Kd.C_drew ?_))); (case side2 => exact HC0.out); rintro e w' ⟨rfl, ⟨nd, rfl⟩⟩; refine ⟨_, rfl, ?_⟩) | (go_at_call 84; (with_reducible refine (spec_l3Each.calls k _ _ l0 (-1) 0 true _ ?side1 ?side2 A4.out).mono ?_); (case side1 => repeat (first | exact HR0.out | (with_reducible refine Kd.C_alloc ?_ _) | (with_reducible refine Kd.C_drewN ?_ _) | (with_reducible refine Kd.C_drew ?_))); (case side2 => exact HC0.out); rintro e w' ⟨rfl, ⟨nd, rfl⟩⟩) | (go_at_call 84; (with_reducible refine (spec_l3Each.calls k _ _ l0 (-1) (-1) t195 _ ?side1 ?side2 A6.out).mono ?_); (case side1 => repeat (first | exact HR0.out | (with_reducible refine Kd.C_alloc ?_ _) | (with_reducible refine Kd.C_drewN ?_ _) | (with_reducible refine Kd.C_drew ?_))); (case side2 => exact HC0.out); rintro e w' ⟨rfl, ⟨nd, rfl⟩⟩)); go_ret; exact ⟨mr, by repeat (first | exact Drawn0.refl _ | apply Drawn0.step)⟩
    · replace c5 := Bool.eq_false_iff.mpr c5; subst c5; (have H1 : (some false) = some r := by rw [if_neg (show ¬ (false = true) by decide)] at H; exact H); clear H; have H := H1; clear H1; obtain rfl := Option.some.inj H; go_enter Try.func66, Try.ntmps66; go_wp2_with (first | ((with_reducible refine gate_callee (f := 83) rfl ?_); refine goesL_ (some 4) rfl rfl Try.func83 (by kernel_rfl) rfl #[.slice A0 l0.length c0] rfl gf ?_; (with_reducible refine (spec_TriangleOk.calls k _ _ l0 true _ ?side1 ?side2 A2.out).mono ?_); (case side1 => repeat (first | exact HR0.out | (with_reducible refine Kd.C_alloc ?_ _) | (with_reducible refine Kd.C_drewN ?_ _) | (with_reducible refine Kd.C_drew ?_))); (case side2 => exact HC0.out); rintro e w' ⟨rfl, ⟨nd, rfl⟩⟩; refine ⟨_, rfl, ?_⟩) | (go_at_call 84; (with_reducible refine (spec_l3Each.calls k _ _ l0 (-1) 0 false _ ?side1 ?side2 A4.out).mono ?_); (case side1 => repeat (first | exact HR0.out | (with_reducible refine Kd.C_alloc ?_ _) | (with_reducible refine Kd.C_drewN ?_ _) | (with_reducible refine Kd.C_drew ?_))); (case side2 => exact HC0.out); rintro e w' ⟨rfl, ⟨nd, rfl⟩⟩)); go_ret; exact ⟨mr, by repeat (first | exact Drawn0.refl _ | apply Drawn0.step)⟩
  · replace c3 := Bool.eq_false_iff.mpr c3; subst c3; (have H1 : (some false) = some r := by rw [if_neg (show ¬ (false = true) by decide)] at H; exact H); clear H; have H := H1; clear H1; obtain rfl := Option.some.inj H; go_enter Try.func66, Try.ntmps66; go_wp2_with (first | ((with_reducible refine gate_callee (f := 83) rfl ?_); refine goesL_ (some 4) rfl rfl Try.func83 (by kernel_rfl) rfl #[.slice A0 l0.length c0] rfl gf ?_; (with_reducible refine (spec_TriangleOk.calls k _ _ l0 false _ ?side1 ?side2 A2.out).mono ?_); (case side1 => repeat (first | exact HR0.out | (with_reducible refine Kd.C_alloc ?_ _) | (with_reducible refine Kd.C_drewN ?_ _) | (with_reducible refine Kd.C_drew ?_))); (case side2 => exact HC0.out); rintro e w' ⟨rfl, ⟨nd, rfl⟩⟩; refine ⟨_, rfl, ?_⟩)); go_ret; exact ⟨mr, by repeat (first | exact Drawn0.refl _ | apply Drawn0.step)⟩

/-! ### spec_MoreAre: function 67 -/
def spec_MoreAre.f (k : Nat) (l0 : List Int) : Option (Bool) := (spec_TriangleOk.f k l0).bind fun t196 => (if t196 = true then ((spec_l3Each.f k l0 1 0).bind fun t197 => (if t197 = true then ((spec_l3Each.f k l0 1 1).bind fun t198 => (some t198)) else (some false))) else (some false))
theorem spec_MoreAre.mono : ∀ a0 k, LeO (spec_MoreAre.f k a0) (spec_MoreAre.f (k + 1) a0) := by
  intro a0 k; unfold spec_MoreAre.f
  repeat' first
      | (with_reducible exact spec_TriangleOk.mono _ _)
      | (with_reducible exact spec_l3Each.mono _ _ _ _)
      | (with_reducible exact LeO.refl _)
      | (with_reducible exact LeO.none _)
      | (with_reducible refine LeO.ite ?_ ?_)
      | (with_reducible refine LeO.bind ?_ (fun _ => ?_))
      | exact spec_TriangleOk.mono _ _
      | exact spec_l3Each.mono _ _ _ _
      | exact LeO.none _
      | refine LeO.ite ?_ ?_
      | refine LeO.bind ?_ (fun _ => ?_)
set_option maxHeartbeats 8000000 in
set_option maxRecDepth 100000 in
theorem spec_MoreAre.calls (k : Nat) (A0 : Option Addr) (c0 : Nat) (l0 : List Int) (r : Bool) (w : World) (hr0 : Kd.C (Kd.int .i64) w A0 l0.length l0) (hc0 : l0.length ≤ c0) (h : spec_MoreAre.f k l0 = some r) :
    Calls Try.prog 67 #[.slice A0 l0.length c0] w fun e w' => e = .returned (.bool r) ∧ Drawn0 w w' := by
  have HR0 := Aside0.mk hr0; have HC0 := Aside0.mk hc0; clear hr0 hc0; have H : ((spec_TriangleOk.f k l0).bind fun t196 => (if t196 = true then ((spec_l3Each.f k l0 1 0).bind fun t197 => (if t197 = true then ((spec_l3Each.f k l0 1 1).bind fun t198 => (some t198)) else (some false))) else (some false))) = some r := h; clear h; replace H := Option.bind_eq_some_iff.mp H; obtain ⟨t196, A20, H⟩ := H; replace H : (if t196 = true then ((spec_l3Each.f k l0 1 0).bind fun t197 => (if t197 = true then ((spec_l3Each.f k l0 1 1).bind fun t198 => (some t198)) else (some false))) else (some false)) = some r := H; have A2 := Aside0.mk A20; clear A20; by_cases c3 : t196 = true
  · subst c3; (have H1 : ((spec_l3Each.f k l0 1 0).bind fun t197 => (if t197 = true then ((spec_l3Each.f k l0 1 1).bind fun t198 => (some t198)) else (some false))) = some r := by rw [if_pos rfl] at H; exact H); clear H; have H := H1; clear H1; replace H := Option.bind_eq_some_iff.mp H; obtain ⟨t197, A40, H⟩ := H; replace H : (if t197 = true then ((spec_l3Each.f k l0 1 1).bind fun t198 => (some t198)) else (some false)) = some r := H; have A4 := Aside0.mk A40; clear A40; by_cases c5 : t197 = true
    · subst c5; (have H1 : ((spec_l3Each.f k l0 1 1).bind fun t198 => (some t198)) = some r := by rw [if_pos rfl] at H; exact H); clear H; have H := H1; clear H1; replace H := Option.bind_eq_some_iff.mp H; obtain ⟨t198, A60, H⟩ := H; replace H : (some t198) = some r := H; have A6 := Aside0.mk A60; clear A60; obtain rfl := Option.some.inj H; go_enter Try.func67, Try.ntmps67; go_wp2_with (first | ((with_reducible refine gate_callee (f := 83) rfl ?_); refine goesL_ (some 4) rfl rfl Try.func83 (by kernel_rfl) rfl #[.slice A0 l0.length c0] rfl gf ?_; (with_reducible refine (spec_TriangleOk.calls k _ _ l0 true _ ?side1 ?side2 A2.out).mono ?_); (case side1 => repeat (first | exact HR0.out | (with_reducible refine Kd.C_alloc ?_ _) | (with_reducible refine Kd.C_drewN ?_ _) | (with_reducible refine Kd.C_drew ?_))); (case side2 => exact HC0.out); rintro e w' ⟨rfl, ⟨nd, rfl⟩⟩; refine ⟨_, rfl, ?_⟩) | (go_at_call 84; (with_reducible refine (spec_l3Each.calls k _ _ l0 1 0 true _ ?side1 ?side2 A4.out).mono ?_); (case side1 => repeat (first | exact HR0.out | (with_reducible refine Kd.C_alloc ?_ _) | (with_reducible refine Kd.C_drewN ?_ _) | (with_reducible refine Kd.C_drew ?_))); (case side2 => exact HC0.out); rintro e w' ⟨rfl, ⟨nd, rfl⟩⟩) | (go_at_call 84; (with_reducible refine (spec_l3Each.calls k _ _ l0 1 1 t198 _ ?side1 ?side2 A6.out).mono ?_); (case side1 => repeat (first | exact HR0.out | (with_reducible refine Kd.C_alloc ?_ _) | (with_reducible refine Kd.C_drewN ?_ _) | (with_reducible refine Kd.C_drew ?_))); (case side2 => exact HC0.out); rintro e w' ⟨rfl, ⟨nd, rfl⟩⟩)); go_ret; exact ⟨mr, by repeat (first | exact Drawn0.refl _ | apply Drawn0.step)⟩
    · replace c5 := Bool.eq_false_iff.mpr c5; subst c5; (have H1 : (some false) = some r := by rw [if_neg (show ¬ (false = true) by decide)] at H; exact H); clear H; have H := H1; clear H1; obtain rfl := Option.some.inj H; go_enter Try.func67, Try.ntmps67; go_wp2_with (first | ((with_reducible refine gate_callee (f := 83) rfl ?_); refine goesL_ (some 4) rfl rfl Try.func83 (by kernel_rfl) rfl #[.slice A0 l0.length c0] rfl gf ?_; (with_reducible refine (spec_TriangleOk.calls k _ _ l0 true _ ?side1 ?side2 A2.out).mono ?_); (case side1 => repeat (first | exact HR0.out | (with_reducible refine Kd.C_alloc ?_ _) | (with_reducible refine Kd.C_drewN ?_ _) | (with_reducible refine Kd.C_drew ?_))); (case side2 => exact HC0.out); rintro e w' ⟨rfl, ⟨nd, rfl⟩⟩; refine ⟨_, rfl, ?_⟩) | (go_at_call 84; (with_reducible refine (spec_l3Each.calls k _ _ l0 1 0 false _ ?side1 ?side2 A4.out).mono ?_); (case side1 => repeat (first | exact HR0.out | (with_reducible refine Kd.C_alloc ?_ _) | (with_reducible refine Kd.C_drewN ?_ _) | (with_reducible refine Kd.C_drew ?_))); (case side2 => exact HC0.out); rintro e w' ⟨rfl, ⟨nd, rfl⟩⟩)); go_ret; exact ⟨mr, by repeat (first | exact Drawn0.refl _ | apply Drawn0.step)⟩
  · replace c3 := Bool.eq_false_iff.mpr c3; subst c3; (have H1 : (some false) = some r := by rw [if_neg (show ¬ (false = true) by decide)] at H; exact H); clear H; have H := H1; clear H1; obtain rfl := Option.some.inj H; go_enter Try.func67, Try.ntmps67; go_wp2_with (first | ((with_reducible refine gate_callee (f := 83) rfl ?_); refine goesL_ (some 4) rfl rfl Try.func83 (by kernel_rfl) rfl #[.slice A0 l0.length c0] rfl gf ?_; (with_reducible refine (spec_TriangleOk.calls k _ _ l0 false _ ?side1 ?side2 A2.out).mono ?_); (case side1 => repeat (first | exact HR0.out | (with_reducible refine Kd.C_alloc ?_ _) | (with_reducible refine Kd.C_drewN ?_ _) | (with_reducible refine Kd.C_drew ?_))); (case side2 => exact HC0.out); rintro e w' ⟨rfl, ⟨nd, rfl⟩⟩; refine ⟨_, rfl, ?_⟩)); go_ret; exact ⟨mr, by repeat (first | exact Drawn0.refl _ | apply Drawn0.step)⟩

/-! ### spec_FewerDo: function 68 -/
def spec_FewerDo.f (k : Nat) (l0 : List Int) : Option (Bool) := (spec_TriangleOk.f k l0).bind fun t199 => (if t199 = true then ((spec_l3Each.f k l0 0 (-1)).bind fun t200 => (some t200)) else (some false))
theorem spec_FewerDo.mono : ∀ a0 k, LeO (spec_FewerDo.f k a0) (spec_FewerDo.f (k + 1) a0) := by
  intro a0 k; unfold spec_FewerDo.f
  repeat' first
      | (with_reducible exact spec_TriangleOk.mono _ _)
      | (with_reducible exact spec_l3Each.mono _ _ _ _)
      | (with_reducible exact LeO.refl _)
      | (with_reducible exact LeO.none _)
      | (with_reducible refine LeO.ite ?_ ?_)
      | (with_reducible refine LeO.bind ?_ (fun _ => ?_))
      | exact spec_TriangleOk.mono _ _
      | exact spec_l3Each.mono _ _ _ _
      | exact LeO.none _
      | refine LeO.ite ?_ ?_
      | refine LeO.bind ?_ (fun _ => ?_)
set_option maxHeartbeats 8000000 in
set_option maxRecDepth 100000 in
theorem spec_FewerDo.calls (k : Nat) (A0 : Option Addr) (c0 : Nat) (l0 : List Int) (r : Bool) (w : World) (hr0 : Kd.C (Kd.int .i64) w A0 l0.length l0) (hc0 : l0.length ≤ c0) (h : spec_FewerDo.f k l0 = some r) :
    Calls Try.prog 68 #[.slice A0 l0.length c0] w fun e w' => e = .returned (.bool r) ∧ Drawn0 w w' := by
  have HR0 := Aside0.mk hr0; have HC0 := Aside0.mk hc0; clear hr0 hc0; have H : ((spec_TriangleOk.f k l0).bind fun t199 => (if t199 = true then ((spec_l3Each.f k l0 0 (-1)).bind fun t200 => (some t200)) else (some false))) = some r := h; clear h; replace H := Option.bind_eq_some_iff.mp H; obtain ⟨t199, A20, H⟩ := H; replace H : (if t199 = true then ((spec_l3Each.f k l0 0 (-1)).bind fun t200 => (some t200)) else (some false)) = some r := H; have A2 := Aside0.mk A20; clear A20; by_cases c3 : t199 = true
  · subst c3; (have H1 : ((spec_l3Each.f k l0 0 (-1)).bind fun t200 => (some t200)) = some r := by rw [if_pos rfl] at H; exact H); clear H; have H := H1; clear H1; replace H := Option.bind_eq_some_iff.mp H; obtain ⟨t200, A40, H⟩ := H; replace H : (some t200) = some r := H; have A4 := Aside0.mk A40; clear A40; obtain rfl := Option.some.inj H; go_enter Try.func68, Try.ntmps68; go_wp2_with (first | ((with_reducible refine gate_callee (f := 83) rfl ?_); refine goesL_ (some 4) rfl rfl Try.func83 (by kernel_rfl) rfl #[.slice A0 l0.length c0] rfl gf ?_; (with_reducible refine (spec_TriangleOk.calls k _ _ l0 true _ ?side1 ?side2 A2.out).mono ?_); (case side1 => repeat (first | exact HR0.out | (with_reducible refine Kd.C_alloc ?_ _) | (with_reducible refine Kd.C_drewN ?_ _) | (with_reducible refine Kd.C_drew ?_))); (case side2 => exact HC0.out); rintro e w' ⟨rfl, ⟨nd, rfl⟩⟩; refine ⟨_, rfl, ?_⟩) | (go_at_call 84; (with_reducible refine (spec_l3Each.calls k _ _ l0 0 (-1) t200 _ ?side1 ?side2 A4.out).mono ?_); (case side1 => repeat (first | exact HR0.out | (with_reducible refine Kd.C_alloc ?_ _) | (with_reducible refine Kd.C_drewN ?_ _) | (with_reducible refine Kd.C_drew ?_))); (case side2 => exact HC0.out); rintro e w' ⟨rfl, ⟨nd, rfl⟩⟩)); go_ret; exact ⟨mr, by repeat (first | exact Drawn0.refl _ | apply Drawn0.step)⟩
  · replace c3 := Bool.eq_false_iff.mpr c3; subst c3; (have H1 : (some false) = some r := by rw [if_neg (show ¬ (false = true) by decide)] at H; exact H); clear H; have H := H1; clear H1; obtain rfl := Option.some.inj H; go_enter Try.func68, Try.ntmps68; go_wp2_with (first | ((with_reducible refine gate_callee (f := 83) rfl ?_); refine goesL_ (some 4) rfl rfl Try.func83 (by kernel_rfl) rfl #[.slice A0 l0.length c0] rfl gf ?_; (with_reducible refine (spec_TriangleOk.calls k _ _ l0 false _ ?side1 ?side2 A2.out).mono ?_); (case side1 => repeat (first | exact HR0.out | (with_reducible refine Kd.C_alloc ?_ _) | (with_reducible refine Kd.C_drewN ?_ _) | (with_reducible refine Kd.C_drew ?_))); (case side2 => exact HC0.out); rintro e w' ⟨rfl, ⟨nd, rfl⟩⟩; refine ⟨_, rfl, ?_⟩)); go_ret; exact ⟨mr, by repeat (first | exact Drawn0.refl _ | apply Drawn0.step)⟩

/-! ### spec_MoreDo: function 69 -/
def spec_MoreDo.f (k : Nat) (l0 : List Int) : Option (Bool) := (spec_TriangleOk.f k l0).bind fun t201 => (if t201 = true then ((spec_l3Each.f k l0 0 1).bind fun t202 => (some t202)) else (some false))
theorem spec_MoreDo.mono : ∀ a0 k, LeO (spec_MoreDo.f k a0) (spec_MoreDo.f (k + 1) a0) := by
  intro a0 k; unfold spec_MoreDo.f
  repeat' first
      | (with_reducible exact spec_TriangleOk.mono _ _)
      | (with_reducible exact spec_l3Each.mono _ _ _ _)
      | (with_reducible exact LeO.refl _)
      | (with_reducible exact LeO.none _)
      | (with_reducible refine LeO.ite ?_ ?_)
      | (with_reducible refine LeO.bind ?_ (fun _ => ?_))
      | exact spec_TriangleOk.mono _ _
      | exact spec_l3Each.mono _ _ _ _
      | exact LeO.none _
      | refine LeO.ite ?_ ?_
      | refine LeO.bind ?_ (fun _ => ?_)
set_option maxHeartbeats 8000000 in
set_option maxRecDepth 100000 in
theorem spec_MoreDo.calls (k : Nat) (A0 : Option Addr) (c0 : Nat) (l0 : List Int) (r : Bool) (w : World) (hr0 : Kd.C (Kd.int .i64) w A0 l0.length l0) (hc0 : l0.length ≤ c0) (h : spec_MoreDo.f k l0 = some r) :
    Calls Try.prog 69 #[.slice A0 l0.length c0] w fun e w' => e = .returned (.bool r) ∧ Drawn0 w w' := by
  have HR0 := Aside0.mk hr0; have HC0 := Aside0.mk hc0; clear hr0 hc0; have H : ((spec_TriangleOk.f k l0).bind fun t201 => (if t201 = true then ((spec_l3Each.f k l0 0 1).bind fun t202 => (some t202)) else (some false))) = some r := h; clear h; replace H := Option.bind_eq_some_iff.mp H; obtain ⟨t201, A20, H⟩ := H; replace H : (if t201 = true then ((spec_l3Each.f k l0 0 1).bind fun t202 => (some t202)) else (some false)) = some r := H; have A2 := Aside0.mk A20; clear A20; by_cases c3 : t201 = true
  · subst c3; (have H1 : ((spec_l3Each.f k l0 0 1).bind fun t202 => (some t202)) = some r := by rw [if_pos rfl] at H; exact H); clear H; have H := H1; clear H1; replace H := Option.bind_eq_some_iff.mp H; obtain ⟨t202, A40, H⟩ := H; replace H : (some t202) = some r := H; have A4 := Aside0.mk A40; clear A40; obtain rfl := Option.some.inj H; go_enter Try.func69, Try.ntmps69; go_wp2_with (first | ((with_reducible refine gate_callee (f := 83) rfl ?_); refine goesL_ (some 4) rfl rfl Try.func83 (by kernel_rfl) rfl #[.slice A0 l0.length c0] rfl gf ?_; (with_reducible refine (spec_TriangleOk.calls k _ _ l0 true _ ?side1 ?side2 A2.out).mono ?_); (case side1 => repeat (first | exact HR0.out | (with_reducible refine Kd.C_alloc ?_ _) | (with_reducible refine Kd.C_drewN ?_ _) | (with_reducible refine Kd.C_drew ?_))); (case side2 => exact HC0.out); rintro e w' ⟨rfl, ⟨nd, rfl⟩⟩; refine ⟨_, rfl, ?_⟩) | (go_at_call 84; (with_reducible refine (spec_l3Each.calls k _ _ l0 0 1 t202 _ ?side1 ?side2 A4.out).mono ?_); (case side1 => repeat (first | exact HR0.out | (with_reducible refine Kd.C_alloc ?_ _) | (with_reducible refine Kd.C_drewN ?_ _) | (with_reducible refine Kd.C_drew ?_))); (case side2 => exact HC0.out); rintro e w' ⟨rfl, ⟨nd, rfl⟩⟩)); go_ret; exact ⟨mr, by repeat (first | exact Drawn0.refl _ | apply Drawn0.step)⟩
  · replace c3 := Bool.eq_false_iff.mpr c3; subst c3; (have H1 : (some false) = some r := by rw [if_neg (show ¬ (false = true) by decide)] at H; exact H); clear H; have H := H1; clear H1; obtain rfl := Option.some.inj H; go_enter Try.func69, Try.ntmps69; go_wp2_with (first | ((with_reducible refine gate_callee (f := 83) rfl ?_); refine goesL_ (some 4) rfl rfl Try.func83 (by kernel_rfl) rfl #[.slice A0 l0.length c0] rfl gf ?_; (with_reducible refine (spec_TriangleOk.calls k _ _ l0 false _ ?side1 ?side2 A2.out).mono ?_); (case side1 => repeat (first | exact HR0.out | (with_reducible refine Kd.C_alloc ?_ _) | (with_reducible refine Kd.C_drewN ?_ _) | (with_reducible refine Kd.C_drew ?_))); (case side2 => exact HC0.out); rintro e w' ⟨rfl, ⟨nd, rfl⟩⟩; refine ⟨_, rfl, ?_⟩)); go_ret; exact ⟨mr, by repeat (first | exact Drawn0.refl _ | apply Drawn0.step)⟩

/-! ### spec_l7Signs: function 47 -/
mutual
def spec_l7Signs.j0 : Nat → List Int → Int → Int → Option (Int × Int)
  | 0, _, _, _ => none
  | k + 1, x0, x4, x5 => (spec_MoreAre.f k x0).bind fun t204 => (if t204 = true then (spec_l7Signs.j1 k x0 1 x5) else (spec_l7Signs.j1 k x0 x4 x5))
def spec_l7Signs.j1 : Nat → List Int → Int → Int → Option (Int × Int)
  | 0, _, _, _ => none
  | k + 1, x0, x4, x5 => (spec_FewerDo.f k x0).bind fun t205 => (if t205 = true then ((spec_MoreDo.f k x0).bind fun t206 => (if t206 = true then (some (x4, 1)) else (some (x4, (-1))))) else ((spec_MoreDo.f k x0).bind fun t207 => (if t207 = true then (some (x4, 1)) else (some (x4, x5)))))
end
def spec_l7Signs.f (k : Nat) (l0 : List Int) : Option (Int × Int) := (spec_FewerAre.f k l0).bind fun t203 => (if t203 = true then (spec_l7Signs.j0 k l0 (-1) 0) else (spec_l7Signs.j0 k l0 0 0))
theorem spec_l7Signs.mono_l : ∀ k, (∀ y0 y1 y2, LeO (spec_l7Signs.j0 k y0 y1 y2) (spec_l7Signs.j0 (k + 1) y0 y1 y2)) ∧ (∀ y0 y1 y2, LeO (spec_l7Signs.j1 k y0 y1 y2) (spec_l7Signs.j1 (k + 1) y0 y1 y2))
  | 0 => ⟨fun _ _ _ r h => by simp [spec_l7Signs.j0] at h, fun _ _ _ r h => by simp [spec_l7Signs.j1] at h⟩
  | k + 1 => by
    obtain ⟨ih0, ih1⟩ := spec_l7Signs.mono_l k; refine ⟨?_, ?_⟩
    · intro y0 y1 y2; unfold spec_l7Signs.j0; repeat' first
      | (with_reducible exact ih0 _ _ _)
      | (with_reducible exact ih1 _ _ _)
      | (with_reducible exact spec_FewerAre.mono _ _)
      | (with_reducible exact spec_FewerDo.mono _ _)
      | (with_reducible exact spec_MoreAre.mono _ _)
      | (with_reducible exact spec_MoreDo.mono _ _)
      | (with_reducible exact LeO.refl _)
      | (with_reducible exact LeO.none _)
      | (with_reducible refine LeO.ite ?_ ?_)
      | (with_reducible refine LeO.bind ?_ (fun _ => ?_))
      | exact ih0 _ _ _
      | exact ih1 _ _ _
      | exact spec_FewerAre.mono _ _
      | exact spec_FewerDo.mono _ _
      | exact spec_MoreAre.mono _ _
      | exact spec_MoreDo.mono _ _
      | exact LeO.none _
      | refine LeO.ite ?_ ?_
      | refine LeO.bind ?_ (fun _ => ?_)
    · intro y0 y1 y2; unfold spec_l7Signs.j1; repeat' first
      | (with_reducible exact ih0 _ _ _)
      | (with_reducible exact ih1 _ _ _)
      | (with_reducible exact spec_FewerAre.mono _ _)
      | (with_reducible exact spec_FewerDo.mono _ _)
      | (with_reducible exact spec_MoreAre.mono _ _)
      | (with_reducible exact spec_MoreDo.mono _ _)
      | (with_reducible exact LeO.refl _)
      | (with_reducible exact LeO.none _)
      | (with_reducible refine LeO.ite ?_ ?_)
      | (with_reducible refine LeO.bind ?_ (fun _ => ?_))
      | exact ih0 _ _ _
      | exact ih1 _ _ _
      | exact spec_FewerAre.mono _ _
      | exact spec_FewerDo.mono _ _
      | exact spec_MoreAre.mono _ _
      | exact spec_MoreDo.mono _ _
      | exact LeO.none _
      | refine LeO.ite ?_ ?_
      | refine LeO.bind ?_ (fun _ => ?_)
theorem spec_l7Signs.mono : ∀ a0 k, LeO (spec_l7Signs.f k a0) (spec_l7Signs.f (k + 1) a0) := by
  intro a0 k; obtain ⟨ih0, ih1⟩ := spec_l7Signs.mono_l k; unfold spec_l7Signs.f
  repeat' first
      | (with_reducible exact ih0 _ _ _)
      | (with_reducible exact ih1 _ _ _)
      | (with_reducible exact spec_FewerAre.mono _ _)
      | (with_reducible exact spec_FewerDo.mono _ _)
      | (with_reducible exact spec_MoreAre.mono _ _)
      | (with_reducible exact spec_MoreDo.mono _ _)
      | (with_reducible exact LeO.refl _)
      | (with_reducible exact LeO.none _)
      | (with_reducible refine LeO.ite ?_ ?_)
      | (with_reducible refine LeO.bind ?_ (fun _ => ?_))
      | exact ih0 _ _ _
      | exact ih1 _ _ _
      | exact spec_FewerAre.mono _ _
      | exact spec_FewerDo.mono _ _
      | exact spec_MoreAre.mono _ _
      | exact spec_MoreDo.mono _ _
      | exact LeO.none _
      | refine LeO.ite ?_ ?_
      | refine LeO.bind ?_ (fun _ => ?_)
set_option maxHeartbeats 8000000 in
set_option maxRecDepth 100000 in
theorem spec_l7Signs.calls (k : Nat) (A0 : Option Addr) (c0 : Nat) (l0 : List Int) (r1 : Int) (r2 : Int) (w : World) (hr0 : Kd.C (Kd.int .i64) w A0 l0.length l0) (hc0 : l0.length ≤ c0) (h : spec_l7Signs.f k l0 = some (r1, r2)) :
    Calls Try.prog 47 #[.slice A0 l0.length c0] w fun e w' => e = .returned (.tuple #[.int .i64 r1, .int .i64 r2]) ∧ Drawn0 w w' := by
  have HR0 := Aside0.mk hr0; have HC0 := Aside0.mk hc0; clear hr0 hc0; have H : ((spec_FewerAre.f k l0).bind fun t203 => (if t203 = true then (spec_l7Signs.j0 k l0 (-1) 0) else (spec_l7Signs.j0 k l0 0 0))) = some (r1, r2) := h; clear h; replace H := Option.bind_eq_some_iff.mp H; obtain ⟨t203, A20, H⟩ := H; replace H : (if t203 = true then (spec_l7Signs.j0 k l0 (-1) 0) else (spec_l7Signs.j0 k l0 0 0)) = some (r1, r2) := H; have A2 := Aside0.mk A20; clear A20; have HC3 := Aside0.mk H; clear H; go_enter Try.func47, Try.ntmps47; go_upto_if 7 with (first | ((with_reducible refine gate_callee (f := 66) rfl ?_); refine goesL_ (some 7) rfl rfl Try.func66 (by kernel_rfl) rfl #[.slice A0 l0.length c0] rfl gf ?_; (with_reducible refine (spec_FewerAre.calls k _ _ l0 t203 _ ?side1 ?side2 A2.out).mono ?_); (case side1 => repeat (first | exact HR0.out | (with_reducible refine Kd.C_alloc ?_ _) | (with_reducible refine Kd.C_drewN ?_ _) | (with_reducible refine Kd.C_drew ?_))); (case side2 => exact HC0.out); rintro e w' ⟨rfl, ⟨nd, rfl⟩⟩; refine ⟨_, rfl, ?_⟩)); (try simp only [Act.put, List.setIfInBounds_toArray, List.set_cons_zero, List.set_cons_succ]); go_cut [4] (fun v4 wc => ∃ (kq : Nat) (x4_2 : Int), v4 = .int .i64 x4_2 ∧ Aside0 (spec_l7Signs.j0 kq l0 x4_2 0 = some (r1, r2)) ∧ Aside0 (kq ≤ k) ∧ Drawn0 w wc)
  case first =>
    have H := HC3.out; clear HC3; by_cases c4 : t203 = true
    · subst c4; (have H1 : (spec_l7Signs.j0 k l0 (-1) 0) = some (r1, r2) := by rw [if_pos rfl] at H; exact H); clear H; have H := H1; clear H1; have H' := Aside0.mk H; clear H; go_wp2; go_meet; case rel => exact ⟨_, ((-1)), mr, H', ⟨by first | omega | exact Nat.le_refl _⟩, by repeat (first | exact Drawn0.refl _ | apply Drawn0.step)⟩
    · replace c4 := Bool.eq_false_iff.mpr c4; subst c4; (have H1 : (spec_l7Signs.j0 k l0 0 0) = some (r1, r2) := by rw [if_neg (show ¬ (false = true) by decide)] at H; exact H); clear H; have H := H1; clear H1; have H' := Aside0.mk H; clear H; go_wp2; go_meet; case rel => exact ⟨_, (0), mr, H', ⟨by first | omega | exact Nat.le_refl _⟩, by repeat (first | exact Drawn0.refl _ | apply Drawn0.step)⟩
  case rest =>
    clear HC3; obtain ⟨kq, x4_2, rfl, HA, HJ2, ⟨mc2, rfl⟩⟩ := hcut
    cases kq with
    | zero => exact absurd HA.out (by simp [spec_l7Signs.j0])
    | succ kj2 =>
      have H := HA.out; clear HA; simp only [spec_l7Signs.j0] at H; replace H := Option.bind_eq_some_iff.mp H; obtain ⟨t204, A50, H⟩ := H; replace H : (if t204 = true then (spec_l7Signs.j1 kj2 l0 1 0) else (spec_l7Signs.j1 kj2 l0 x4_2 0)) = some (r1, r2) := H; have A5 := Aside0.mk A50; clear A50; have HC6 := Aside0.mk H; clear H; go_upto_if 9 with (first | ((with_reducible refine gate_callee (f := 67) rfl ?_); refine goesL_ (some 9) rfl rfl Try.func67 (by kernel_rfl) rfl #[.slice A0 l0.length c0] rfl gf ?_; (with_reducible refine (spec_MoreAre.calls kj2 _ _ l0 t204 _ ?side1 ?side2 A5.out).mono ?_); (case side1 => repeat (first | exact HR0.out | (with_reducible refine Kd.C_alloc ?_ _) | (with_reducible refine Kd.C_drewN ?_ _) | (with_reducible refine Kd.C_drew ?_))); (case side2 => exact HC0.out); rintro e w' ⟨rfl, ⟨nd, rfl⟩⟩; refine ⟨_, rfl, ?_⟩)); (try simp only [Act.put, List.setIfInBounds_toArray, List.set_cons_zero, List.set_cons_succ]); go_cut [4] (fun v4 wc => ∃ (kq : Nat) (x4_5 : Int), v4 = .int .i64 x4_5 ∧ Aside0 (spec_l7Signs.j1 kq l0 x4_5 0 = some (r1, r2)) ∧ Aside0 (kq ≤ kj2) ∧ Drawn0 w wc)
      case first =>
        have H := HC6.out; clear HC6; by_cases c7 : t204 = true
        · subst c7; (have H1 : (spec_l7Signs.j1 kj2 l0 1 0) = some (r1, r2) := by rw [if_pos rfl] at H; exact H); clear H; have H := H1; clear H1; have H' := Aside0.mk H; clear H; go_wp2; go_meet; case rel => exact ⟨_, (1), mr, H', ⟨by have := HJ2.out; first | omega | exact Nat.le_refl _⟩, by repeat (first | exact Drawn0.refl _ | apply Drawn0.step)⟩
        · replace c7 := Bool.eq_false_iff.mpr c7; subst c7; (have H1 : (spec_l7Signs.j1 kj2 l0 x4_2 0) = some (r1, r2) := by rw [if_neg (show ¬ (false = true) by decide)] at H; exact H); clear H; have H := H1; clear H1; have H' := Aside0.mk H; clear H; go_wp2; go_meet; case rel => exact ⟨_, (x4_2), mr, H', ⟨by have := HJ2.out; first | omega | exact Nat.le_refl _⟩, by repeat (first | exact Drawn0.refl _ | apply Drawn0.step)⟩
      case rest =>
        clear HC6; (try clear c4); obtain ⟨kq, x4_5, rfl, HA, HJ5, ⟨mc5, rfl⟩⟩ := hcut
        cases kq with
        | zero => exact absurd HA.out (by simp [spec_l7Signs.j1])
        | succ kj5 =>
          have H := HA.out; clear HA; simp only [spec_l7Signs.j1] at H; replace H := Option.bind_eq_some_iff.mp H; obtain ⟨t205, A80, H⟩ := H; replace H : (if t205 = true then ((spec_MoreDo.f kj5 l0).bind fun t206 => (if t206 = true then (some (x4_5, 1)) else (some (x4_5, (-1))))) else ((spec_MoreDo.f kj5 l0).bind fun t207 => (if t207 = true then (some (x4_5, 1)) else (some (x4_5, 0))))) = some (r1, r2) := H; have A8 := Aside0.mk A80; clear A80; by_cases c9 : t205 = true
          · subst c9; (have H1 : ((spec_MoreDo.f kj5 l0).bind fun t206 => (if t206 = true then (some (x4_5, 1)) else (some (x4_5, (-1))))) = some (r1, r2) := by rw [if_pos rfl] at H; exact H); clear H; have H := H1; clear H1; replace H := Option.bind_eq_some_iff.mp H; obtain ⟨t206, A100, H⟩ := H; replace H : (if t206 = true then (some (x4_5, 1)) else (some (x4_5, (-1)))) = some (r1, r2) := H; have A10 := Aside0.mk A100; clear A100; by_cases c11 : t206 = true
            · subst c11; (have H1 : (some (x4_5, 1)) = some (r1, r2) := by rw [if_pos rfl] at H; exact H); clear H; have H := H1; clear H1; simp only [Option.some.injEq, Prod.mk.injEq] at H; obtain ⟨rfl, rfl⟩ := H; go_wp2_with (first | ((with_reducible refine gate_callee (f := 68) rfl ?_); refine goesL_ (some 11) rfl rfl Try.func68 (by kernel_rfl) rfl #[.slice A0 l0.length c0] rfl gf ?_; (with_reducible refine (spec_FewerDo.calls kj5 _ _ l0 true _ ?side1 ?side2 A8.out).mono ?_); (case side1 => repeat (first | exact HR0.out | (with_reducible refine Kd.C_alloc ?_ _) | (with_reducible refine Kd.C_drewN ?_ _) | (with_reducible refine Kd.C_drew ?_))); (case side2 => exact HC0.out); rintro e w' ⟨rfl, ⟨nd, rfl⟩⟩; refine ⟨_, rfl, ?_⟩) | ((with_reducible refine gate_callee (f := 69) rfl ?_); refine goesL_ (some 13) rfl rfl Try.func69 (by kernel_rfl) rfl #[.slice A0 l0.length c0] rfl gf ?_; (with_reducible refine (spec_MoreDo.calls kj5 _ _ l0 true _ ?side1 ?side2 A10.out).mono ?_); (case side1 => repeat (first | exact HR0.out | (with_reducible refine Kd.C_alloc ?_ _) | (with_reducible refine Kd.C_drewN ?_ _) | (with_reducible refine Kd.C_drew ?_))); (case side2 => exact HC0.out); rintro e w' ⟨rfl, ⟨nd, rfl⟩⟩; refine ⟨_, rfl, ?_⟩)); go_ret2; exact ⟨mr, by repeat (first | exact Drawn0.refl _ | apply Drawn0.step)⟩
            · replace c11 := Bool.eq_false_iff.mpr c11; subst c11; (have H1 : (some (x4_5, (-1))) = some (r1, r2) := by rw [if_neg (show ¬ (false = true) by decide)] at H; exact H); clear H; have H := H1; clear H1; simp only [Option.some.injEq, Prod.mk.injEq] at H; obtain ⟨rfl, rfl⟩ := H; go_wp2_with (first | ((with_reducible refine gate_callee (f := 68) rfl ?_); refine goesL_ (some 11) rfl rfl Try.func68 (by kernel_rfl) rfl #[.slice A0 l0.length c0] rfl gf ?_; (with_reducible refine (spec_FewerDo.calls kj5 _ _ l0 true _ ?side1 ?side2 A8.out).mono ?_); (case side1 => repeat (first | exact HR0.out | (with_reducible refine Kd.C_alloc ?_ _) | (with_reducible refine Kd.C_drewN ?_ _) | (with_reducible refine Kd.C_drew ?_))); (case side2 => exact HC0.out); rintro e w' ⟨rfl, ⟨nd, rfl⟩⟩; refine ⟨_, rfl, ?_⟩) | ((with_reducible refine gate_callee (f := 69) rfl ?_); refine goesL_ (some 13) rfl rfl Try.func69 (by kernel_rfl) rfl #[.slice A0 l0.length c0] rfl gf ?_; (with_reducible refine (spec_MoreDo.calls kj5 _ _ l0 false _ ?side1 ?side2 A10.out).mono ?_); (case side1 => repeat (first | exact HR0.out | (with_reducible refine Kd.C_alloc ?_ _) | (with_reducible refine Kd.C_drewN ?_ _) | (with_reducible refine Kd.C_drew ?_))); (case side2 => exact HC0.out); rintro e w' ⟨rfl, ⟨nd, rfl⟩⟩; refine ⟨_, rfl, ?_⟩)); go_ret2; exact ⟨mr, by repeat (first | exact Drawn0.refl _ | apply Drawn0.step)⟩
          · replace c9 := Bool.eq_false_iff.mpr c9; subst c9; (have H1 : ((spec_MoreDo.f kj5 l0).bind fun t207 => (if t207 = true then (some (x4_5, 1)) else (some (x4_5, 0)))) = some (r1, r2) := by rw [if_neg (show ¬ (false = true) by decide)] at H; exact H); clear H; have H := H1; clear H1; replace H := Option.bind_eq_some_iff.mp H; obtain ⟨t207, A120, H⟩ := H; replace H : (if t207 = true then (some (x4_5, 1)) else (some (x4_5, 0))) = some (r1, r2) := H; have A12 := Aside0.mk A120; clear A120; by_cases c13 : t207 = true
            · subst c13; (have H1 : (some (x4_5, 1)) = some (r1, r2) := by rw [if_pos rfl] at H; exact H); clear H; have H := H1; clear H1; simp only [Option.some.injEq, Prod.mk.injEq] at H; obtain ⟨rfl, rfl⟩ := H; go_wp2_with (first | ((with_reducible refine gate_callee (f := 68) rfl ?_); refine goesL_ (some 11) rfl rfl Try.func68 (by kernel_rfl) rfl #[.slice A0 l0.length c0] rfl gf ?_; (with_reducible refine (spec_FewerDo.calls kj5 _ _ l0 false _ ?side1 ?side2 A8.out).mono ?_); (case side1 => repeat (first | exact HR0.out | (with_reducible refine Kd.C_alloc ?_ _) | (with_reducible refine Kd.C_drewN ?_ _) | (with_reducible refine Kd.C_drew ?_))); (case side2 => exact HC0.out); rintro e w' ⟨rfl, ⟨nd, rfl⟩⟩; refine ⟨_, rfl, ?_⟩) | ((with_reducible refine gate_callee (f := 69) rfl ?_); refine goesL_ (some 13) rfl rfl Try.func69 (by kernel_rfl) rfl #[.slice A0 l0.length c0] rfl gf ?_; (with_reducible refine (spec_MoreDo.calls kj5 _ _ l0 true _ ?side1 ?side2 A12.out).mono ?_); (case side1 => repeat (first | exact HR0.out | (with_reducible refine Kd.C_alloc ?_ _) | (with_reducible refine Kd.C_drewN ?_ _) | (with_reducible refine Kd.C_drew ?_))); (case side2 => exact HC0.out); rintro e w' ⟨rfl, ⟨nd, rfl⟩⟩; refine ⟨_, rfl, ?_⟩)); go_ret2; exact ⟨mr, by repeat (first | exact Drawn0.refl _ | apply Drawn0.step)⟩
            · replace c13 := Bool.eq_false_iff.mpr c13; subst c13; (have H1 : (some (x4_5, 0)) = some (r1, r2) := by rw [if_neg (show ¬ (false = true) by decide)] at H; exact H); clear H; have H := H1; clear H1; simp only [Option.some.injEq, Prod.mk.injEq] at H; obtain ⟨rfl, rfl⟩ := H; go_wp2_with (first | ((with_reducible refine gate_callee (f := 68) rfl ?_); refine goesL_ (some 11) rfl rfl Try.func68 (by kernel_rfl) rfl #[.slice A0 l0.length c0] rfl gf ?_; (with_reducible refine (spec_FewerDo.calls kj5 _ _ l0 false _ ?side1 ?side2 A8.out).mono ?_); (case side1 => repeat (first | exact HR0.out | (with_reducible refine Kd.C_alloc ?_ _) | (with_reducible refine Kd.C_drewN ?_ _) | (with_reducible refine Kd.C_drew ?_))); (case side2 => exact HC0.out); rintro e w' ⟨rfl, ⟨nd, rfl⟩⟩; refine ⟨_, rfl, ?_⟩) | ((with_reducible refine gate_callee (f := 69) rfl ?_); refine goesL_ (some 13) rfl rfl Try.func69 (by kernel_rfl) rfl #[.slice A0 l0.length c0] rfl gf ?_; (with_reducible refine (spec_MoreDo.calls kj5 _ _ l0 false _ ?side1 ?side2 A12.out).mono ?_); (case side1 => repeat (first | exact HR0.out | (with_reducible refine Kd.C_alloc ?_ _) | (with_reducible refine Kd.C_drewN ?_ _) | (with_reducible refine Kd.C_drew ?_))); (case side2 => exact HC0.out); rintro e w' ⟨rfl, ⟨nd, rfl⟩⟩; refine ⟨_, rfl, ?_⟩)); go_ret2; exact ⟨mr, by repeat (first | exact Drawn0.refl _ | apply Drawn0.step)⟩

end Go.Proofs.Ytfjfdnododnepaa.PFnReplacedIn
