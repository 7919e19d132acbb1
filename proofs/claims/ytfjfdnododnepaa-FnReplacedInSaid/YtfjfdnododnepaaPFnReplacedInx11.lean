-- Written by a program of this session (wip/patch_print.py, over the kit's print) and not by hand; Lean checks every word.
import Derived.Test.YtfjfdnododnepaaPFnReplacedInxb
import Derived.Test.YtfjfdnododnepaaPFnReplacedInx0
import Derived.Test.YtfjfdnododnepaaPFnReplacedInx5
import Derived.Test.YtfjfdnododnepaaPFnReplacedInx10
namespace Go.Proofs.Ytfjfdnododnepaa.PFnReplacedIn
open Go.RowKit Go.Proofs.YtfjfdnododnepaaW.PrintWords Go.Proofs.YtfjfdnododnepaaW.PrintLast Go.Proofs.YtfjfdnododnepaaW.PrintMore
attribute [local go_sem] max2_int min2_int max_two min_two max_three min_three max_four min_four   -- for this text's walks alone
set_option linter.unusedVariables false
set_option linter.unusedSimpArgs false

/-! ### spec_l7Place: function 35 -/
mutual
def spec_l7Place.l0 : Nat → ByteArray → Int → Int → Int → Int → Option (Int)
  | 0, _, _, _, _, _ => none
  | k + 1, x0, x1, x5, x6, x7 => if x7 < (x0.size : Int) then (if 0 ≤ x7 then (if (bt x0 x7) = 40 then (spec_l7Place.j1 k x0 x1 x5 (wrap64 (x6 + 1)) x7 (decide (x6 > 0))) else (spec_l7Place.j1 k x0 x1 x5 x6 x7 (decide (x6 > 0)))) else (none)) else (some (-1))
def spec_l7Place.j1 : Nat → ByteArray → Int → Int → Int → Int → Bool → Option (Int)
  | 0, _, _, _, _, _, _ => none
  | k + 1, x0, x1, x5, x6, x7, x8 => if 0 ≤ x7 then (if x7 < (x0.size : Int) then (if (bt x0 x7) = 41 then (spec_l7Place.j2 k x0 x1 x5 (wrap64 (x6 - 1)) x7 x8) else (spec_l7Place.j2 k x0 x1 x5 x6 x7 x8)) else (none)) else (none)
def spec_l7Place.j2 : Nat → ByteArray → Int → Int → Int → Int → Bool → Option (Int)
  | 0, _, _, _, _, _, _ => none
  | k + 1, x0, x1, x5, x6, x7, x8 => if x8 = true then (if 0 ≤ x7 then (if x7 < (x0.size : Int) then (if (bt x0 x7) ≥ 97 then (spec_l7Place.j3 k x0 x1 x5 x6 x7 (decide ((bt x0 x7) < 101))) else (spec_l7Place.j3 k x0 x1 x5 x6 x7 false)) else (none)) else (none)) else (spec_l7Place.j3 k x0 x1 x5 x6 x7 false)
def spec_l7Place.j3 : Nat → ByteArray → Int → Int → Int → Int → Bool → Option (Int)
  | 0, _, _, _, _, _, _ => none
  | k + 1, x0, x1, x5, x6, x7, x41 => if x41 = true then (if x5 = x1 then (some x7) else (spec_l7Place.l0 k x0 x1 (wrap64 (x5 + 1)) x6 (wrap64 (x7 + 1)))) else (spec_l7Place.l0 k x0 x1 x5 x6 (wrap64 (x7 + 1)))
end
def spec_l7Place.f (k : Nat) (a0 : ByteArray) (a1 : Int) : Option (Int) := spec_l7Place.l0 k a0 a1 0 0 0
theorem spec_l7Place.mono_l : ∀ k, (∀ y0 y1 y2 y3 y4, LeO (spec_l7Place.l0 k y0 y1 y2 y3 y4) (spec_l7Place.l0 (k + 1) y0 y1 y2 y3 y4)) ∧ (∀ y0 y1 y2 y3 y4 y5, LeO (spec_l7Place.j1 k y0 y1 y2 y3 y4 y5) (spec_l7Place.j1 (k + 1) y0 y1 y2 y3 y4 y5)) ∧ (∀ y0 y1 y2 y3 y4 y5, LeO (spec_l7Place.j2 k y0 y1 y2 y3 y4 y5) (spec_l7Place.j2 (k + 1) y0 y1 y2 y3 y4 y5)) ∧ (∀ y0 y1 y2 y3 y4 y5, LeO (spec_l7Place.j3 k y0 y1 y2 y3 y4 y5) (spec_l7Place.j3 (k + 1) y0 y1 y2 y3 y4 y5))
  | 0 => ⟨fun _ _ _ _ _ r h => by simp [spec_l7Place.l0] at h, fun _ _ _ _ _ _ r h => by simp [spec_l7Place.j1] at h, fun _ _ _ _ _ _ r h => by simp [spec_l7Place.j2] at h, fun _ _ _ _ _ _ r h => by simp [spec_l7Place.j3] at h⟩
  | k + 1 => by
    obtain ⟨ih0, ih1, ih2, ih3⟩ := spec_l7Place.mono_l k; refine ⟨?_, ?_, ?_, ?_⟩
    · intro y0 y1 y2 y3 y4; unfold spec_l7Place.l0; repeat' first
      | (with_reducible exact ih0 _ _ _ _ _)
      | (with_reducible exact ih1 _ _ _ _ _ _)
      | (with_reducible exact ih2 _ _ _ _ _ _)
      | (with_reducible exact ih3 _ _ _ _ _ _)
      | (with_reducible exact LeO.refl _)
      | (with_reducible exact LeO.none _)
      | (with_reducible refine LeO.ite ?_ ?_)
      | (with_reducible refine LeO.bind ?_ (fun _ => ?_))
      | exact ih0 _ _ _ _ _
      | exact ih1 _ _ _ _ _ _
      | exact ih2 _ _ _ _ _ _
      | exact ih3 _ _ _ _ _ _
      | exact LeO.none _
      | refine LeO.ite ?_ ?_
      | refine LeO.bind ?_ (fun _ => ?_)
    · intro y0 y1 y2 y3 y4 y5; unfold spec_l7Place.j1; repeat' first
      | (with_reducible exact ih0 _ _ _ _ _)
      | (with_reducible exact ih1 _ _ _ _ _ _)
      | (with_reducible exact ih2 _ _ _ _ _ _)
      | (with_reducible exact ih3 _ _ _ _ _ _)
      | (with_reducible exact LeO.refl _)
      | (with_reducible exact LeO.none _)
      | (with_reducible refine LeO.ite ?_ ?_)
      | (with_reducible refine LeO.bind ?_ (fun _ => ?_))
      | exact ih0 _ _ _ _ _
      | exact ih1 _ _ _ _ _ _
      | exact ih2 _ _ _ _ _ _
      | exact ih3 _ _ _ _ _ _
      | exact LeO.none _
      | refine LeO.ite ?_ ?_
      | refine LeO.bind ?_ (fun _ => ?_)
    · intro y0 y1 y2 y3 y4 y5; unfold spec_l7Place.j2; repeat' first
      | (with_reducible exact ih0 _ _ _ _ _)
      | (with_reducible exact ih1 _ _ _ _ _ _)
      | (with_reducible exact ih2 _ _ _ _ _ _)
      | (with_reducible exact ih3 _ _ _ _ _ _)
      | (with_reducible exact LeO.refl _)
      | (with_reducible exact LeO.none _)
      | (with_reducible refine LeO.ite ?_ ?_)
      | (with_reducible refine LeO.bind ?_ (fun _ => ?_))
      | exact ih0 _ _ _ _ _
      | exact ih1 _ _ _ _ _ _
      | exact ih2 _ _ _ _ _ _
      | exact ih3 _ _ _ _ _ _
      | exact LeO.none _
      | refine LeO.ite ?_ ?_
      | refine LeO.bind ?_ (fun _ => ?_)
    · intro y0 y1 y2 y3 y4 y5; unfold spec_l7Place.j3; repeat' first
      | (with_reducible exact ih0 _ _ _ _ _)
      | (with_reducible exact ih1 _ _ _ _ _ _)
      | (with_reducible exact ih2 _ _ _ _ _ _)
      | (with_reducible exact ih3 _ _ _ _ _ _)
      | (with_reducible exact LeO.refl _)
      | (with_reducible exact LeO.none _)
      | (with_reducible refine LeO.ite ?_ ?_)
      | (with_reducible refine LeO.bind ?_ (fun _ => ?_))
      | exact ih0 _ _ _ _ _
      | exact ih1 _ _ _ _ _ _
      | exact ih2 _ _ _ _ _ _
      | exact ih3 _ _ _ _ _ _
      | exact LeO.none _
      | refine LeO.ite ?_ ?_
      | refine LeO.bind ?_ (fun _ => ?_)
theorem spec_l7Place.mono : ∀ a0 a1 k, LeO (spec_l7Place.f k a0 a1) (spec_l7Place.f (k + 1) a0 a1) := by
  intro a0 a1 k; obtain ⟨ih0, ih1, ih2, ih3⟩ := spec_l7Place.mono_l k; unfold spec_l7Place.f
  repeat' first
      | (with_reducible exact ih0 _ _ _ _ _)
      | (with_reducible exact ih1 _ _ _ _ _ _)
      | (with_reducible exact ih2 _ _ _ _ _ _)
      | (with_reducible exact ih3 _ _ _ _ _ _)
      | (with_reducible exact LeO.refl _)
      | (with_reducible exact LeO.none _)
      | (with_reducible refine LeO.ite ?_ ?_)
      | (with_reducible refine LeO.bind ?_ (fun _ => ?_))
      | exact ih0 _ _ _ _ _
      | exact ih1 _ _ _ _ _ _
      | exact ih2 _ _ _ _ _ _
      | exact ih3 _ _ _ _ _ _
      | exact LeO.none _
      | refine LeO.ite ?_ ?_
      | refine LeO.bind ?_ (fun _ => ?_)
set_option maxHeartbeats 8000000 in
set_option maxRecDepth 100000 in
theorem spec_l7Place.calls (k : Nat) (a0 : ByteArray) (a1 : Int) (r : Int) (w : World) (h : spec_l7Place.f k a0 a1 = some r) :
    Calls Try.prog 35 #[.string a0, .int .i64 a1] w fun e w' => e = .returned (.int .i64 r) ∧ Drawn0 w w' := by
  have H : (spec_l7Place.l0 k a0 a1 0 0 0) = some r := h; clear h; have H' := Aside0.mk H; clear H; go_enter Try.func35, Try.ntmps35; go_wp2; go_loopg [5, 6, 7] k (fun kq v5 v6 v7 w' => ∃ (x5_1 : Int) (x6_1 : Int) (x7_1 : Int), v5 = .int .i64 x5_1 ∧ v6 = .int .i64 x6_1 ∧ v7 = .int .i64 x7_1 ∧ Aside0 (spec_l7Place.l0 kq a0 a1 x5_1 x6_1 x7_1 = some r) ∧ Aside0 (kq ≤ k) ∧ Drawn0 w w'); case atStart => exact ⟨(0), (0), (0), mr, mr, mr, H', ⟨Nat.le_refl _⟩, by repeat (first | exact Drawn0.refl _ | apply Drawn0.step)⟩
  case round =>
    clear H'; obtain ⟨x5_1, x6_1, x7_1, rfl, rfl, rfl, HA, HK1, ⟨m1, rfl⟩⟩ := hrel
    cases gk with
    | zero => exact absurd HA.out (by simp [spec_l7Place.l0])
    | succ k1 =>
      have H := HA.out; clear HA; simp only [spec_l7Place.l0] at H; by_cases c3 : x7_1 < (a0.size : Int)
      · rw [if_pos c3] at H; have c3b0 : decide (x7_1 < (a0.size : Int)) = true := decide_eq_true c3; clear c3; by_cases c4 : 0 ≤ x7_1
        · rw [if_pos c4] at H; have c4b0 : decide (0 ≤ x7_1) = true := decide_eq_true c4; clear c4; obtain ⟨X8, hX8⟩ : ∃ X8, decide (x6_1 > 0) = X8 := ⟨_, rfl⟩; rw [hX8] at H; have hX8b : decide (0 < x6_1) = X8 := hX8; have HC6 := Aside0.mk H; clear H; have p5 : 0 ≤ (x7_1 : Int) := of_decide_eq_true fa; have q5 : x7_1 < (a0.size : Int) := of_decide_eq_true fa; have hx5 := bt_at a0 x7_1; replace p5 := eq_true p5; replace q5 := eq_true q5; go_upto_if 20 with (fail); go_cut [6] (fun v6 wc => ∃ (kq : Nat) (x6_5 : Int), v6 = .int .i64 x6_5 ∧ Aside0 (spec_l7Place.j1 kq a0 a1 x5_1 x6_5 x7_1 X8 = some r) ∧ Aside0 (kq ≤ k1) ∧ Drawn0 w wc)
          case first =>
            have H := HC6.out; clear HC6; by_cases c7 : (bt a0 x7_1) = 40
            · rw [if_pos c7] at H; have c7b0 : ((bt a0 x7_1) == 40) = true := beq_iff_eq.mpr c7; have c7b1 : ((bt a0 x7_1) != 40) = false := bne_eq_false_iff_eq.mpr c7; clear c7; (first | rw [c7b0] | (simp only [i64_w, i32_w]; rw [c7b0]) | skip); have H' := Aside0.mk H; clear H; go_wp2; go_meet; case rel => exact ⟨_, (wrap64 (x6_1 + 1)), mr, H', ⟨by have := HK1.out; first | omega | exact Nat.le_refl _⟩, by repeat (first | exact Drawn0.refl _ | apply Drawn0.step)⟩
            · rw [if_neg c7] at H; have c7b0 : ((bt a0 x7_1) == 40) = false := beq_eq_false_iff_ne.mpr c7; have c7b1 : ((bt a0 x7_1) != 40) = true := bne_iff_ne.mpr c7; (first | rw [c7b0] | (simp only [i64_w, i32_w]; rw [c7b0]) | skip); have H' := Aside0.mk H; clear H; go_wp2; go_meet; case rel => exact ⟨_, (x6_1), mr, H', ⟨by have := HK1.out; first | omega | exact Nat.le_refl _⟩, by repeat (first | exact Drawn0.refl _ | apply Drawn0.step)⟩
          case rest =>
            clear HC6; (try clear c3); (try clear c3b0); (try clear c4); (try clear c4b0); (try clear p5); (try clear q5); (try clear hx5); (try clear p5); (try clear q5); obtain ⟨kq, x6_5, rfl, HA, HJ5, ⟨mc5, rfl⟩⟩ := hcut
            cases kq with
            | zero => exact absurd HA.out (by simp [spec_l7Place.j1])
            | succ kj5 =>
              have H := HA.out; clear HA; simp only [spec_l7Place.j1] at H; by_cases c8 : 0 ≤ x7_1
              · rw [if_pos c8] at H; have c8b0 : decide (0 ≤ x7_1) = true := decide_eq_true c8; clear c8; by_cases c9 : x7_1 < (a0.size : Int)
                · rw [if_pos c9] at H; have c9b0 : decide (x7_1 < (a0.size : Int)) = true := decide_eq_true c9; clear c9; have HC11 := Aside0.mk H; clear H; have p10 : 0 ≤ (x7_1 : Int) := of_decide_eq_true fa; have q10 : x7_1 < (a0.size : Int) := of_decide_eq_true fa; have hx10 := bt_at a0 x7_1; replace p10 := eq_true p10; replace q10 := eq_true q10; go_upto_if 26 with (fail); go_cut [6] (fun v6 wc => ∃ (kq : Nat) (x6_10 : Int), v6 = .int .i64 x6_10 ∧ Aside0 (spec_l7Place.j2 kq a0 a1 x5_1 x6_10 x7_1 X8 = some r) ∧ Aside0 (kq ≤ kj5) ∧ Drawn0 w wc)
                  case first =>
                    have H := HC11.out; clear HC11; by_cases c12 : (bt a0 x7_1) = 41
                    · rw [if_pos c12] at H; have c12b0 : ((bt a0 x7_1) == 41) = true := beq_iff_eq.mpr c12; have c12b1 : ((bt a0 x7_1) != 41) = false := bne_eq_false_iff_eq.mpr c12; clear c12; (first | rw [c12b0] | (simp only [i64_w, i32_w]; rw [c12b0]) | skip); have H' := Aside0.mk H; clear H; go_wp2; go_meet; case rel => exact ⟨_, (wrap64 (x6_5 - 1)), mr, H', ⟨by have := HK1.out; have := HJ5.out; first | omega | exact Nat.le_refl _⟩, by repeat (first | exact Drawn0.refl _ | apply Drawn0.step)⟩
                    · rw [if_neg c12] at H; have c12b0 : ((bt a0 x7_1) == 41) = false := beq_eq_false_iff_ne.mpr c12; have c12b1 : ((bt a0 x7_1) != 41) = true := bne_iff_ne.mpr c12; (first | rw [c12b0] | (simp only [i64_w, i32_w]; rw [c12b0]) | skip); have H' := Aside0.mk H; clear H; go_wp2; go_meet; case rel => exact ⟨_, (x6_5), mr, H', ⟨by have := HK1.out; have := HJ5.out; first | omega | exact Nat.le_refl _⟩, by repeat (first | exact Drawn0.refl _ | apply Drawn0.step)⟩
                  case rest =>
                    clear HC11; (try clear c3); (try clear c3b0); (try clear c4); (try clear c4b0); (try clear p5); (try clear q5); (try clear hx5); (try clear c7); (try clear c7b0); (try clear c7b1); (try clear c8); (try clear c8b0); (try clear c9); (try clear c9b0); (try clear p10); (try clear q10); (try clear hx10); (try clear p10); (try clear p5); (try clear q10); (try clear q5); obtain ⟨kq, x6_10, rfl, HA, HJ10, ⟨mc10, rfl⟩⟩ := hcut
                    cases kq with
                    | zero => exact absurd HA.out (by simp [spec_l7Place.j2])
                    | succ kj10 =>
                      have H := HA.out; clear HA; simp only [spec_l7Place.j2] at H; have HC13 := Aside0.mk H; clear H; go_upto_region 11 with (fail); go_cut [41] (fun v41 wc => ∃ (kq : Nat) (x41_12 : Bool), v41 = .bool x41_12 ∧ Aside0 (spec_l7Place.j3 kq a0 a1 x5_1 x6_10 x7_1 x41_12 = some r) ∧ Aside0 (kq ≤ kj10) ∧ Drawn0 w wc)
                      case first =>
                        have H := HC13.out; clear HC13; by_cases c14 : X8 = true
                        · rw [if_pos c14] at H; subst c14; (first | rw [c14b0] | (simp only [i64_w, i32_w]; rw [c14b0]) | skip); by_cases c15 : 0 ≤ x7_1
                          · rw [if_pos c15] at H; have c15b0 : decide (0 ≤ x7_1) = true := decide_eq_true c15; clear c15; by_cases c16 : x7_1 < (a0.size : Int)
                            · rw [if_pos c16] at H; have c16b0 : decide (x7_1 < (a0.size : Int)) = true := decide_eq_true c16; clear c16; by_cases c18 : (bt a0 x7_1) ≥ 97
                              · rw [if_pos c18] at H; have c18b0 : decide (97 ≤ (bt a0 x7_1)) = true := decide_eq_true c18; clear c18; have H' := Aside0.mk H; clear H; have p17 : 0 ≤ (x7_1 : Int) := of_decide_eq_true fa; have q17 : x7_1 < (a0.size : Int) := of_decide_eq_true fa; have hx17 := bt_at a0 x7_1; replace p17 := eq_true p17; replace q17 := eq_true q17; have p19 : 0 ≤ (x7_1 : Int) := of_decide_eq_true fa; have q19 : x7_1 < (a0.size : Int) := of_decide_eq_true fa; have hx19 := bt_at a0 x7_1; replace p19 := eq_true p19; replace q19 := eq_true q19; go_wp2; go_meet; case rel => exact ⟨_, (decide ((bt a0 x7_1) < 101)), mr, H', ⟨by have := HK1.out; have := HJ5.out; have := HJ10.out; first | omega | exact Nat.le_refl _⟩, by repeat (first | exact Drawn0.refl _ | apply Drawn0.step)⟩
                              · rw [if_neg c18] at H; have c18b0 : decide (97 ≤ (bt a0 x7_1)) = false := decide_eq_false c18; clear c18; have H' := Aside0.mk H; clear H; have p17 : 0 ≤ (x7_1 : Int) := of_decide_eq_true fa; have q17 : x7_1 < (a0.size : Int) := of_decide_eq_true fa; have hx17 := bt_at a0 x7_1; replace p17 := eq_true p17; replace q17 := eq_true q17; go_wp2; go_meet; case rel => exact ⟨_, (false), mr, H', ⟨by have := HK1.out; have := HJ5.out; have := HJ10.out; first | omega | exact Nat.le_refl _⟩, by repeat (first | exact Drawn0.refl _ | apply Drawn0.step)⟩
                            · rw [if_neg c16] at H; exact absurd H (by simp)
                          · rw [if_neg c15] at H; exact absurd H (by simp)
                        · rw [if_neg c14] at H; (replace c14 : X8 = false := by simpa using c14); subst c14; (first | rw [c14b0] | (simp only [i64_w, i32_w]; rw [c14b0]) | skip); have H' := Aside0.mk H; clear H; go_wp2; go_meet; case rel => exact ⟨_, (false), mr, H', ⟨by have := HK1.out; have := HJ5.out; have := HJ10.out; first | omega | exact Nat.le_refl _⟩, by repeat (first | exact Drawn0.refl _ | apply Drawn0.step)⟩
                      case rest =>
                        clear HC13; (try clear c3); (try clear c3b0); (try clear c4); (try clear c4b0); (try clear p5); (try clear q5); (try clear hx5); (try clear c7); (try clear c7b0); (try clear c7b1); (try clear c8); (try clear c8b0); (try clear c9); (try clear c9b0); (try clear p10); (try clear q10); (try clear hx10); (try clear c12); (try clear c12b0); (try clear c12b1); (try clear p10); (try clear p5); (try clear q10); (try clear q5); obtain ⟨kq, x41_12, rfl, HA, HJ12, ⟨mc12, rfl⟩⟩ := hcut
                        cases kq with
                        | zero => exact absurd HA.out (by simp [spec_l7Place.j3])
                        | succ kj12 =>
                          have H := HA.out; clear HA; simp only [spec_l7Place.j3] at H; by_cases c20 : x41_12 = true
                          · subst c20; (have H1 : (if x5_1 = a1 then (some x7_1) else (spec_l7Place.l0 kj12 a0 a1 (wrap64 (x5_1 + 1)) x6_10 (wrap64 (x7_1 + 1)))) = some r := by rw [if_pos rfl] at H; exact H); clear H; have H := H1; clear H1; by_cases c21 : x5_1 = a1
                            · rw [if_pos c21] at H; have c21b0 : (x5_1 == a1) = true := beq_iff_eq.mpr c21; have c21b1 : (x5_1 != a1) = false := bne_eq_false_iff_eq.mpr c21; clear c21; obtain rfl := Option.some.inj H; go_wp2; go_ret; exact ⟨mr, by repeat (first | exact Drawn0.refl _ | apply Drawn0.step)⟩
                            · rw [if_neg c21] at H; have c21b0 : (x5_1 == a1) = false := beq_eq_false_iff_ne.mpr c21; have c21b1 : (x5_1 != a1) = true := bne_iff_ne.mpr c21; have H' := Aside0.mk H; clear H; go_wp2; go_roundg kj12; (case measure => have := HK1.out; have := HJ5.out; have := HJ10.out; have := HJ12.out; omega); case rel => exact ⟨(wrap64 (x5_1 + 1)), (x6_10), (wrap64 (x7_1 + 1)), mr, mr, mr, H', ⟨by have := HK1.out; have := HJ5.out; have := HJ10.out; have := HJ12.out; omega⟩, by repeat (first | exact Drawn0.refl _ | apply Drawn0.step)⟩
                          · replace c20 := Bool.eq_false_iff.mpr c20; subst c20; (have H1 : (spec_l7Place.l0 kj12 a0 a1 x5_1 x6_10 (wrap64 (x7_1 + 1))) = some r := by rw [if_neg (show ¬ (false = true) by decide)] at H; exact H); clear H; have H := H1; clear H1; have H' := Aside0.mk H; clear H; go_wp2; go_roundg kj12; (case measure => have := HK1.out; have := HJ5.out; have := HJ10.out; have := HJ12.out; omega); case rel => exact ⟨(x5_1), (x6_10), (wrap64 (x7_1 + 1)), mr, mr, mr, H', ⟨by have := HK1.out; have := HJ5.out; have := HJ10.out; have := HJ12.out; omega⟩, by repeat (first | exact Drawn0.refl _ | apply Drawn0.step)⟩
                · rw [if_neg c9] at H; exact absurd H (by simp)
              · rw [if_neg c8] at H; exact absurd H (by simp)
        · rw [if_neg c4] at H; exact absurd H (by simp)
      · rw [if_neg c3] at H; have c3b0 : decide (x7_1 < (a0.size : Int)) = false := decide_eq_false c3; clear c3; obtain rfl := Option.some.inj H; go_wp2; go_ret; exact ⟨mr, by repeat (first | exact Drawn0.refl _ | apply Drawn0.step)⟩

/-! ### spec_ReplacedIn: function 17 -/
def spec_ReplacedIn.f (k : Nat) (a0 : ByteArray) (a1 : Int) (a2 : Int) : Option (ByteArray × Bool) := (spec_SentenceOk.f a0).bind fun t227 => (if t227 = true then ((spec_MarksOf.f k a0).bind fun t228 => ((spec_l1In.f a1 0 (wrap64 ((t228.size : Int) - 1))).bind fun t229 => (if t229 = true then ((spec_l1In.f a2 0 3).bind fun t230 => (if t230 = true then ((spec_l7Place.f k a0 a1).bind fun t231 => (if 0 ≤ t231 then (if t231 ≤ (a0.size : Int) then ((some (([(⟨#[97]⟩ : ByteArray), (⟨#[98]⟩ : ByteArray), (⟨#[99]⟩ : ByteArray), (⟨#[100]⟩ : ByteArray)] : List ByteArray) : List ByteArray)).bind fun y232 => (if 0 ≤ a2 then (if a2 < (y232.length : Int) then (if (a0.extract 0 (t231 : Int).toNat).size + (rdOf ByteArray.empty y232 a2).size ≤ 9223372036854775807 then (if 0 ≤ (wrap64 (t231 + 1)) then (if (wrap64 (t231 + 1)) ≤ (a0.size : Int) then (if (a0.extract 0 (t231 : Int).toNat).size + (rdOf ByteArray.empty y232 a2).size + (a0.extract ((wrap64 (t231 + 1)) : Int).toNat a0.size).size ≤ 9223372036854775807 then (some (((a0.extract 0 (t231 : Int).toNat) ++ (rdOf ByteArray.empty y232 a2)) ++ (a0.extract ((wrap64 (t231 + 1)) : Int).toNat a0.size), true)) else (none)) else (none)) else (none)) else (none)) else (none)) else (none))) else (none)) else (none))) else (some ((⟨#[]⟩ : ByteArray), false)))) else (some ((⟨#[]⟩ : ByteArray), false))))) else (some ((⟨#[]⟩ : ByteArray), false)))
theorem spec_ReplacedIn.mono : ∀ a0 a1 a2 k, LeO (spec_ReplacedIn.f k a0 a1 a2) (spec_ReplacedIn.f (k + 1) a0 a1 a2) := by
  intro a0 a1 a2 k; unfold spec_ReplacedIn.f
  repeat' first
      | (with_reducible exact spec_MarksOf.mono _ _)
      | (with_reducible exact spec_l7Place.mono _ _ _)
      | (with_reducible exact LeO.refl _)
      | (with_reducible exact LeO.none _)
      | (with_reducible refine LeO.ite ?_ ?_)
      | (with_reducible refine LeO.bind ?_ (fun _ => ?_))
      | exact spec_MarksOf.mono _ _
      | exact spec_l7Place.mono _ _ _
      | exact LeO.none _
      | refine LeO.ite ?_ ?_
      | refine LeO.bind ?_ (fun _ => ?_)
def spec_ReplacedIn.T4 : Bool × List (List Nat × List Nat) := (true, [([], []), ([], []), ([0, 1], [0, 1]), ([], []), ([], []), ([3, 4], [3, 4]), ([5], [5]), ([2, 6], [2, 6]), ([], []), ([], []), ([9], [9]), ([8, 10], [8, 10]), ([7, 11], [7, 11]), ([12, 0, 1, 2, 3, 4, 5, 6, 7, 8, 9, 10, 11, 12], [12]), ([13, 0, 1, 2, 3, 4, 5, 6, 7, 8, 9, 10, 11, 12, 13], [])])
def spec_ReplacedIn.B4 : List Nat := [0, 0, 3, 0, 0, 24, 56, 127, 0, 0, 512, 1792, 4095, 8191, 16383]
theorem spec_ReplacedIn.tab4 : rtab .any (opsOf Try.f17 4) = spec_ReplacedIn.T4 := by kernel_rfl
theorem spec_ReplacedIn.bits4 : waitsOk spec_ReplacedIn.T4.2 spec_ReplacedIn.B4 = true := by kernel_rfl
set_option maxHeartbeats 8000000 in
set_option maxRecDepth 100000 in
theorem spec_ReplacedIn.calls (k : Nat) (a0 : ByteArray) (a1 : Int) (a2 : Int) (r1 : ByteArray) (r2 : Bool) (w : World) (h : spec_ReplacedIn.f k a0 a1 a2 = some (r1, r2)) :
    Calls Try.prog 17 #[.string a0, .int .i64 a1, .int .i64 a2] w fun e w' => e = .returned (.tuple #[.string r1, .bool r2]) ∧ Below w.heap.size w w' := by
  have HB := Az (Below.refl w.heap.size w); have H : ((spec_SentenceOk.f a0).bind fun t227 => (if t227 = true then ((spec_MarksOf.f k a0).bind fun t228 => ((spec_l1In.f a1 0 (wrap64 ((t228.size : Int) - 1))).bind fun t229 => (if t229 = true then ((spec_l1In.f a2 0 3).bind fun t230 => (if t230 = true then ((spec_l7Place.f k a0 a1).bind fun t231 => (if 0 ≤ t231 then (if t231 ≤ (a0.size : Int) then ((some (([(⟨#[97]⟩ : ByteArray), (⟨#[98]⟩ : ByteArray), (⟨#[99]⟩ : ByteArray), (⟨#[100]⟩ : ByteArray)] : List ByteArray) : List ByteArray)).bind fun y232 => (if 0 ≤ a2 then (if a2 < (y232.length : Int) then (if (a0.extract 0 (t231 : Int).toNat).size + (rdOf ByteArray.empty y232 a2).size ≤ 9223372036854775807 then (if 0 ≤ (wrap64 (t231 + 1)) then (if (wrap64 (t231 + 1)) ≤ (a0.size : Int) then (if (a0.extract 0 (t231 : Int).toNat).size + (rdOf ByteArray.empty y232 a2).size + (a0.extract ((wrap64 (t231 + 1)) : Int).toNat a0.size).size ≤ 9223372036854775807 then (some (((a0.extract 0 (t231 : Int).toNat) ++ (rdOf ByteArray.empty y232 a2)) ++ (a0.extract ((wrap64 (t231 + 1)) : Int).toNat a0.size), true)) else (none)) else (none)) else (none)) else (none)) else (none)) else (none))) else (none)) else (none))) else (some ((⟨#[]⟩ : ByteArray), false)))) else (some ((⟨#[]⟩ : ByteArray), false))))) else (some ((⟨#[]⟩ : ByteArray), false)))) = some (r1, r2) := h; clear h; replace H := Option.bind_eq_some_iff.mp H; obtain ⟨t227, A40, H⟩ := H; replace H : (if t227 = true then ((spec_MarksOf.f k a0).bind fun t228 => ((spec_l1In.f a1 0 (wrap64 ((t228.size : Int) - 1))).bind fun t229 => (if t229 = true then ((spec_l1In.f a2 0 3).bind fun t230 => (if t230 = true then ((spec_l7Place.f k a0 a1).bind fun t231 => (if 0 ≤ t231 then (if t231 ≤ (a0.size : Int) then ((some (([(⟨#[97]⟩ : ByteArray), (⟨#[98]⟩ : ByteArray), (⟨#[99]⟩ : ByteArray), (⟨#[100]⟩ : ByteArray)] : List ByteArray) : List ByteArray)).bind fun y232 => (if 0 ≤ a2 then (if a2 < (y232.length : Int) then (if (a0.extract 0 (t231 : Int).toNat).size + (rdOf ByteArray.empty y232 a2).size ≤ 9223372036854775807 then (if 0 ≤ (wrap64 (t231 + 1)) then (if (wrap64 (t231 + 1)) ≤ (a0.size : Int) then (if (a0.extract 0 (t231 : Int).toNat).size + (rdOf ByteArray.empty y232 a2).size + (a0.extract ((wrap64 (t231 + 1)) : Int).toNat a0.size).size ≤ 9223372036854775807 then (some (((a0.extract 0 (t231 : Int).toNat) ++ (rdOf ByteArray.empty y232 a2)) ++ (a0.extract ((wrap64 (t231 + 1)) : Int).toNat a0.size), true)) else (none)) else (none)) else (none)) else (none)) else (none)) else (none))) else (none)) else (none))) else (some ((⟨#[]⟩ : ByteArray), false)))) else (some ((⟨#[]⟩ : ByteArray), false))))) else (some ((⟨#[]⟩ : ByteArray), false))) = some (r1, r2) := H; have A4 := Aside0.mk A40; clear A40; by_cases c5 : t227 = true
  · subst c5; (have H1 : ((spec_MarksOf.f k a0).bind fun t228 => ((spec_l1In.f a1 0 (wrap64 ((t228.size : Int) - 1))).bind fun t229 => (if t229 = true then ((spec_l1In.f a2 0 3).bind fun t230 => (if t230 = true then ((spec_l7Place.f k a0 a1).bind fun t231 => (if 0 ≤ t231 then (if t231 ≤ (a0.size : Int) then ((some (([(⟨#[97]⟩ : ByteArray), (⟨#[98]⟩ : ByteArray), (⟨#[99]⟩ : ByteArray), (⟨#[100]⟩ : ByteArray)] : List ByteArray) : List ByteArray)).bind fun y232 => (if 0 ≤ a2 then (if a2 < (y232.length : Int) then (if (a0.extract 0 (t231 : Int).toNat).size + (rdOf ByteArray.empty y232 a2).size ≤ 9223372036854775807 then (if 0 ≤ (wrap64 (t231 + 1)) then (if (wrap64 (t231 + 1)) ≤ (a0.size : Int) then (if (a0.extract 0 (t231 : Int).toNat).size + (rdOf ByteArray.empty y232 a2).size + (a0.extract ((wrap64 (t231 + 1)) : Int).toNat a0.size).size ≤ 9223372036854775807 then (some (((a0.extract 0 (t231 : Int).toNat) ++ (rdOf ByteArray.empty y232 a2)) ++ (a0.extract ((wrap64 (t231 + 1)) : Int).toNat a0.size), true)) else (none)) else (none)) else (none)) else (none)) else (none)) else (none))) else (none)) else (none))) else (some ((⟨#[]⟩ : ByteArray), false)))) else (some ((⟨#[]⟩ : ByteArray), false))))) = some (r1, r2) := by rw [if_pos rfl] at H; exact H); clear H; have H := H1; clear H1; replace H := Option.bind_eq_some_iff.mp H; obtain ⟨t228, A60, H⟩ := H; replace H : ((spec_l1In.f a1 0 (wrap64 ((t228.size : Int) - 1))).bind fun t229 => (if t229 = true then ((spec_l1In.f a2 0 3).bind fun t230 => (if t230 = true then ((spec_l7Place.f k a0 a1).bind fun t231 => (if 0 ≤ t231 then (if t231 ≤ (a0.size : Int) then ((some (([(⟨#[97]⟩ : ByteArray), (⟨#[98]⟩ : ByteArray), (⟨#[99]⟩ : ByteArray), (⟨#[100]⟩ : ByteArray)] : List ByteArray) : List ByteArray)).bind fun y232 => (if 0 ≤ a2 then (if a2 < (y232.length : Int) then (if (a0.extract 0 (t231 : Int).toNat).size + (rdOf ByteArray.empty y232 a2).size ≤ 9223372036854775807 then (if 0 ≤ (wrap64 (t231 + 1)) then (if (wrap64 (t231 + 1)) ≤ (a0.size : Int) then (if (a0.extract 0 (t231 : Int).toNat).size + (rdOf ByteArray.empty y232 a2).size + (a0.extract ((wrap64 (t231 + 1)) : Int).toNat a0.size).size ≤ 9223372036854775807 then (some (((a0.extract 0 (t231 : Int).toNat) ++ (rdOf ByteArray.empty y232 a2)) ++ (a0.extract ((wrap64 (t231 + 1)) : Int).toNat a0.size), true)) else (none)) else (none)) else (none)) else (none)) else (none)) else (none))) else (none)) else (none))) else (some ((⟨#[]⟩ : ByteArray), false)))) else (some ((⟨#[]⟩ : ByteArray), false)))) = some (r1, r2) := H; have A6 := Aside0.mk A60; clear A60; replace H := Option.bind_eq_some_iff.mp H; obtain ⟨t229, A70, H⟩ := H; replace H : (if t229 = true then ((spec_l1In.f a2 0 3).bind fun t230 => (if t230 = true then ((spec_l7Place.f k a0 a1).bind fun t231 => (if 0 ≤ t231 then (if t231 ≤ (a0.size : Int) then ((some (([(⟨#[97]⟩ : ByteArray), (⟨#[98]⟩ : ByteArray), (⟨#[99]⟩ : ByteArray), (⟨#[100]⟩ : ByteArray)] : List ByteArray) : List ByteArray)).bind fun y232 => (if 0 ≤ a2 then (if a2 < (y232.length : Int) then (if (a0.extract 0 (t231 : Int).toNat).size + (rdOf ByteArray.empty y232 a2).size ≤ 9223372036854775807 then (if 0 ≤ (wrap64 (t231 + 1)) then (if (wrap64 (t231 + 1)) ≤ (a0.size : Int) then (if (a0.extract 0 (t231 : Int).toNat).size + (rdOf ByteArray.empty y232 a2).size + (a0.extract ((wrap64 (t231 + 1)) : Int).toNat a0.size).size ≤ 9223372036854775807 then (some (((a0.extract 0 (t231 : Int).toNat) ++ (rdOf ByteArray.empty y232 a2)) ++ (a0.extract ((wrap64 (t231 + 1)) : Int).toNat a0.size), true)) else (none)) else (none)) else (none)) else (none)) else (none)) else (none))) else (none)) else (none))) else (some ((⟨#[]⟩ : ByteArray), false)))) else (some ((⟨#[]⟩ : ByteArray), false))) = some (r1, r2) := H; have A7 := Aside0.mk A70; clear A70; by_cases c8 : t229 = true
    · subst c8; (have H1 : ((spec_l1In.f a2 0 3).bind fun t230 => (if t230 = true then ((spec_l7Place.f k a0 a1).bind fun t231 => (if 0 ≤ t231 then (if t231 ≤ (a0.size : Int) then ((some (([(⟨#[97]⟩ : ByteArray), (⟨#[98]⟩ : ByteArray), (⟨#[99]⟩ : ByteArray), (⟨#[100]⟩ : ByteArray)] : List ByteArray) : List ByteArray)).bind fun y232 => (if 0 ≤ a2 then (if a2 < (y232.length : Int) then (if (a0.extract 0 (t231 : Int).toNat).size + (rdOf ByteArray.empty y232 a2).size ≤ 9223372036854775807 then (if 0 ≤ (wrap64 (t231 + 1)) then (if (wrap64 (t231 + 1)) ≤ (a0.size : Int) then (if (a0.extract 0 (t231 : Int).toNat).size + (rdOf ByteArray.empty y232 a2).size + (a0.extract ((wrap64 (t231 + 1)) : Int).toNat a0.size).size ≤ 9223372036854775807 then (some (((a0.extract 0 (t231 : Int).toNat) ++ (rdOf ByteArray.empty y232 a2)) ++ (a0.extract ((wrap64 (t231 + 1)) : Int).toNat a0.size), true)) else (none)) else (none)) else (none)) else (none)) else (none)) else (none))) else (none)) else (none))) else (some ((⟨#[]⟩ : ByteArray), false)))) = some (r1, r2) := by rw [if_pos rfl] at H; exact H); clear H; have H := H1; clear H1; replace H := Option.bind_eq_some_iff.mp H; obtain ⟨t230, A90, H⟩ := H; replace H : (if t230 = true then ((spec_l7Place.f k a0 a1).bind fun t231 => (if 0 ≤ t231 then (if t231 ≤ (a0.size : Int) then ((some (([(⟨#[97]⟩ : ByteArray), (⟨#[98]⟩ : ByteArray), (⟨#[99]⟩ : ByteArray), (⟨#[100]⟩ : ByteArray)] : List ByteArray) : List ByteArray)).bind fun y232 => (if 0 ≤ a2 then (if a2 < (y232.length : Int) then (if (a0.extract 0 (t231 : Int).toNat).size + (rdOf ByteArray.empty y232 a2).size ≤ 9223372036854775807 then (if 0 ≤ (wrap64 (t231 + 1)) then (if (wrap64 (t231 + 1)) ≤ (a0.size : Int) then (if (a0.extract 0 (t231 : Int).toNat).size + (rdOf ByteArray.empty y232 a2).size + (a0.extract ((wrap64 (t231 + 1)) : Int).toNat a0.size).size ≤ 9223372036854775807 then (some (((a0.extract 0 (t231 : Int).toNat) ++ (rdOf ByteArray.empty y232 a2)) ++ (a0.extract ((wrap64 (t231 + 1)) : Int).toNat a0.size), true)) else (none)) else (none)) else (none)) else (none)) else (none)) else (none))) else (none)) else (none))) else (some ((⟨#[]⟩ : ByteArray), false))) = some (r1, r2) := H; have A9 := Aside0.mk A90; clear A90; by_cases c10 : t230 = true
      · subst c10; (have H1 : ((spec_l7Place.f k a0 a1).bind fun t231 => (if 0 ≤ t231 then (if t231 ≤ (a0.size : Int) then ((some (([(⟨#[97]⟩ : ByteArray), (⟨#[98]⟩ : ByteArray), (⟨#[99]⟩ : ByteArray), (⟨#[100]⟩ : ByteArray)] : List ByteArray) : List ByteArray)).bind fun y232 => (if 0 ≤ a2 then (if a2 < (y232.length : Int) then (if (a0.extract 0 (t231 : Int).toNat).size + (rdOf ByteArray.empty y232 a2).size ≤ 9223372036854775807 then (if 0 ≤ (wrap64 (t231 + 1)) then (if (wrap64 (t231 + 1)) ≤ (a0.size : Int) then (if (a0.extract 0 (t231 : Int).toNat).size + (rdOf ByteArray.empty y232 a2).size + (a0.extract ((wrap64 (t231 + 1)) : Int).toNat a0.size).size ≤ 9223372036854775807 then (some (((a0.extract 0 (t231 : Int).toNat) ++ (rdOf ByteArray.empty y232 a2)) ++ (a0.extract ((wrap64 (t231 + 1)) : Int).toNat a0.size), true)) else (none)) else (none)) else (none)) else (none)) else (none)) else (none))) else (none)) else (none))) = some (r1, r2) := by rw [if_pos rfl] at H; exact H); clear H; have H := H1; clear H1; replace H := Option.bind_eq_some_iff.mp H; obtain ⟨t231, A110, H⟩ := H; replace H : (if 0 ≤ t231 then (if t231 ≤ (a0.size : Int) then ((some (([(⟨#[97]⟩ : ByteArray), (⟨#[98]⟩ : ByteArray), (⟨#[99]⟩ : ByteArray), (⟨#[100]⟩ : ByteArray)] : List ByteArray) : List ByteArray)).bind fun y232 => (if 0 ≤ a2 then (if a2 < (y232.length : Int) then (if (a0.extract 0 (t231 : Int).toNat).size + (rdOf ByteArray.empty y232 a2).size ≤ 9223372036854775807 then (if 0 ≤ (wrap64 (t231 + 1)) then (if (wrap64 (t231 + 1)) ≤ (a0.size : Int) then (if (a0.extract 0 (t231 : Int).toNat).size + (rdOf ByteArray.empty y232 a2).size + (a0.extract ((wrap64 (t231 + 1)) : Int).toNat a0.size).size ≤ 9223372036854775807 then (some (((a0.extract 0 (t231 : Int).toNat) ++ (rdOf ByteArray.empty y232 a2)) ++ (a0.extract ((wrap64 (t231 + 1)) : Int).toNat a0.size), true)) else (none)) else (none)) else (none)) else (none)) else (none)) else (none))) else (none)) else (none)) = some (r1, r2) := H; have A11 := Aside0.mk A110; clear A110; by_cases c12 : 0 ≤ t231
        · rw [if_pos c12] at H; have c12b0 := eq_true c12; have c12b1 : decide (0 ≤ t231) = true := decide_eq_true c12; clear c12; by_cases c13 : t231 ≤ (a0.size : Int)
          · rw [if_pos c13] at H; have c13b0 := eq_true c13; have c13b1 : decide (t231 ≤ (a0.size : Int)) = true := decide_eq_true c13; clear c13; obtain ⟨y232, hy232⟩ : ∃ y_ : List ByteArray, y_ = (([(⟨#[97]⟩ : ByteArray), (⟨#[98]⟩ : ByteArray), (⟨#[99]⟩ : ByteArray), (⟨#[100]⟩ : ByteArray)] : List ByteArray)) := ⟨_, rfl⟩; (replace H : (if 0 ≤ a2 then (if a2 < (y232.length : Int) then (if (a0.extract 0 (t231 : Int).toNat).size + (rdOf ByteArray.empty y232 a2).size ≤ 9223372036854775807 then (if 0 ≤ (wrap64 (t231 + 1)) then (if (wrap64 (t231 + 1)) ≤ (a0.size : Int) then (if (a0.extract 0 (t231 : Int).toNat).size + (rdOf ByteArray.empty y232 a2).size + (a0.extract ((wrap64 (t231 + 1)) : Int).toNat a0.size).size ≤ 9223372036854775807 then (some (((a0.extract 0 (t231 : Int).toNat) ++ (rdOf ByteArray.empty y232 a2)) ++ (a0.extract ((wrap64 (t231 + 1)) : Int).toNat a0.size), true)) else (none)) else (none)) else (none)) else (none)) else (none)) else (none)) = some (r1, r2) := by first | (rw [hy232]; with_reducible exact H) | (have H2_ := (Option.bind_some _ _).symm.trans H; rw [hy232]; with_reducible exact H2_) | (have H2_ := (Option.bind_some _ _).symm.trans H; with_reducible exact H2_) | with_reducible exact H | (rw [hy232]; exact H) | exact H); have Ny232 := Aside0.mk hy232; clear hy232; by_cases c14 : 0 ≤ a2
            · rw [if_pos c14] at H; have c14b0 : decide (0 ≤ a2) = true := decide_eq_true c14; clear c14; by_cases c15 : a2 < (y232.length : Int)
              · rw [if_pos c15] at H; have c15b0 : decide (a2 < (y232.length : Int)) = true := decide_eq_true c15; clear c15; by_cases c16 : (a0.extract 0 (t231 : Int).toNat).size + (rdOf ByteArray.empty y232 a2).size ≤ 9223372036854775807
                · rw [if_pos c16] at H; have c16b0 := eq_true c16; have c16b1 : decide ((a0.extract 0 (t231 : Int).toNat).size + (rdOf ByteArray.empty y232 a2).size ≤ 9223372036854775807) = true := decide_eq_true c16; (try have c16b2 : (9223372036854775807 < (a0.extract 0 (t231 : Int).toNat).size + (rdOf ByteArray.empty y232 a2).size) = False := eq_false (Nat.not_lt.2 c16)); (have e16_ : (a0.extract 0 (t231 : Int).toNat).size = t231.toNat := by rw [ByteArray.size_extract]; have z_ := of_eq_true c13b0; omega); (have c16b3 : (9223372036854775807 < t231.toNat + (rdOf ByteArray.empty y232 a2).size) = False := by rw [← e16_]; exact c16b2); obtain ⟨ji17, hji17⟩ : ∃ j_ : Int, (wrap64 (t231 + 1)) = j_ := ⟨_, rfl⟩; (replace H : (if 0 ≤ (ji17) then (if (ji17) ≤ (a0.size : Int) then (if (a0.extract 0 (t231 : Int).toNat).size + (rdOf ByteArray.empty y232 a2).size + (a0.extract ((ji17) : Int).toNat a0.size).size ≤ 9223372036854775807 then (some (((a0.extract 0 (t231 : Int).toNat) ++ (rdOf ByteArray.empty y232 a2)) ++ (a0.extract ((ji17) : Int).toNat a0.size), true)) else (none)) else (none)) else (none)) = some (r1, r2) := by first | (rw [hji17] at H; exact H) | (simp only [hji17] at H ⊢; exact H)); (try rw [hji17] at A4); (try rw [hji17] at A6); (try rw [hji17] at A7); (try rw [hji17] at A9); (try rw [hji17] at A11); have hji17w : (IntKind.i64.wrap (t231 + 1)) = ji17 := (i64_w _).trans hji17; by_cases c18 : 0 ≤ (ji17)
                  · rw [if_pos c18] at H; have c18b0 := eq_true c18; have c18b1 : decide (0 ≤ (ji17)) = true := decide_eq_true c18; clear c18; by_cases c19 : (ji17) ≤ (a0.size : Int)
                    · rw [if_pos c19] at H; have c19b0 := eq_true c19; have c19b1 : decide ((ji17) ≤ (a0.size : Int)) = true := decide_eq_true c19; clear c19; by_cases c20 : (a0.extract 0 (t231 : Int).toNat).size + (rdOf ByteArray.empty y232 a2).size + (a0.extract ((ji17) : Int).toNat a0.size).size ≤ 9223372036854775807
                      · rw [if_pos c20] at H; have c20b0 := eq_true c20; have c20b1 : decide ((a0.extract 0 (t231 : Int).toNat).size + (rdOf ByteArray.empty y232 a2).size + (a0.extract ((ji17) : Int).toNat a0.size).size ≤ 9223372036854775807) = true := decide_eq_true c20; (try have c20b2 : (9223372036854775807 < (a0.extract 0 (t231 : Int).toNat).size + (rdOf ByteArray.empty y232 a2).size + (a0.extract ((ji17) : Int).toNat a0.size).size) = False := eq_false (Nat.not_lt.2 c20)); (have e20_ : (a0.extract (ji17 : Int).toNat a0.size).size = a0.size - ji17.toNat := by rw [ByteArray.size_extract]; omega); (have c20b3 : (9223372036854775807 < t231.toNat + (rdOf ByteArray.empty y232 a2).size + (a0.size - ji17.toNat)) = False := by rw [← e16_, ← e20_]; exact c20b2); clear e16_ e20_; simp only [Option.some.injEq, Prod.mk.injEq] at H; obtain ⟨rfl, rfl⟩ := H; go_enter Try.func17, Try.ntmps17; (try go_wp2_with (first | ((with_reducible refine gate_callee (f := 13) rfl ?_); refine goesL_ (some 10) rfl rfl Try.func13 (by kernel_rfl) rfl #[.string a0] rfl gf ?_; (with_reducible refine (spec_SentenceOk.calls a0 true _ A4.out).mono ?_); rintro e w21 ⟨rfl, hb⟩; refine ⟨_, rfl, ?_⟩; have n0_ := Az (below_step (cB HB) hb); clear HB; have HB := n0_; clear n0_; (try clear hb); (try clear hb2); (try clear hk); (try clear hi)) | (go_at_call 19; (with_reducible refine (spec_MarksOf.calls k a0 t228 _ A6.out).mono ?_); rintro e w22 ⟨rfl, hb⟩; have n0_ := Az (below_step (cB HB) hb); clear HB; have HB := n0_; clear n0_; (try clear hb); (try clear hb2); (try clear hk); (try clear hi)) | (go_at_call 34; (with_reducible refine (spec_l1In.calls a1 0 (wrap64 ((t228.size : Int) - 1)) true _ A7.out).mono ?_); rintro e w' ⟨rfl, ⟨nd, rfl⟩⟩) | (go_at_call 34; (with_reducible refine (spec_l1In.calls a2 0 3 true _ A9.out).mono ?_); rintro e w' ⟨rfl, ⟨nd, rfl⟩⟩) | ((with_reducible refine gate_callee (f := 35) rfl ?_); refine goesL_ (some 28) rfl rfl Try.func35 (by kernel_rfl) rfl #[.string a0, .int .i64 a1] rfl gf ?_; (with_reducible refine (spec_l7Place.calls k a0 a1 t231 _ A11.out).mono ?_); rintro e w' ⟨rfl, ⟨nd, rfl⟩⟩; refine ⟨_, rfl, ?_⟩))); have pi235 : (0 ≤ (a2 : Int)) = True := eq_true (of_decide_eq_true fa); have qi235 : (a2 < (y232.length : Int)) = True := eq_true (of_decide_eq_true fa); (try (rw [drewN_self w22]; generalize hq_ : World.drewN w22 _ = w22; have n0_ : Aside0 (Below w.heap.size w w22) := ⟨by rw [← hq_]; exact (cB HB)⟩; clear HB hq_; have HB := n0_; clear n0_)); have n0_ := Az (below_drew1 HB.out); clear HB; have HB := n0_; clear n0_; refine start_ (n := 15) (S := fun w' => True) (ds := []) #[false, false, false, false, false, false, false, false, false, false, false, false, false, false, false] (by kernel_rfl) rfl rfl trivial (fun hHeld => ?_); refine with_tabW spec_ReplacedIn.tab4 spec_ReplacedIn.bits4 (fun HT_ HW_ => ?_); generalize w22.drew = w23 at HB hHeld ⊢; refine pure_ (i := 0) (N := some 29) (v := ?_) (a' := ?_) #[true, false, false, false, false, false, false, false, false, false, false, false, false, false, false] rfl rfl (any_of HT_.out (by kernel_rfl)) (fun _ _ _ h => h) (Or.inl ⟨by rfl, ?_⟩) ?_ ?_; rotate_left
                        · intro w'; go_simp; with_reducible rfl
                        rotate_left
                        · simp only [Act.put, List.setIfInBounds_toArray, List.set_cons_zero, List.set_cons_succ, i64_w, i32_w]; rfl
                        refine pure_ (i := 1) (N := some 30) (v := ?_) (a' := ?_) #[true, true, false, false, false, false, false, false, false, false, false, false, false, false, false] rfl rfl (any_of HT_.out (by kernel_rfl)) (fun _ _ _ h => h) (Or.inl ⟨by rfl, ?_⟩) ?_ ?_; rotate_left
                        · intro w'; go_simp; with_reducible rfl
                        rotate_left
                        · simp only [Act.put, List.setIfInBounds_toArray, List.set_cons_zero, List.set_cons_succ, i64_w, i32_w]; rfl
                        refine pure_ (i := 2) (N := some 31) (v := ?_) (a' := ?_) #[true, true, true, false, false, false, false, false, false, false, false, false, false, false, false] rfl rfl (any_of HT_.out (by kernel_rfl)) (fun _ _ _ h => h) (Or.inl ⟨by rfl, ?_⟩) ?_ ?_; rotate_left
                        · intro w'; go_simp; with_reducible rfl
                        rotate_left
                        · simp only [Act.put, List.setIfInBounds_toArray, List.set_cons_zero, List.set_cons_succ, i64_w, i32_w]; rfl
                        refine pure_ (i := 4) (N := some 33) (v := ?_) (a' := ?_) #[true, true, true, false, true, false, false, false, false, false, false, false, false, false, false] rfl rfl (any_of HT_.out (by kernel_rfl)) (fun _ _ _ h => h) (Or.inl ⟨by rfl, ?_⟩) ?_ ?_; rotate_left
                        · intro w'; go_simp; with_reducible rfl
                        rotate_left
                        · simp only [Act.put, List.setIfInBounds_toArray, List.set_cons_zero, List.set_cons_succ, i64_w, i32_w]; rfl
                        refine pure_ (i := 8) (N := some 37) (v := ?_) (a' := ?_) #[true, true, true, false, true, false, false, false, true, false, false, false, false, false, false] rfl rfl (any_of HT_.out (by kernel_rfl)) (fun _ _ _ h => h) (Or.inl ⟨by rfl, ?_⟩) ?_ ?_; rotate_left
                        · intro w'; go_simp; with_reducible rfl
                        rotate_left
                        · simp only [Act.put, List.setIfInBounds_toArray, List.set_cons_zero, List.set_cons_succ, i64_w, i32_w]; rfl
                        refine pure_ (i := 9) (N := some 38) (v := ?_) (a' := ?_) #[true, true, true, false, true, false, false, false, true, true, false, false, false, false, false] rfl rfl (any_of HT_.out (by kernel_rfl)) (fun _ _ _ h => h) (Or.inl ⟨by rfl, ?_⟩) ?_ ?_; rotate_left
                        · intro w'; go_simp; with_reducible rfl
                        rotate_left
                        · simp only [Act.put, List.setIfInBounds_toArray, List.set_cons_zero, List.set_cons_succ, i64_w, i32_w]; rfl
                        refine pure_ (i := 10) (N := some 39) (v := ?_) (a' := ?_) #[true, true, true, false, true, false, false, false, true, true, true, false, false, false, false] rfl rfl (any_of HT_.out (by kernel_rfl)) (fun _ _ _ h => h) (Or.inl ⟨by rfl, ?_⟩) ?_ ?_; rotate_left
                        · intro w'; go_simp; with_reducible rfl
                        rotate_left
                        · simp only [Act.put, List.setIfInBounds_toArray, List.set_cons_zero, List.set_cons_succ, i64_w, i32_w]; rfl
                        refine pure_ (i := 11) (N := some 40) (v := ?_) (a' := ?_) #[true, true, true, false, true, false, false, false, true, true, true, true, false, false, false] rfl rfl (any_of HT_.out (by kernel_rfl)) (fun _ _ _ h => h) (Or.inl ⟨by rfl, ?_⟩) ?_ ?_; rotate_left
                        · intro w'; go_simp; with_reducible rfl
                        rotate_left
                        · simp only [Act.put, List.setIfInBounds_toArray, List.set_cons_zero, List.set_cons_succ, i64_w, i32_w]; rfl
                        refine one_ (i := 3) (N := some 32) #[true, true, true, true, true, false, false, false, true, true, true, true, false, false, false] rfl rfl (one_of HT_.out (by kernel_rfl)) (by decide) (fun K hK => ?_); refine Kd.R_lit_step Kd.string _ 9 ?hg (N := 32) ?hd (xs := ([(⟨#[97]⟩ : ByteArray), (⟨#[98]⟩ : ByteArray), (⟨#[99]⟩ : ByteArray), (⟨#[100]⟩ : ByteArray)] : List ByteArray)) (inner := [.string (⟨#[97]⟩ : ByteArray), .string (⟨#[98]⟩ : ByteArray), .string (⟨#[99]⟩ : ByteArray), .string (⟨#[100]⟩ : ByteArray)]) (ok := fun _ => True) (okp := fun _ => True) ?hr ?hp (fun _ hk => hk) trivial (Below.refl _ _) (Nat.le_refl _) (by simp) ?_; (case hd => rfl); (case hg => rfl); (case hr => first | (go_simp; done) | (go_simp; rfl)); (case hp => exact (Reps.one (show Kd.M Kd.string _ _ _ (⟨#[97]⟩ : ByteArray) [.string (⟨#[97]⟩ : ByteArray)] from rfl) (Reps.one (show Kd.M Kd.string _ _ _ (⟨#[98]⟩ : ByteArray) [.string (⟨#[98]⟩ : ByteArray)] from rfl) (Reps.one (show Kd.M Kd.string _ _ _ (⟨#[99]⟩ : ByteArray) [.string (⟨#[99]⟩ : ByteArray)] from rfl) (Reps.one (show Kd.M Kd.string _ _ _ (⟨#[100]⟩ : ByteArray) [.string (⟨#[100]⟩ : ByteArray)] from rfl) (Reps.none _ _)))))); intro v233 w24 ho25 hb hg_ hnew_; clear hg_ hnew_; (first | rw [← Ny232.out] at ho25 | (simp only [Int.reduceToNat] at ho25; rw [← Ny232.out] at ho25)); have n0_ := Az (Kd.R_lower ho25 (below_size (cB HB))); have n1_ := Az (below_step (cB HB) hb); clear HB; have HO234 := n0_; have HB := n1_; clear n0_ n1_ hb ho25; obtain ⟨Ao26, co26, eo26⟩ := Kd.R_slice HO234.out; subst eo26; obtain ⟨ado26, fo26, _⟩ := Kd.at_string (Kd.R_reads' HO234.out).2.2 0 (by decide) (by rw [Ny232.out]; simp); cases fo26; refine hK.out _ _ trivial (fun hHeld => ?_); clear hK K; refine norm_ (a' := ?_) ?_ ?_; rotate_left
                        · show Act.put _ (some 32) _ = _; simp only [Act.put, List.setIfInBounds_toArray, List.set_cons_zero, List.set_cons_succ, i64_w, i32_w]; rfl
                        refine pure_ (i := 5) (N := some 34) (v := ?_) (a' := ?_) #[true, true, true, true, true, true, false, false, true, true, true, true, false, false, false] rfl rfl (any_of HT_.out (by kernel_rfl)) (fun _ _ _ h => h) (Or.inl ⟨by rfl, ?_⟩) ?_ ?_; rotate_left
                        · intro w'; go_simp; with_reducible rfl
                        rotate_left
                        · simp only [Act.put, List.setIfInBounds_toArray, List.set_cons_zero, List.set_cons_succ, i64_w, i32_w]; rfl
                        refine one_ (i := 6) (N := some 35) #[true, true, true, true, true, true, true, false, true, true, true, true, false, false, false] rfl rfl (one_of HT_.out (by kernel_rfl)) (by decide) (fun K hK => ?_); (have p235 : 0 ≤ (a2 : Int) := of_decide_eq_true fa; have q235 : a2 < (y232.length : Int) := of_decide_eq_true fa; obtain ⟨ad235, e235, hx235_0⟩ := Kd.at_string (Kd.R_reads' HO234.out).2.2 a2 p235 q235; obtain rfl : ado26 = ad235 := (by injection e235)); refine value_ (w1 := ?_) (v := ?_) (by rfl) rfl ?_ ?_; rotate_left 2
                        · go_simp; constructor
                          · rfl
                          · rfl
                        clear hx235_0; refine hK.out _ _ trivial (fun hHeld => ?_); clear hK K; refine norm_ (a' := ?_) ?_ ?_; rotate_left
                        · show Act.put _ (some 35) _ = _; simp only [Act.put, List.setIfInBounds_toArray, List.set_cons_zero, List.set_cons_succ, i64_w, i32_w]; rfl
                        refine pure_ (i := 7) (N := some 36) (v := ?_) (a' := ?_) #[true, true, true, true, true, true, true, true, true, true, true, true, false, false, false] rfl rfl (any_of HT_.out (by kernel_rfl)) (fun _ _ _ h => h) (Or.inl ⟨by rfl, ?_⟩) ?_ ?_; rotate_left
                        · intro w'; go_simp; with_reducible rfl
                        rotate_left
                        · simp only [Act.put, List.setIfInBounds_toArray, List.set_cons_zero, List.set_cons_succ, i64_w, i32_w]; rfl
                        refine pure_ (i := 12) (N := some 41) (v := ?_) (a' := ?_) #[true, true, true, true, true, true, true, true, true, true, true, true, true, false, false] rfl rfl (any_of HT_.out (by kernel_rfl)) (fun _ _ _ h => h) (Or.inl ⟨by rfl, ?_⟩) ?_ ?_; rotate_left
                        · intro w'; go_simp; with_reducible rfl
                        rotate_left
                        · simp only [Act.put, List.setIfInBounds_toArray, List.set_cons_zero, List.set_cons_succ, i64_w, i32_w]; rfl
                        refine pure_ (i := 13) (N := some 6) (v := ?_) (a' := ?_) #[true, true, true, true, true, true, true, true, true, true, true, true, true, true, false] rfl rfl (any_of HT_.out (by kernel_rfl)) (fun _ _ _ h => h) (Or.inl ⟨by rfl, ?_⟩) ?_ ?_; rotate_left
                        · intro w'; go_simp; with_reducible rfl
                        rotate_left
                        · simp only [Act.put, List.setIfInBounds_toArray, List.set_cons_zero, List.set_cons_succ, i64_w, i32_w]; rfl
                        refine pure_ (i := 14) (N := some 7) (v := ?_) (a' := ?_) #[true, true, true, true, true, true, true, true, true, true, true, true, true, true, true] rfl rfl (any_of HT_.out (by kernel_rfl)) (fun _ _ _ h => h) (Or.inl ⟨by rfl, ?_⟩) ?_ ?_; rotate_left
                        · intro w'; go_simp; with_reducible rfl
                        rotate_left
                        · simp only [Act.put, List.setIfInBounds_toArray, List.set_cons_zero, List.set_cons_succ, i64_w, i32_w]; rfl
                        refine done_ (done_of HT_.out (by kernel_rfl)) ?_; (try go_wp2); go_ret2; exact ⟨by first | rfl | (simp [errW_none, errW_some] <;> rfl) | (simp only [← hji17]; first | rfl | (simp [errW_none, errW_some] <;> rfl)) | (simp [*, errW_none, errW_some] <;> rfl), (cB HB)⟩
                      · rw [if_neg c20] at H; exact absurd H (by simp)
                    · rw [if_neg c19] at H; exact absurd H (by simp)
                  · rw [if_neg c18] at H; exact absurd H (by simp)
                · rw [if_neg c16] at H; exact absurd H (by simp)
              · rw [if_neg c15] at H; exact absurd H (by simp)
            · rw [if_neg c14] at H; exact absurd H (by simp)
          · rw [if_neg c13] at H; exact absurd H (by simp)
        · rw [if_neg c12] at H; exact absurd H (by simp)
      · replace c10 := Bool.eq_false_iff.mpr c10; subst c10; (have H1 : (some ((⟨#[]⟩ : ByteArray), false)) = some (r1, r2) := by rw [if_neg (show ¬ (false = true) by decide)] at H; exact H); clear H; have H := H1; clear H1; simp only [Option.some.injEq, Prod.mk.injEq] at H; obtain ⟨rfl, rfl⟩ := H; go_enter Try.func17, Try.ntmps17; go_wp2_with (first | ((with_reducible refine gate_callee (f := 13) rfl ?_); refine goesL_ (some 10) rfl rfl Try.func13 (by kernel_rfl) rfl #[.string a0] rfl gf ?_; (with_reducible refine (spec_SentenceOk.calls a0 true _ A4.out).mono ?_); rintro e w27 ⟨rfl, hb⟩; refine ⟨_, rfl, ?_⟩; have n0_ := Az (below_step (cB HB) hb); clear HB; have HB := n0_; clear n0_; (try clear hb); (try clear hb2); (try clear hk); (try clear hi)) | (go_at_call 19; (with_reducible refine (spec_MarksOf.calls k a0 t228 _ A6.out).mono ?_); rintro e w28 ⟨rfl, hb⟩; have n0_ := Az (below_step (cB HB) hb); clear HB; have HB := n0_; clear n0_; (try clear hb); (try clear hb2); (try clear hk); (try clear hi)) | (go_at_call 34; (with_reducible refine (spec_l1In.calls a1 0 (wrap64 ((t228.size : Int) - 1)) true _ A7.out).mono ?_); rintro e w' ⟨rfl, ⟨nd, rfl⟩⟩) | (go_at_call 34; (with_reducible refine (spec_l1In.calls a2 0 3 false _ A9.out).mono ?_); rintro e w' ⟨rfl, ⟨nd, rfl⟩⟩)); go_ret2; exact ⟨rt, (cB HB)⟩
    · replace c8 := Bool.eq_false_iff.mpr c8; subst c8; (have H1 : (some ((⟨#[]⟩ : ByteArray), false)) = some (r1, r2) := by rw [if_neg (show ¬ (false = true) by decide)] at H; exact H); clear H; have H := H1; clear H1; simp only [Option.some.injEq, Prod.mk.injEq] at H; obtain ⟨rfl, rfl⟩ := H; go_enter Try.func17, Try.ntmps17; go_wp2_with (first | ((with_reducible refine gate_callee (f := 13) rfl ?_); refine goesL_ (some 10) rfl rfl Try.func13 (by kernel_rfl) rfl #[.string a0] rfl gf ?_; (with_reducible refine (spec_SentenceOk.calls a0 true _ A4.out).mono ?_); rintro e w29 ⟨rfl, hb⟩; refine ⟨_, rfl, ?_⟩; have n0_ := Az (below_step (cB HB) hb); clear HB; have HB := n0_; clear n0_; (try clear hb); (try clear hb2); (try clear hk); (try clear hi)) | (go_at_call 19; (with_reducible refine (spec_MarksOf.calls k a0 t228 _ A6.out).mono ?_); rintro e w30 ⟨rfl, hb⟩; have n0_ := Az (below_step (cB HB) hb); clear HB; have HB := n0_; clear n0_; (try clear hb); (try clear hb2); (try clear hk); (try clear hi)) | (go_at_call 34; (with_reducible refine (spec_l1In.calls a1 0 (wrap64 ((t228.size : Int) - 1)) false _ A7.out).mono ?_); rintro e w' ⟨rfl, ⟨nd, rfl⟩⟩)); go_ret2; exact ⟨rt, (cB HB)⟩
  · replace c5 := Bool.eq_false_iff.mpr c5; subst c5; (have H1 : (some ((⟨#[]⟩ : ByteArray), false)) = some (r1, r2) := by rw [if_neg (show ¬ (false = true) by decide)] at H; exact H); clear H; have H := H1; clear H1; simp only [Option.some.injEq, Prod.mk.injEq] at H; obtain ⟨rfl, rfl⟩ := H; go_enter Try.func17, Try.ntmps17; go_wp2_with (first | ((with_reducible refine gate_callee (f := 13) rfl ?_); refine goesL_ (some 10) rfl rfl Try.func13 (by kernel_rfl) rfl #[.string a0] rfl gf ?_; (with_reducible refine (spec_SentenceOk.calls a0 false _ A4.out).mono ?_); rintro e w31 ⟨rfl, hb⟩; refine ⟨_, rfl, ?_⟩; have n0_ := Az (below_step (cB HB) hb); clear HB; have HB := n0_; clear n0_; (try clear hb); (try clear hb2); (try clear hk); (try clear hi))); go_ret2; exact ⟨rt, (cB HB)⟩

end Go.Proofs.Ytfjfdnododnepaa.PFnReplacedIn
