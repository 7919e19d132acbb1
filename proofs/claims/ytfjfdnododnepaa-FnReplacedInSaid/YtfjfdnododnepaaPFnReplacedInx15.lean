-- Written by a program of this session (wip/patch_print.py, over the kit's print) and not by hand; Lean checks every word.
import Derived.Test.YtfjfdnododnepaaPFnReplacedInxb
import Derived.Test.YtfjfdnododnepaaPFnReplacedInxa
import Derived.Test.YtfjfdnododnepaaPFnReplacedInx0
import Derived.Test.YtfjfdnododnepaaPFnReplacedInx13
import Derived.Test.YtfjfdnododnepaaPFnReplacedInx14
namespace Go.Proofs.Ytfjfdnododnepaa.PFnReplacedIn
open Go.RowKit Go.Proofs.YtfjfdnododnepaaW.PrintWords Go.Proofs.YtfjfdnododnepaaW.PrintLast Go.Proofs.YtfjfdnododnepaaW.PrintMore
attribute [local go_sem] max2_int min2_int max_two min_two max_three min_three max_four min_four   -- for this text's walks alone
set_option linter.unusedVariables false
set_option linter.unusedSimpArgs false

/-! ### spec_l20Rd_odd: function 62 -/
def spec_l20Rd_odd.f (k : Nat) (s0_0 : List Int) (s0_1 : Int) (a1 : Int) : Option (Bool × Int) := if a1 > 0 then ((spec_l20Rd_pick.f k s0_0 s0_1 a1).bind fun bt293 => (some ((bt293.1 == (wrap64 (a1 - 1))), bt293.2))) else (some (false, s0_1))
theorem spec_l20Rd_odd.mono : ∀ a0 a1 a2 k, LeO (spec_l20Rd_odd.f k a0 a1 a2) (spec_l20Rd_odd.f (k + 1) a0 a1 a2) := by
  intro a0 a1 a2 k
  unfold spec_l20Rd_odd.f
  repeat' first
      | (with_reducible exact spec_l20Rd_pick.mono _ _ _ _)
      | (with_reducible exact LeO.refl _)
      | (with_reducible exact LeO.none _)
      | (with_reducible refine LeO.ite ?_ ?_)
      | (with_reducible refine LeO.bind ?_ (fun _ => ?_))
      | exact spec_l20Rd_pick.mono _ _ _ _
      | exact LeO.none _
      | refine LeO.ite ?_ ?_
      | refine LeO.bind ?_ (fun _ => ?_)
set_option maxHeartbeats 8000000 in
set_option maxRecDepth 100000 in
theorem spec_l20Rd_odd.calls (k : Nat) (g : Nat) (s0_0 : List Int) (s0_1 : Int) (a1 : Int) (r1 : Bool) (r2 : Int) (w0 w : World) (hI : IsS78 w0 w g s0_0 s0_1) (hB : Below w0.heap.size w0 w) (h : spec_l20Rd_odd.f k s0_0 s0_1 a1 = some (r1, r2)) :
    Calls Try.prog 62 #[.pointer (some ⟨g, 0, none⟩), .int .i64 a1] w fun e w' => e = .returned (.bool r1) ∧ IsS78 w0 w' g s0_0 r2 ∧ Below w0.heap.size w0 w' ∧ KeepBut w w' g none := by
  have HI0 := Aside0.mk hI
  have HK := Az (KeepBut.refl w g none)
  have HL := Aside0.mk hB.size
  clear hI
  have HW0 := Aside0.mk hB.size
  have HB := Aside0.mk hB
  clear hB
  have H : (if a1 > 0 then ((spec_l20Rd_pick.f k s0_0 s0_1 a1).bind fun bt293 => (some ((bt293.1 == (wrap64 (a1 - 1))), bt293.2))) else (some (false, s0_1))) = some (r1, r2) := h
  clear h
  by_cases c3 : a1 > 0
  · rw [if_pos c3] at H
    have c3b0 : decide (0 < a1) = true := decide_eq_true c3
    clear c3
    replace H := Option.bind_eq_some_iff.mp H
    obtain ⟨⟨t293, t294⟩, A40, H⟩ := H
    replace H : (some ((t293 == (wrap64 (a1 - 1))), t294)) = some (r1, r2) := H
    have A4 := Aside0.mk A40
    clear A40
    simp only [Option.some.injEq, Prod.mk.injEq] at H
    obtain ⟨rfl, rfl⟩ := H
    go_enter Try.func62, Try.ntmps62
    go_wp2_with (first | (go_at_call 43; (with_reducible refine (spec_l20Rd_pick.calls k g s0_0 s0_1 a1 t293 t294 w0 _ ?side1 ?side2 A4.out).mono ?_); (case side1 => exact (bI78 HI0)); (case side2 => exact (bB HB)); rintro e w5 ⟨rfl, hi, hb, hk⟩; have n0_ := Az (KeepBut.trans (bK HK) hk (.inl rfl)); have n1_ := Az (hb); have n2_ := Az (hi); clear HK; clear HB; clear HI0; have HK := n0_; have HB := n1_; have HI0 := n2_; clear n0_ n1_ n2_; (try clear hb); (try clear hb2); (try clear hk); (try clear hi)))
    go_ret
    exact ⟨rt, (bI78 HI0), (bB HB), (bK HK)⟩
  · rw [if_neg c3] at H
    have c3b0 : decide (0 < a1) = false := decide_eq_false c3
    clear c3
    simp only [Option.some.injEq, Prod.mk.injEq] at H
    obtain ⟨rfl, rfl⟩ := H
    go_enter Try.func62, Try.ntmps62
    go_wp2
    go_ret
    exact ⟨rt, (bI78 HI0), (bB HB), (bK HK)⟩

/-! ### spec_l20Text: function 40 -/
def spec_l20Text.j0 : Nat → Int → ByteArray → List Int → Int → Option (ByteArray × Int)
  | 0, _, _, _, _ => none
  | k + 1, x1, x5, x1000, x1001 => (spec_l20Rd_odd.f k x1000 x1001 x1).bind fun bt297 => (if bt297.1 = true then ((spec_l20Rd_pick.f k x1000 bt297.2 (x5.size : Int)).bind fun bt299 => (if 0 ≤ bt299.1 then (if bt299.1 ≤ (x5.size : Int) then ((some (([(⟨#[]⟩ : ByteArray), (⟨#[97]⟩ : ByteArray), (⟨#[40]⟩ : ByteArray), (⟨#[101]⟩ : ByteArray), (⟨#[126]⟩ : ByteArray)] : List ByteArray) : List ByteArray)).bind fun y301 => ((spec_l20Rd_pick.f k x1000 bt299.2 5).bind fun bt304 => (if 0 ≤ bt304.1 then (if bt304.1 < (y301.length : Int) then (if (x5.extract 0 (bt299.1 : Int).toNat).size + (rdOf ByteArray.empty y301 bt304.1).size ≤ 9223372036854775807 then (if 0 ≤ (wrap64 (bt299.1 + 1)) then (if (wrap64 (bt299.1 + 1)) ≤ (x5.size : Int) then (if (x5.extract 0 (bt299.1 : Int).toNat).size + (rdOf ByteArray.empty y301 bt304.1).size + (x5.extract ((wrap64 (bt299.1 + 1)) : Int).toNat x5.size).size ≤ 9223372036854775807 then (some (((x5.extract 0 (bt299.1 : Int).toNat) ++ (rdOf ByteArray.empty y301 bt304.1)) ++ (x5.extract ((wrap64 (bt299.1 + 1)) : Int).toNat x5.size), bt304.2)) else (none)) else (none)) else (none)) else (none)) else (none)) else (none)))) else (none)) else (none))) else (some (x5, bt297.2)))
def spec_l20Text.f (k : Nat) (s0_0 : List Int) (s0_1 : Int) (a1 : Int) : Option (ByteArray × Int) := (spec_l20Sentence.f k s0_0 s0_1 2).bind fun bt295 => (if (bt295.1.size : Int) > 80 then (spec_l20Text.j0 k a1 (⟨#[101, 118, 101, 114, 121, 40, 97, 44, 40, 98, 124, 99, 41, 41]⟩ : ByteArray) s0_0 bt295.2) else (spec_l20Text.j0 k a1 bt295.1 s0_0 bt295.2))
theorem spec_l20Text.mono_l : ∀ k, (∀ y0 y1 y2 y3, LeO (spec_l20Text.j0 k y0 y1 y2 y3) (spec_l20Text.j0 (k + 1) y0 y1 y2 y3))
  | 0 => fun _ _ _ _ r h => by simp [spec_l20Text.j0] at h
  | k + 1 => by
    have ih0 := spec_l20Text.mono_l k
    · intro y0 y1 y2 y3
      unfold spec_l20Text.j0
      repeat' first
      | (with_reducible exact ih0 _ _ _ _)
      | (with_reducible exact spec_l20Rd_odd.mono _ _ _ _)
      | (with_reducible exact spec_l20Rd_pick.mono _ _ _ _)
      | (with_reducible exact spec_l20Sentence.mono _ _ _ _)
      | (with_reducible exact LeO.refl _)
      | (with_reducible exact LeO.none _)
      | (with_reducible refine LeO.ite ?_ ?_)
      | (with_reducible refine LeO.bind ?_ (fun _ => ?_))
      | exact ih0 _ _ _ _
      | exact spec_l20Rd_odd.mono _ _ _ _
      | exact spec_l20Rd_pick.mono _ _ _ _
      | exact spec_l20Sentence.mono _ _ _ _
      | exact LeO.none _
      | refine LeO.ite ?_ ?_
      | refine LeO.bind ?_ (fun _ => ?_)
theorem spec_l20Text.mono : ∀ a0 a1 a2 k, LeO (spec_l20Text.f k a0 a1 a2) (spec_l20Text.f (k + 1) a0 a1 a2) := by
  intro a0 a1 a2 k
  have ih0 := spec_l20Text.mono_l k
  unfold spec_l20Text.f
  repeat' first
      | (with_reducible exact ih0 _ _ _ _)
      | (with_reducible exact spec_l20Rd_odd.mono _ _ _ _)
      | (with_reducible exact spec_l20Rd_pick.mono _ _ _ _)
      | (with_reducible exact spec_l20Sentence.mono _ _ _ _)
      | (with_reducible exact LeO.refl _)
      | (with_reducible exact LeO.none _)
      | (with_reducible refine LeO.ite ?_ ?_)
      | (with_reducible refine LeO.bind ?_ (fun _ => ?_))
      | exact ih0 _ _ _ _
      | exact spec_l20Rd_odd.mono _ _ _ _
      | exact spec_l20Rd_pick.mono _ _ _ _
      | exact spec_l20Sentence.mono _ _ _ _
      | exact LeO.none _
      | refine LeO.ite ?_ ?_
      | refine LeO.bind ?_ (fun _ => ?_)
def spec_l20Text.T6 : Bool × List (List Nat × List Nat) := (true, [([], []), ([], []), ([0, 1], [0, 1]), ([], []), ([], []), ([4], [4]), ([3, 5], [3, 5]), ([6], [6]), ([2, 7], [2, 7]), ([], []), ([], []), ([10], [10]), ([9, 11], [9, 11]), ([8, 12], [8, 12]), ([13, 5, 0, 1, 2, 3, 4, 5, 6, 7, 8, 9, 10, 11, 12, 13], [13])])
def spec_l20Text.B6 : List Nat := [0, 0, 3, 0, 0, 16, 56, 120, 255, 0, 0, 1024, 3584, 8191, 16383]
theorem spec_l20Text.tab6 : rtab .any (opsOf Try.f40 6) = spec_l20Text.T6 := by kernel_rfl
theorem spec_l20Text.bits6 : waitsOk spec_l20Text.T6.2 spec_l20Text.B6 = true := by kernel_rfl
set_option maxHeartbeats 8000000 in
set_option maxRecDepth 100000 in
theorem spec_l20Text.calls (k : Nat) (g : Nat) (s0_0 : List Int) (s0_1 : Int) (a1 : Int) (r1 : ByteArray) (r2 : Int) (w0 w : World) (hI : IsS78 w0 w g s0_0 s0_1) (hB : Below w0.heap.size w0 w) (h : spec_l20Text.f k s0_0 s0_1 a1 = some (r1, r2)) :
    Calls Try.prog 40 #[.pointer (some ⟨g, 0, none⟩), .int .i64 a1] w fun e w' => e = .returned (.string r1) ∧ IsS78 w0 w' g s0_0 r2 ∧ Below w0.heap.size w0 w' ∧ KeepBut w w' g none := by
  have HI0 := Aside0.mk hI
  have HK := Az (KeepBut.refl w g none)
  have HL := Aside0.mk hB.size
  clear hI
  have HW0 := Aside0.mk hB.size
  have HB := Aside0.mk hB
  clear hB
  have H : ((spec_l20Sentence.f k s0_0 s0_1 2).bind fun bt295 => (if (bt295.1.size : Int) > 80 then (spec_l20Text.j0 k a1 (⟨#[101, 118, 101, 114, 121, 40, 97, 44, 40, 98, 124, 99, 41, 41]⟩ : ByteArray) s0_0 bt295.2) else (spec_l20Text.j0 k a1 bt295.1 s0_0 bt295.2))) = some (r1, r2) := h
  clear h
  replace H := Option.bind_eq_some_iff.mp H
  obtain ⟨⟨t295, t296⟩, A30, H⟩ := H
  replace H : (if (t295.size : Int) > 80 then (spec_l20Text.j0 k a1 (⟨#[101, 118, 101, 114, 121, 40, 97, 44, 40, 98, 124, 99, 41, 41]⟩ : ByteArray) s0_0 t296) else (spec_l20Text.j0 k a1 t295 s0_0 t296)) = some (r1, r2) := H
  have A3 := Aside0.mk A30
  clear A30
  have HC4 := Aside0.mk H
  clear H
  go_enter Try.func40, Try.ntmps40
  go_upto_if 11 with (first | ((with_reducible refine gate_callee (f := 61) rfl ?_); refine goesL_ (some 8) rfl rfl Try.func61 (by kernel_rfl) rfl #[.pointer (some ⟨g, 0, none⟩), .int .i64 2] rfl gf ?_; (with_reducible refine (spec_l20Sentence.calls k g s0_0 s0_1 2 t295 t296 w0 _ ?side1 ?side2 A3.out).mono ?_); (case side1 => exact (bI78 HI0)); (case side2 => exact (bB HB)); rintro e w5 ⟨rfl, hi, hb, hk⟩; refine ⟨_, rfl, ?_⟩; have n0_ := Az (KeepBut.trans (bK HK) hk (.inl rfl)); have n1_ := Az (hb); have n2_ := Az (hi); clear HK; clear HB; clear HI0; have HK := n0_; have HB := n1_; have HI0 := n2_; clear n0_ n1_ n2_; (try clear hb); (try clear hb2); (try clear hk); (try clear hi)))
  (try simp only [Act.put, List.setIfInBounds_toArray, List.set_cons_zero, List.set_cons_succ])
  go_cut [5] (fun v5 wc => ∃ (kq : Nat) (x5_3 : ByteArray), v5 = .string x5_3 ∧ Aside0 (spec_l20Text.j0 kq a1 x5_3 s0_0 t296 = some (r1, r2)) ∧ Aside0 (kq ≤ k) ∧ Aside0 (IsS78 w0 wc g s0_0 t296) ∧ Aside0 (KeepBut w wc g none) ∧ Aside0 (Below w0.heap.size w0 wc))
  case first =>
    have H := HC4.out
    clear HC4
    by_cases c6 : (t295.size : Int) > 80
    · rw [if_pos c6] at H
      have c6b0 : decide (80 < (t295.size : Int)) = true := decide_eq_true c6
      have c6b1 : decide (80 < t295.size) = true := decide_eq_true (by omega)
      clear c6
      (first | rw [c6b0] | (simp only [i64_w, i32_w]; rw [c6b0]) | skip)
      have H' := Aside0.mk H
      clear H
      go_wp2
      go_meet
      case rel => exact ⟨_, ((⟨#[101, 118, 101, 114, 121, 40, 97, 44, 40, 98, 124, 99, 41, 41]⟩ : ByteArray)), mr, H', ⟨by first | omega | exact Nat.le_refl _⟩, ⟨(bI78 HI0)⟩, ⟨(bK HK)⟩, ⟨(bB HB)⟩⟩
    · rw [if_neg c6] at H
      have c6b0 : decide (80 < (t295.size : Int)) = false := decide_eq_false c6
      have c6b1 : decide (80 < t295.size) = false := decide_eq_false (by omega)
      clear c6
      (first | rw [c6b0] | (simp only [i64_w, i32_w]; rw [c6b0]) | skip)
      have H' := Aside0.mk H
      clear H
      go_wp2
      go_meet
      case rel => exact ⟨_, (t295), mr, H', ⟨by first | omega | exact Nat.le_refl _⟩, ⟨(bI78 HI0)⟩, ⟨(bK HK)⟩, ⟨(bB HB)⟩⟩
  case rest =>
    clear HC4
    obtain ⟨kq, x5_3, rfl, HA, HJ3, HI0, HK, HB⟩ := hcut
    cases kq with
    | zero => exact absurd HA.out (by simp [spec_l20Text.j0])
    | succ kj3 =>
      have H := HA.out
      clear HA
      simp only [spec_l20Text.j0] at H
      replace H := Option.bind_eq_some_iff.mp H
      obtain ⟨⟨t297, t298⟩, A70, H⟩ := H
      replace H : (if t297 = true then ((spec_l20Rd_pick.f kj3 s0_0 t298 (x5_3.size : Int)).bind fun bt299 => (if 0 ≤ bt299.1 then (if bt299.1 ≤ (x5_3.size : Int) then ((some (([(⟨#[]⟩ : ByteArray), (⟨#[97]⟩ : ByteArray), (⟨#[40]⟩ : ByteArray), (⟨#[101]⟩ : ByteArray), (⟨#[126]⟩ : ByteArray)] : List ByteArray) : List ByteArray)).bind fun y301 => ((spec_l20Rd_pick.f kj3 s0_0 bt299.2 5).bind fun bt304 => (if 0 ≤ bt304.1 then (if bt304.1 < (y301.length : Int) then (if (x5_3.extract 0 (bt299.1 : Int).toNat).size + (rdOf ByteArray.empty y301 bt304.1).size ≤ 9223372036854775807 then (if 0 ≤ (wrap64 (bt299.1 + 1)) then (if (wrap64 (bt299.1 + 1)) ≤ (x5_3.size : Int) then (if (x5_3.extract 0 (bt299.1 : Int).toNat).size + (rdOf ByteArray.empty y301 bt304.1).size + (x5_3.extract ((wrap64 (bt299.1 + 1)) : Int).toNat x5_3.size).size ≤ 9223372036854775807 then (some (((x5_3.extract 0 (bt299.1 : Int).toNat) ++ (rdOf ByteArray.empty y301 bt304.1)) ++ (x5_3.extract ((wrap64 (bt299.1 + 1)) : Int).toNat x5_3.size), bt304.2)) else (none)) else (none)) else (none)) else (none)) else (none)) else (none)))) else (none)) else (none))) else (some (x5_3, t298))) = some (r1, r2) := H
      have A7 := Aside0.mk A70
      clear A70
      by_cases c8 : t297 = true
      · subst c8
        have H1 : ((spec_l20Rd_pick.f kj3 s0_0 t298 (x5_3.size : Int)).bind fun bt299 => (if 0 ≤ bt299.1 then (if bt299.1 ≤ (x5_3.size : Int) then ((some (([(⟨#[]⟩ : ByteArray), (⟨#[97]⟩ : ByteArray), (⟨#[40]⟩ : ByteArray), (⟨#[101]⟩ : ByteArray), (⟨#[126]⟩ : ByteArray)] : List ByteArray) : List ByteArray)).bind fun y301 => ((spec_l20Rd_pick.f kj3 s0_0 bt299.2 5).bind fun bt304 => (if 0 ≤ bt304.1 then (if bt304.1 < (y301.length : Int) then (if (x5_3.extract 0 (bt299.1 : Int).toNat).size + (rdOf ByteArray.empty y301 bt304.1).size ≤ 9223372036854775807 then (if 0 ≤ (wrap64 (bt299.1 + 1)) then (if (wrap64 (bt299.1 + 1)) ≤ (x5_3.size : Int) then (if (x5_3.extract 0 (bt299.1 : Int).toNat).size + (rdOf ByteArray.empty y301 bt304.1).size + (x5_3.extract ((wrap64 (bt299.1 + 1)) : Int).toNat x5_3.size).size ≤ 9223372036854775807 then (some (((x5_3.extract 0 (bt299.1 : Int).toNat) ++ (rdOf ByteArray.empty y301 bt304.1)) ++ (x5_3.extract ((wrap64 (bt299.1 + 1)) : Int).toNat x5_3.size), bt304.2)) else (none)) else (none)) else (none)) else (none)) else (none)) else (none)))) else (none)) else (none))) = some (r1, r2) := by rw [if_pos rfl] at H; exact H
        clear H
        have H := H1
        clear H1
        replace H := Option.bind_eq_some_iff.mp H
        obtain ⟨⟨t299, t300⟩, A90, H⟩ := H
        replace H : (if 0 ≤ t299 then (if t299 ≤ (x5_3.size : Int) then ((some (([(⟨#[]⟩ : ByteArray), (⟨#[97]⟩ : ByteArray), (⟨#[40]⟩ : ByteArray), (⟨#[101]⟩ : ByteArray), (⟨#[126]⟩ : ByteArray)] : List ByteArray) : List ByteArray)).bind fun y301 => ((spec_l20Rd_pick.f kj3 s0_0 t300 5).bind fun bt304 => (if 0 ≤ bt304.1 then (if bt304.1 < (y301.length : Int) then (if (x5_3.extract 0 (t299 : Int).toNat).size + (rdOf ByteArray.empty y301 bt304.1).size ≤ 9223372036854775807 then (if 0 ≤ (wrap64 (t299 + 1)) then (if (wrap64 (t299 + 1)) ≤ (x5_3.size : Int) then (if (x5_3.extract 0 (t299 : Int).toNat).size + (rdOf ByteArray.empty y301 bt304.1).size + (x5_3.extract ((wrap64 (t299 + 1)) : Int).toNat x5_3.size).size ≤ 9223372036854775807 then (some (((x5_3.extract 0 (t299 : Int).toNat) ++ (rdOf ByteArray.empty y301 bt304.1)) ++ (x5_3.extract ((wrap64 (t299 + 1)) : Int).toNat x5_3.size), bt304.2)) else (none)) else (none)) else (none)) else (none)) else (none)) else (none)))) else (none)) else (none)) = some (r1, r2) := H
        have A9 := Aside0.mk A90
        clear A90
        by_cases c10 : 0 ≤ t299
        · rw [if_pos c10] at H
          have c10b0 := eq_true c10
          have c10b1 : decide (0 ≤ t299) = true := decide_eq_true c10
          clear c10
          by_cases c11 : t299 ≤ (x5_3.size : Int)
          · rw [if_pos c11] at H
            have c11b0 := eq_true c11
            have c11b1 : decide (t299 ≤ (x5_3.size : Int)) = true := decide_eq_true c11
            clear c11
            obtain ⟨y301, hy301⟩ : ∃ y_ : List ByteArray, y_ = (([(⟨#[]⟩ : ByteArray), (⟨#[97]⟩ : ByteArray), (⟨#[40]⟩ : ByteArray), (⟨#[101]⟩ : ByteArray), (⟨#[126]⟩ : ByteArray)] : List ByteArray)) := ⟨_, rfl⟩
            replace H : ((spec_l20Rd_pick.f kj3 s0_0 t300 5).bind fun bt304 => (if 0 ≤ bt304.1 then (if bt304.1 < (y301.length : Int) then (if (x5_3.extract 0 (t299 : Int).toNat).size + (rdOf ByteArray.empty y301 bt304.1).size ≤ 9223372036854775807 then (if 0 ≤ (wrap64 (t299 + 1)) then (if (wrap64 (t299 + 1)) ≤ (x5_3.size : Int) then (if (x5_3.extract 0 (t299 : Int).toNat).size + (rdOf ByteArray.empty y301 bt304.1).size + (x5_3.extract ((wrap64 (t299 + 1)) : Int).toNat x5_3.size).size ≤ 9223372036854775807 then (some (((x5_3.extract 0 (t299 : Int).toNat) ++ (rdOf ByteArray.empty y301 bt304.1)) ++ (x5_3.extract ((wrap64 (t299 + 1)) : Int).toNat x5_3.size), bt304.2)) else (none)) else (none)) else (none)) else (none)) else (none)) else (none))) = some (r1, r2) := by first | (rw [hy301]; with_reducible exact H) | (have H2_ := (Option.bind_some _ _).symm.trans H; rw [hy301]; with_reducible exact H2_) | (have H2_ := (Option.bind_some _ _).symm.trans H; with_reducible exact H2_) | with_reducible exact H | (rw [hy301]; exact H) | exact H
            have Ny301 := Aside0.mk hy301
            clear hy301
            replace H := Option.bind_eq_some_iff.mp H
            obtain ⟨⟨t304, t305⟩, A120, H⟩ := H
            replace H : (if 0 ≤ t304 then (if t304 < (y301.length : Int) then (if (x5_3.extract 0 (t299 : Int).toNat).size + (rdOf ByteArray.empty y301 t304).size ≤ 9223372036854775807 then (if 0 ≤ (wrap64 (t299 + 1)) then (if (wrap64 (t299 + 1)) ≤ (x5_3.size : Int) then (if (x5_3.extract 0 (t299 : Int).toNat).size + (rdOf ByteArray.empty y301 t304).size + (x5_3.extract ((wrap64 (t299 + 1)) : Int).toNat x5_3.size).size ≤ 9223372036854775807 then (some (((x5_3.extract 0 (t299 : Int).toNat) ++ (rdOf ByteArray.empty y301 t304)) ++ (x5_3.extract ((wrap64 (t299 + 1)) : Int).toNat x5_3.size), t305)) else (none)) else (none)) else (none)) else (none)) else (none)) else (none)) = some (r1, r2) := H
            have A12 := Aside0.mk A120
            clear A120
            by_cases c13 : 0 ≤ t304
            · rw [if_pos c13] at H
              have c13b0 : decide (0 ≤ t304) = true := decide_eq_true c13
              clear c13
              by_cases c14 : t304 < (y301.length : Int)
              · rw [if_pos c14] at H
                have c14b0 : decide (t304 < (y301.length : Int)) = true := decide_eq_true c14
                clear c14
                by_cases c15 : (x5_3.extract 0 (t299 : Int).toNat).size + (rdOf ByteArray.empty y301 t304).size ≤ 9223372036854775807
                · rw [if_pos c15] at H
                  have c15b0 := eq_true c15
                  have c15b1 : decide ((x5_3.extract 0 (t299 : Int).toNat).size + (rdOf ByteArray.empty y301 t304).size ≤ 9223372036854775807) = true := decide_eq_true c15
                  try have c15b2 : (9223372036854775807 < (x5_3.extract 0 (t299 : Int).toNat).size + (rdOf ByteArray.empty y301 t304).size) = False := eq_false (Nat.not_lt.2 c15)
                  obtain ⟨ji16, hji16⟩ : ∃ j_ : Int, (wrap64 (t299 + 1)) = j_ := ⟨_, rfl⟩
                  replace H : (if 0 ≤ (ji16) then (if (ji16) ≤ (x5_3.size : Int) then (if (x5_3.extract 0 (t299 : Int).toNat).size + (rdOf ByteArray.empty y301 t304).size + (x5_3.extract ((ji16) : Int).toNat x5_3.size).size ≤ 9223372036854775807 then (some (((x5_3.extract 0 (t299 : Int).toNat) ++ (rdOf ByteArray.empty y301 t304)) ++ (x5_3.extract ((ji16) : Int).toNat x5_3.size), t305)) else (none)) else (none)) else (none)) = some (r1, r2) := by first | (rw [hji16] at H; exact H) | (simp only [hji16] at H ⊢; exact H)
                  (try rw [hji16] at A7)
                  (try rw [hji16] at A9)
                  (try rw [hji16] at A12)
                  have hji16w : (IntKind.i64.wrap (t299 + 1)) = ji16 := (i64_w _).trans hji16
                  by_cases c17 : 0 ≤ (ji16)
                  · rw [if_pos c17] at H
                    have c17b0 := eq_true c17
                    have c17b1 : decide (0 ≤ (ji16)) = true := decide_eq_true c17
                    clear c17
                    by_cases c18 : (ji16) ≤ (x5_3.size : Int)
                    · rw [if_pos c18] at H
                      have c18b0 := eq_true c18
                      have c18b1 : decide ((ji16) ≤ (x5_3.size : Int)) = true := decide_eq_true c18
                      clear c18
                      by_cases c19 : (x5_3.extract 0 (t299 : Int).toNat).size + (rdOf ByteArray.empty y301 t304).size + (x5_3.extract ((ji16) : Int).toNat x5_3.size).size ≤ 9223372036854775807
                      · rw [if_pos c19] at H
                        have c19b0 := eq_true c19
                        have c19b1 : decide ((x5_3.extract 0 (t299 : Int).toNat).size + (rdOf ByteArray.empty y301 t304).size + (x5_3.extract ((ji16) : Int).toNat x5_3.size).size ≤ 9223372036854775807) = true := decide_eq_true c19
                        try have c19b2 : (9223372036854775807 < (x5_3.extract 0 (t299 : Int).toNat).size + (rdOf ByteArray.empty y301 t304).size + (x5_3.extract ((ji16) : Int).toNat x5_3.size).size) = False := eq_false (Nat.not_lt.2 c19)
                        simp only [Option.some.injEq, Prod.mk.injEq] at H
                        obtain ⟨rfl, rfl⟩ := H
                        try go_wp2_with (first | ((with_reducible refine gate_callee (f := 62) rfl ?_); refine goesL_ (some 14) rfl rfl Try.func62 (by kernel_rfl) rfl #[.pointer (some ⟨g, 0, none⟩), .int .i64 a1] rfl gf ?_; (with_reducible refine (spec_l20Rd_odd.calls kj3 g s0_0 t296 a1 true t298 w0 _ ?side1 ?side2 A7.out).mono ?_); (case side1 => exact (bI78 HI0)); (case side2 => exact (bB HB)); rintro e w20 ⟨rfl, hi, hb, hk⟩; refine ⟨_, rfl, ?_⟩; have n0_ := Az (KeepBut.trans (bK HK) hk (.inl rfl)); have n1_ := Az (hb); have n2_ := Az (hi); clear HK; clear HB; clear HI0; have HK := n0_; have HB := n1_; have HI0 := n2_; clear n0_ n1_ n2_; (try clear hb); (try clear hb2); (try clear hk); (try clear hi)) | ((with_reducible refine gate_callee (f := 43) rfl ?_); refine goesL_ (some 18) rfl rfl Try.func43 (by kernel_rfl) rfl #[.pointer (some ⟨g, 0, none⟩), .int .i64 (x5_3.size : Int)] rfl gf ?_; (with_reducible refine (spec_l20Rd_pick.calls kj3 g s0_0 t298 (x5_3.size : Int) t299 t300 w0 _ ?side1 ?side2 A9.out).mono ?_); (case side1 => exact (bI78 HI0)); (case side2 => exact (bB HB)); rintro e w21 ⟨rfl, hi, hb, hk⟩; refine ⟨_, rfl, ?_⟩; have n0_ := Az (KeepBut.trans (bK HK) hk (.inl rfl)); have n1_ := Az (hb); have n2_ := Az (hi); clear HK; clear HB; clear HI0; have HK := n0_; have HB := n1_; have HI0 := n2_; clear n0_ n1_ n2_; (try clear hb); (try clear hb2); (try clear hk); (try clear hi)))
                        have pi306 : (0 ≤ (t304 : Int)) = True := eq_true (of_decide_eq_true fa)
                        have qi306 : (t304 < (y301.length : Int)) = True := eq_true (of_decide_eq_true fa)
                        have n0_ := Az (IsS78.drew HI0.out)
                        have n1_ := Az (keep_drew HK.out)
                        have n2_ := Az (below_drew1 HB.out)
                        clear HI0
                        clear HK
                        clear HB
                        have HI0 := n0_
                        have HK := n1_
                        have HB := n2_
                        clear n0_ n1_ n2_
                        refine start_ (n := 15) (S := fun w' => True) (ds := []) #[false, false, false, false, false, false, false, false, false, false, false, false, false, false, false] (by kernel_rfl) rfl rfl trivial (fun hHeld => ?_); refine with_tabW spec_l20Text.tab6 spec_l20Text.bits6 (fun HT_ HW_ => ?_)
                        generalize w21.drew = w22 at HI0 HK HB hHeld ⊢
                        refine pure_ (i := 0) (N := some 19) (v := ?_) (a' := ?_) #[true, false, false, false, false, false, false, false, false, false, false, false, false, false, false] rfl rfl (any_of HT_.out (by kernel_rfl)) (fun _ _ _ h => h) (Or.inl ⟨by rfl, ?_⟩) ?_ ?_
                        rotate_left
                        · intro w'
                          go_simp
                          with_reducible rfl
                        rotate_left
                        · simp only [Act.put, List.setIfInBounds_toArray, List.set_cons_zero, List.set_cons_succ, i64_w, i32_w]
                          rfl
                        refine pure_ (i := 1) (N := some 20) (v := ?_) (a' := ?_) #[true, true, false, false, false, false, false, false, false, false, false, false, false, false, false] rfl rfl (any_of HT_.out (by kernel_rfl)) (fun _ _ _ h => h) (Or.inl ⟨by rfl, ?_⟩) ?_ ?_
                        rotate_left
                        · intro w'
                          go_simp
                          with_reducible rfl
                        rotate_left
                        · simp only [Act.put, List.setIfInBounds_toArray, List.set_cons_zero, List.set_cons_succ, i64_w, i32_w]
                          rfl
                        refine pure_ (i := 4) (N := some 23) (v := ?_) (a' := ?_) #[true, true, false, false, true, false, false, false, false, false, false, false, false, false, false] rfl rfl (any_of HT_.out (by kernel_rfl)) (fun _ _ _ h => h) (Or.inl ⟨by rfl, ?_⟩) ?_ ?_
                        rotate_left
                        · intro w'
                          go_simp
                          with_reducible rfl
                        rotate_left
                        · simp only [Act.put, List.setIfInBounds_toArray, List.set_cons_zero, List.set_cons_succ, i64_w, i32_w]
                          rfl
                        refine pure_ (i := 9) (N := some 28) (v := ?_) (a' := ?_) #[true, true, false, false, true, false, false, false, false, true, false, false, false, false, false] rfl rfl (any_of HT_.out (by kernel_rfl)) (fun _ _ _ h => h) (Or.inl ⟨by rfl, ?_⟩) ?_ ?_
                        rotate_left
                        · intro w'
                          go_simp
                          with_reducible rfl
                        rotate_left
                        · simp only [Act.put, List.setIfInBounds_toArray, List.set_cons_zero, List.set_cons_succ, i64_w, i32_w]
                          rfl
                        refine pure_ (i := 10) (N := some 29) (v := ?_) (a' := ?_) #[true, true, false, false, true, false, false, false, false, true, true, false, false, false, false] rfl rfl (any_of HT_.out (by kernel_rfl)) (fun _ _ _ h => h) (Or.inl ⟨by rfl, ?_⟩) ?_ ?_
                        rotate_left
                        · intro w'
                          go_simp
                          with_reducible rfl
                        rotate_left
                        · simp only [Act.put, List.setIfInBounds_toArray, List.set_cons_zero, List.set_cons_succ, i64_w, i32_w]
                          rfl
                        refine inv_at [2, 3, 5, 6, 7, 8, 11, 12, 13, 14] (fun a0_ b a w' => ∃ (v302 : Value) (adz_v302 : Addr) (m6_ : Value), a = putSel a0_ b [(2, 21, .string (x5_3.extract 0 (t299 : Int).toNat)), (3, 22, v302), (5, 24, .int .i64 t304), (6, 25, m6_), (7, 26, .string (rdOf ByteArray.empty y301 t304)), (8, 27, .string ((x5_3.extract 0 (t299 : Int).toNat) ++ (rdOf ByteArray.empty y301 t304))), (11, 30, .int .i64 ji16), (12, 31, .string (x5_3.extract ((ji16) : Int).toNat x5_3.size)), (13, 32, .string (((x5_3.extract 0 (t299 : Int).toNat) ++ (rdOf ByteArray.empty y301 t304)) ++ (x5_3.extract ((ji16) : Int).toNat x5_3.size))), (14, 4, .string (((x5_3.extract 0 (t299 : Int).toNat) ++ (rdOf ByteArray.empty y301 t304)) ++ (x5_3.extract ((ji16) : Int).toNat x5_3.size)))] ∧ (b 5 = false → IsS78 w0 w' g s0_0 t300) ∧ (KeepBut w w' g none) ∧ (Below w0.heap.size w0 w') ∧ (b 3 = true → Kd.R Kd.string 9 w' w.heap.size (fun _ => True) v302 y301) ∧ (b 3 = true → ∃ c_, (v302 : Value) = .slice (some adz_v302) y301.length c_) ∧ (b 5 = true → IsS78 w0 w' g s0_0 t305) ∧ (b 6 = true → (m6_ : Value) = .pointer (some (adz_v302.add (t304).toNat)))) HT_.out HW_.out (by kernel_rfl) (by kernel_rfl) ?_ ?_ ?_
                        · exact ⟨.bool false, ⟨0, 0, none⟩, .bool false, by simp only [putSel, Bool.false_eq_true, if_false], fun _ => HI0.out, HK.out, HB.out, fun h_ => absurd h_ (by decide), fun h_ => absurd h_ (by decide), fun h_ => absurd h_ (by decide), fun h_ => absurd h_ (by decide)⟩
                        · skip
                          clear HB HI0 HK
                          refine steps_cons ?_ ?_
                          · rintro b a w' ⟨v302, adz_v302, m6_, ha, Q_HI0, Q_HK, Q_HB, Q_HO303, Q_HA_HO303, Q_HI0_e5, Q_X6_⟩ hb_ hon hoff
                            refine ⟨_, rfl, fun K hK => ?_⟩
                            have e19 : a.tmps[19]? = some (.string x5_3) := by rw [ha]; exact (putSel_off rfl).trans rfl
                            have e20 : a.tmps[20]? = some (.int .i64 t299) := by rw [ha]; exact (putSel_off rfl).trans rfl
                            replace ha := Aside0.mk ha
                            have HK := Aside0.mk Q_HK
                            have HB := Aside0.mk Q_HB
                            refine value_ (w1 := w') (v := .string (x5_3.extract 0 (t299 : Int).toNat)) (by rfl) rfl ?_ ?_
                            · go_simp
                              (try simp only [i64_w])
                              try rfl
                              try (simp only [ByteArray.size_extract, eq_iff_iff, iff_true, iff_false, decide_eq_true_eq] at *; omega)
                            refine hK.out _ _ ⟨v302, adz_v302, m6_, (by rw [ha.out]; exact putSel_upk 0 hb_ rfl rfl rfl), Q_HI0, Q_HK, Q_HB, Q_HO303, Q_HA_HO303, Q_HI0_e5, Q_X6_⟩
                          refine steps_cons ?_ ?_
                          · rintro b a w' ⟨v302, adz_v302, m6_, ha, Q_HI0, Q_HK, Q_HB, Q_HO303, Q_HA_HO303, Q_HI0_e5, Q_X6_⟩ hb_ hon hoff
                            refine ⟨_, rfl, fun K hK => ?_⟩
                            replace ha := Aside0.mk ha
                            have HK := Aside0.mk Q_HK
                            have HB := Aside0.mk Q_HB
                            refine Kd.R_lit_step Kd.string _ 9 ?hg (N := 22) ?hd (xs := ([(⟨#[]⟩ : ByteArray), (⟨#[97]⟩ : ByteArray), (⟨#[40]⟩ : ByteArray), (⟨#[101]⟩ : ByteArray), (⟨#[126]⟩ : ByteArray)] : List ByteArray)) (inner := [.string (⟨#[]⟩ : ByteArray), .string (⟨#[97]⟩ : ByteArray), .string (⟨#[40]⟩ : ByteArray), .string (⟨#[101]⟩ : ByteArray), .string (⟨#[126]⟩ : ByteArray)]) (ok := fun _ => True) (okp := fun _ => True) ?hr ?hp (fun _ hk => hk) trivial (Below.refl _ _) (Nat.le_refl _) (by simp) ?_; (case hd => rfl); (case hg => rfl); (case hr => first | (go_simp; done) | (go_simp; rfl)); (case hp => exact (Reps.one (show Kd.M Kd.string _ _ _ (⟨#[]⟩ : ByteArray) [.string (⟨#[]⟩ : ByteArray)] from rfl) (Reps.one (show Kd.M Kd.string _ _ _ (⟨#[97]⟩ : ByteArray) [.string (⟨#[97]⟩ : ByteArray)] from rfl) (Reps.one (show Kd.M Kd.string _ _ _ (⟨#[40]⟩ : ByteArray) [.string (⟨#[40]⟩ : ByteArray)] from rfl) (Reps.one (show Kd.M Kd.string _ _ _ (⟨#[101]⟩ : ByteArray) [.string (⟨#[101]⟩ : ByteArray)] from rfl) (Reps.one (show Kd.M Kd.string _ _ _ (⟨#[126]⟩ : ByteArray) [.string (⟨#[126]⟩ : ByteArray)] from rfl) (Reps.none _ _)))))))
                            intro v302 w23 ho24 hb hg_ hnew_
                            clear hg_ hnew_
                            (first | rw [← Ny301.out] at ho24 | (simp only [Int.reduceToNat] at ho24; rw [← Ny301.out] at ho24))
                            have n0_ := Az (Kd.R_lower ho24 (keep_size (w := w) (g := g) (row := none) (bK HK)))
                            have n2_ := Az (KeepBut.trans (bK HK) (KeepBut.of_below hb g none) (.inl rfl))
                            have n3_ := Az (below_step (bB HB) hb)
                            have z_HI0 := fun (h0_ : b 5 = false) => (show IsS78 w0 w23 g s0_0 t300 from by first | exact (IsS78.below (by repeat (first | (with_reducible first | exact (Q_HI0 h0_) | apply IsS78.alloc | apply IsS78.drewN | apply IsS78.drew | apply IsS78.set_1) | exact (Q_HI0 h0_))) hb))
                            have z_HI0_e5 := fun (h0_ : b 5 = true) => (show IsS78 w0 w23 g s0_0 t305 from by first | exact (IsS78.below (by repeat (first | (with_reducible first | exact (Q_HI0_e5 h0_) | apply IsS78.alloc | apply IsS78.drewN | apply IsS78.drew | apply IsS78.set_1) | exact (Q_HI0_e5 h0_))) hb))
                            clear HK
                            clear HB
                            have HO303 := n0_
                            have HK := n2_
                            have HB := n3_
                            clear n0_ n2_ n3_
                            clear hb ho24
                            obtain ⟨Ao25, co25, eo25⟩ := Kd.R_slice HO303.out
                            subst eo25
                            obtain ⟨ado25, fo25, _⟩ := Kd.at_string (Kd.R_reads' HO303.out).2.2 0 (by decide) (by rw [Ny301.out]; simp)
                            cases fo25
                            refine hK.out _ _ ⟨.slice (some ado25) y301.length co25, ado25, m6_, (by rw [ha.out]; exact putSel_upk 1 hb_ rfl rfl rfl), z_HI0, (by repeat (first | (with_reducible first | exact HK.out | apply KeepBut.set_ | apply keep_drewN | apply keep_drew | apply keep_alloc) | exact HK.out)), (by repeat (first | (with_reducible first | exact HB.out | apply below_alloc | apply pw_below_drewN | apply below_drew1) | exact HB.out)), fun _ => (dR (HO303.out)), fun _ => ⟨_, rfl⟩, z_HI0_e5, fun h0_ => absurd ((hoff 6 (by kernel_rfl)).symm.trans h0_) (by decide)⟩
                          refine steps_cons ?_ ?_
                          · rintro b a w' ⟨v302, adz_v302, m6_, ha, Q_HI0, Q_HK, Q_HB, Q_HO303, Q_HA_HO303, Q_HI0_e5, Q_X6_⟩ hb_ hon hoff
                            refine ⟨_, rfl, fun K hK => ?_⟩
                            have e23 : a.tmps[23]? = some (.pointer (some ⟨g, 0, none⟩)) := by rw [ha]; exact (putSel_off rfl).trans rfl
                            replace ha := Aside0.mk ha
                            have HI0 := Az (Q_HI0 hb_)
                            have HK := Aside0.mk Q_HK
                            have HB := Aside0.mk Q_HB
                            refine goes_ Try.func43 (by kernel_rfl) rfl #[.pointer (some ⟨g, 0, none⟩), .int .i64 5] (by rfl) rfl rfl (by first | (simp only [List.map_toArray, List.map_cons, List.map_nil, Act.eval, Array.getD_eq_getD_getElem?, Option.getD_some, e23]; done) | (simp only [List.map_toArray, List.map_cons, List.map_nil, Act.eval, Array.getD_eq_getD_getElem?, Option.getD_some, e23]; rfl)) ?_
                            with_reducible refine (spec_l20Rd_pick.calls kj3 g s0_0 t300 5 t304 t305 w0 _ ?side1 ?side2 A12.out).mono ?_
                            (case side1 => exact (bI78 HI0))
                            (case side2 => exact (bB HB))
                            rintro e w23 ⟨rfl, hi, hb, hk⟩
                            refine ⟨_, rfl, ?_⟩
                            have n0_ := Az (KeepBut.trans (bK HK) hk (.inl rfl))
                            have n1_ := Az (hb)
                            have n2_ := Az (hi)
                            have z_HO303 := fun (h0_ : b 3 = true) => (show Kd.R Kd.string 9 w23 w.heap.size (fun _ => True) v302 y301 from by first | exact (Kd.R_mono (Kd.R_keep (IsS78.apart (show IsS78 w0 _ g s0_0 t300 from (bI78 HI0)) (dR ((Q_HO303 h0_))) (by decide)) hk (fun _ h => h.2)) (fun _ h => h.1)) | exact Kd.R_mono (Kd.R_mono (Kd.R_keep (IsS78.apart (show IsS78 w0 _ g s0_0 t300 from (bI78 HI0)) (dR ((Q_HO303 h0_))) (by decide)) hk (fun _ h => h.2)) (fun _ h => h.1)) (fun _ h_ => by first | trivial | exact h_ | exact h_.1))
                            clear HK
                            clear HB
                            clear HI0
                            have HK := n0_
                            have HB := n1_
                            have HI0 := n2_
                            clear n0_ n1_ n2_
                            (try clear hb)
                            (try clear hb2)
                            (try clear hk)
                            (try clear hi)
                            refine hK.out _ _ ⟨v302, adz_v302, m6_, (by rw [ha.out]; exact putSel_upk 2 hb_ rfl rfl rfl), fun h0_ => absurd ((up_self b 5).symm.trans h0_) (by decide), (by repeat (first | (with_reducible first | exact HK.out | apply KeepBut.set_ | apply keep_drewN | apply keep_drew | apply keep_alloc) | exact HK.out)), (by repeat (first | (with_reducible first | exact HB.out | apply below_alloc | apply pw_below_drewN | apply below_drew1 | refine below_set ?_ (IsS78.ge HI0.out)) | exact HB.out)), z_HO303, Q_HA_HO303, fun _ => (by repeat (first | (with_reducible first | exact HI0.out | apply IsS78.alloc | apply IsS78.drewN | apply IsS78.drew | apply IsS78.set_1) | exact HI0.out)), fun h0_ => absurd ((hoff 6 (by kernel_rfl)).symm.trans h0_) (by decide)⟩
                          refine steps_cons ?_ ?_
                          · rintro b a w' ⟨v302, adz_v302, m6_, ha, Q_HI0, Q_HK, Q_HB, Q_HO303, Q_HA_HO303, Q_HI0_e5, Q_X6_⟩ hb_ hon hoff
                            refine ⟨_, rfl, fun K hK => ?_⟩
                            have e22 : a.tmps[22]? = some (v302) := by rw [ha]; exact putSel_on (e := (3, 22, v302)) 1 rfl rfl (hon 3 (by kernel_rfl)) rfl
                            have e24 : a.tmps[24]? = some (.int .i64 t304) := by rw [ha]; exact putSel_on (e := (5, 24, .int .i64 t304)) 2 rfl rfl (hon 5 (by kernel_rfl)) rfl
                            replace ha := Aside0.mk ha
                            have HK := Aside0.mk Q_HK
                            have HB := Aside0.mk Q_HB
                            have HO303 := Az (Q_HO303 (hon 3 (by kernel_rfl)))
                            have HA_HO303 := Az (Q_HA_HO303 (hon 3 (by kernel_rfl)))
                            have HI0 := Az (Q_HI0_e5 (hon 5 (by kernel_rfl)))
                            obtain ⟨c_, hv_⟩ := HA_HO303.out
                            rw [hv_] at e22
                            refine value_ (w1 := w') (v := .pointer (some (adz_v302.add (t304).toNat))) (by rfl) rfl ?_ ?_
                            · go_simp
                              (try simp only [i64_w])
                              try rfl
                              try (simp only [ByteArray.size_extract, eq_iff_iff, iff_true, iff_false, decide_eq_true_eq] at *; omega)
                            refine hK.out _ _ ⟨v302, adz_v302, (.pointer (some (adz_v302.add (t304).toNat))), (by rw [ha.out]; exact putSel_upk 3 hb_ rfl rfl rfl), fun h0_ => absurd ((hon 5 (by kernel_rfl)).symm.trans h0_) (by decide), Q_HK, Q_HB, Q_HO303, Q_HA_HO303, Q_HI0_e5, fun _ => rfl⟩
                          refine steps_cons ?_ ?_
                          · rintro b a w' ⟨v302, adz_v302, m6_, ha, Q_HI0, Q_HK, Q_HB, Q_HO303, Q_HA_HO303, Q_HI0_e5, Q_X6_⟩ hb_ hon hoff
                            refine ⟨_, rfl, fun K hK => ?_⟩
                            have e25 : a.tmps[25]? = some (m6_) := by rw [ha]; exact putSel_on (e := (6, 25, m6_)) 3 rfl rfl (hon 6 (by kernel_rfl)) rfl
                            rw [Q_X6_ (hon 6 (by kernel_rfl))] at e25
                            replace ha := Aside0.mk ha
                            have HK := Aside0.mk Q_HK
                            have HB := Aside0.mk Q_HB
                            have HO303 := Az (Q_HO303 (hon 3 (by kernel_rfl)))
                            have HA_HO303 := Az (Q_HA_HO303 (hon 3 (by kernel_rfl)))
                            have HI0 := Az (Q_HI0_e5 (hon 5 (by kernel_rfl)))
                            obtain ⟨c_, hv_⟩ := HA_HO303.out
                            have hF_ := HO303.out
                            rw [hv_] at hF_
                            obtain ⟨ad_, ea_, hx_⟩ := Kd.at_string (Kd.R_reads' hF_).2.2 t304 (of_eq_true pi306) (of_eq_true qi306)
                            cases ea_
                            refine value_ (w1 := w') (v := .string (rdOf ByteArray.empty y301 t304)) (by rfl) rfl ?_ ?_
                            · go_simp
                              (try simp only [i64_w])
                              try rfl
                              try (simp only [ByteArray.size_extract, eq_iff_iff, iff_true, iff_false, decide_eq_true_eq] at *; omega)
                            refine hK.out _ _ ⟨v302, adz_v302, m6_, (by rw [ha.out]; exact putSel_upk 4 hb_ rfl rfl rfl), fun h0_ => absurd ((hon 5 (by kernel_rfl)).symm.trans h0_) (by decide), Q_HK, Q_HB, Q_HO303, Q_HA_HO303, Q_HI0_e5, Q_X6_⟩
                          refine steps_cons ?_ ?_
                          · rintro b a w' ⟨v302, adz_v302, m6_, ha, Q_HI0, Q_HK, Q_HB, Q_HO303, Q_HA_HO303, Q_HI0_e5, Q_X6_⟩ hb_ hon hoff
                            refine ⟨_, rfl, fun K hK => ?_⟩
                            have e21 : a.tmps[21]? = some (.string (x5_3.extract 0 (t299 : Int).toNat)) := by rw [ha]; exact putSel_on (e := (2, 21, .string (x5_3.extract 0 (t299 : Int).toNat))) 0 rfl rfl (hon 2 (by kernel_rfl)) rfl
                            have e26 : a.tmps[26]? = some (.string (rdOf ByteArray.empty y301 t304)) := by rw [ha]; exact putSel_on (e := (7, 26, .string (rdOf ByteArray.empty y301 t304))) 4 rfl rfl (hon 7 (by kernel_rfl)) rfl
                            replace ha := Aside0.mk ha
                            have HK := Aside0.mk Q_HK
                            have HB := Aside0.mk Q_HB
                            have HO303 := Az (Q_HO303 (hon 3 (by kernel_rfl)))
                            have HA_HO303 := Az (Q_HA_HO303 (hon 3 (by kernel_rfl)))
                            have HI0 := Az (Q_HI0_e5 (hon 5 (by kernel_rfl)))
                            refine value_ (w1 := w') (v := .string ((x5_3.extract 0 (t299 : Int).toNat) ++ (rdOf ByteArray.empty y301 t304))) (by rfl) rfl ?_ ?_
                            · go_simp
                              (try simp only [i64_w])
                              try rfl
                              try (simp only [ByteArray.size_extract, eq_iff_iff, iff_true, iff_false, decide_eq_true_eq] at *; omega)
                            refine hK.out _ _ ⟨v302, adz_v302, m6_, (by rw [ha.out]; exact putSel_upk 5 hb_ rfl rfl rfl), fun h0_ => absurd ((hon 5 (by kernel_rfl)).symm.trans h0_) (by decide), Q_HK, Q_HB, Q_HO303, Q_HA_HO303, Q_HI0_e5, Q_X6_⟩
                          refine steps_cons ?_ ?_
                          · rintro b a w' ⟨v302, adz_v302, m6_, ha, Q_HI0, Q_HK, Q_HB, Q_HO303, Q_HA_HO303, Q_HI0_e5, Q_X6_⟩ hb_ hon hoff
                            refine ⟨_, rfl, fun K hK => ?_⟩
                            have e29 : a.tmps[29]? = some (.int .i64 t299) := by rw [ha]; exact (putSel_off rfl).trans rfl
                            replace ha := Aside0.mk ha
                            have HK := Aside0.mk Q_HK
                            have HB := Aside0.mk Q_HB
                            refine value_ (w1 := w') (v := .int .i64 ji16) (by rfl) rfl ?_ ?_
                            · go_simp
                              (try simp only [i64_w])
                              try rfl
                              try (simp only [ByteArray.size_extract, eq_iff_iff, iff_true, iff_false, decide_eq_true_eq] at *; omega)
                            refine hK.out _ _ ⟨v302, adz_v302, m6_, (by rw [ha.out]; exact putSel_upk 6 hb_ rfl rfl rfl), Q_HI0, Q_HK, Q_HB, Q_HO303, Q_HA_HO303, Q_HI0_e5, Q_X6_⟩
                          refine steps_cons ?_ ?_
                          · rintro b a w' ⟨v302, adz_v302, m6_, ha, Q_HI0, Q_HK, Q_HB, Q_HO303, Q_HA_HO303, Q_HI0_e5, Q_X6_⟩ hb_ hon hoff
                            refine ⟨_, rfl, fun K hK => ?_⟩
                            have e28 : a.tmps[28]? = some (.string x5_3) := by rw [ha]; exact (putSel_off rfl).trans rfl
                            have e30 : a.tmps[30]? = some (.int .i64 ji16) := by rw [ha]; exact putSel_on (e := (11, 30, .int .i64 ji16)) 6 rfl rfl (hon 11 (by kernel_rfl)) rfl
                            replace ha := Aside0.mk ha
                            have HK := Aside0.mk Q_HK
                            have HB := Aside0.mk Q_HB
                            refine value_ (w1 := w') (v := .string (x5_3.extract ((ji16) : Int).toNat x5_3.size)) (by rfl) rfl ?_ ?_
                            · go_simp
                              (try simp only [i64_w])
                              try rfl
                              try (simp only [ByteArray.size_extract, eq_iff_iff, iff_true, iff_false, decide_eq_true_eq] at *; omega)
                            refine hK.out _ _ ⟨v302, adz_v302, m6_, (by rw [ha.out]; exact putSel_upk 7 hb_ rfl rfl rfl), Q_HI0, Q_HK, Q_HB, Q_HO303, Q_HA_HO303, Q_HI0_e5, Q_X6_⟩
                          refine steps_cons ?_ ?_
                          · rintro b a w' ⟨v302, adz_v302, m6_, ha, Q_HI0, Q_HK, Q_HB, Q_HO303, Q_HA_HO303, Q_HI0_e5, Q_X6_⟩ hb_ hon hoff
                            refine ⟨_, rfl, fun K hK => ?_⟩
                            have e27 : a.tmps[27]? = some (.string ((x5_3.extract 0 (t299 : Int).toNat) ++ (rdOf ByteArray.empty y301 t304))) := by rw [ha]; exact putSel_on (e := (8, 27, .string ((x5_3.extract 0 (t299 : Int).toNat) ++ (rdOf ByteArray.empty y301 t304)))) 5 rfl rfl (hon 8 (by kernel_rfl)) rfl
                            have e31 : a.tmps[31]? = some (.string (x5_3.extract ((ji16) : Int).toNat x5_3.size)) := by rw [ha]; exact putSel_on (e := (12, 31, .string (x5_3.extract ((ji16) : Int).toNat x5_3.size))) 7 rfl rfl (hon 12 (by kernel_rfl)) rfl
                            replace ha := Aside0.mk ha
                            have HK := Aside0.mk Q_HK
                            have HB := Aside0.mk Q_HB
                            have HO303 := Az (Q_HO303 (hon 3 (by kernel_rfl)))
                            have HA_HO303 := Az (Q_HA_HO303 (hon 3 (by kernel_rfl)))
                            have HI0 := Az (Q_HI0_e5 (hon 5 (by kernel_rfl)))
                            refine value_ (w1 := w') (v := .string (((x5_3.extract 0 (t299 : Int).toNat) ++ (rdOf ByteArray.empty y301 t304)) ++ (x5_3.extract ((ji16) : Int).toNat x5_3.size))) (by rfl) rfl ?_ ?_
                            · go_simp
                              (try simp only [i64_w])
                              try rfl
                              try (simp only [ByteArray.size_extract, eq_iff_iff, iff_true, iff_false, decide_eq_true_eq] at *; omega)
                            refine hK.out _ _ ⟨v302, adz_v302, m6_, (by rw [ha.out]; exact putSel_upk 8 hb_ rfl rfl rfl), fun h0_ => absurd ((hon 5 (by kernel_rfl)).symm.trans h0_) (by decide), Q_HK, Q_HB, Q_HO303, Q_HA_HO303, Q_HI0_e5, Q_X6_⟩
                          refine steps_cons ?_ ?_
                          · rintro b a w' ⟨v302, adz_v302, m6_, ha, Q_HI0, Q_HK, Q_HB, Q_HO303, Q_HA_HO303, Q_HI0_e5, Q_X6_⟩ hb_ hon hoff
                            refine ⟨_, rfl, fun K hK => ?_⟩
                            have e32 : a.tmps[32]? = some (.string (((x5_3.extract 0 (t299 : Int).toNat) ++ (rdOf ByteArray.empty y301 t304)) ++ (x5_3.extract ((ji16) : Int).toNat x5_3.size))) := by rw [ha]; exact putSel_on (e := (13, 32, .string (((x5_3.extract 0 (t299 : Int).toNat) ++ (rdOf ByteArray.empty y301 t304)) ++ (x5_3.extract ((ji16) : Int).toNat x5_3.size)))) 8 rfl rfl (hon 13 (by kernel_rfl)) rfl
                            replace ha := Aside0.mk ha
                            have HK := Aside0.mk Q_HK
                            have HB := Aside0.mk Q_HB
                            have HO303 := Az (Q_HO303 (hon 3 (by kernel_rfl)))
                            have HA_HO303 := Az (Q_HA_HO303 (hon 3 (by kernel_rfl)))
                            have HI0 := Az (Q_HI0_e5 (hon 5 (by kernel_rfl)))
                            refine value_ (w1 := w') (v := .string (((x5_3.extract 0 (t299 : Int).toNat) ++ (rdOf ByteArray.empty y301 t304)) ++ (x5_3.extract ((ji16) : Int).toNat x5_3.size))) (by rfl) rfl ?_ ?_
                            · go_simp
                              (try simp only [i64_w])
                              try rfl
                              try (simp only [ByteArray.size_extract, eq_iff_iff, iff_true, iff_false, decide_eq_true_eq] at *; omega)
                            refine hK.out _ _ ⟨v302, adz_v302, m6_, (by rw [ha.out]; exact putSel_upk 9 hb_ rfl rfl rfl), fun h0_ => absurd ((hon 5 (by kernel_rfl)).symm.trans h0_) (by decide), Q_HK, Q_HB, Q_HO303, Q_HA_HO303, Q_HI0_e5, Q_X6_⟩
                          exact steps_nil
                        rintro b a w27 hall ⟨v302, adz_v302, m6_, ha, Q_HI0, Q_HK, Q_HB, Q_HO303, Q_HA_HO303, Q_HI0_e5, Q_X6_⟩
                        clear HB HI0 HK
                        have hb2_ := hall 2 (by kernel_rfl)
                        have hb3_ := hall 3 (by kernel_rfl)
                        have hb5_ := hall 5 (by kernel_rfl)
                        have hb6_ := hall 6 (by kernel_rfl)
                        have hb7_ := hall 7 (by kernel_rfl)
                        have hb8_ := hall 8 (by kernel_rfl)
                        have hb11_ := hall 11 (by kernel_rfl)
                        have hb12_ := hall 12 (by kernel_rfl)
                        have hb13_ := hall 13 (by kernel_rfl)
                        have hb14_ := hall 14 (by kernel_rfl)
                        subst ha
                        obtain rfl := Q_X6_ hb6_
                        simp only [putSel, hb2_, hb3_, hb5_, hb6_, hb7_, hb8_, hb11_, hb12_, hb13_, hb14_, if_true, Act.put, List.setIfInBounds_toArray, List.set_cons_zero, List.set_cons_succ]
                        clear Q_HI0
                        have HK := Aside0.mk Q_HK
                        clear Q_HK
                        have HB := Aside0.mk Q_HB
                        clear Q_HB
                        have HO303 := Az (Q_HO303 hb3_)
                        clear Q_HO303
                        have HA_HO303 := Az (Q_HA_HO303 hb3_)
                        clear Q_HA_HO303
                        have HI0 := Az (Q_HI0_e5 hb5_)
                        clear Q_HI0_e5
                        clear hall hb2_ hb3_ hb5_ hb6_ hb7_ hb8_ hb11_ hb12_ hb13_ hb14_
                        obtain ⟨co28, eo28⟩ := HA_HO303.out
                        clear HA_HO303
                        subst eo28
                        try go_wp2
                        go_ret
                        exact ⟨by first | rfl | (simp [errW_none, errW_some] <;> rfl) | (simp only [← hji16]; first | rfl | (simp [errW_none, errW_some] <;> rfl)) | (simp [*, errW_none, errW_some] <;> rfl), (bI78 HI0), (bB HB), (bK HK)⟩
                      · rw [if_neg c19] at H
                        exact absurd H (by simp)
                    · rw [if_neg c18] at H
                      exact absurd H (by simp)
                  · rw [if_neg c17] at H
                    exact absurd H (by simp)
                · rw [if_neg c15] at H
                  exact absurd H (by simp)
              · rw [if_neg c14] at H
                exact absurd H (by simp)
            · rw [if_neg c13] at H
              exact absurd H (by simp)
          · rw [if_neg c11] at H
            exact absurd H (by simp)
        · rw [if_neg c10] at H
          exact absurd H (by simp)
      · replace c8 := Bool.eq_false_iff.mpr c8
        subst c8
        have H1 : (some (x5_3, t298)) = some (r1, r2) := by rw [if_neg (show ¬ (false = true) by decide)] at H; exact H
        clear H
        have H := H1
        clear H1
        simp only [Option.some.injEq, Prod.mk.injEq] at H
        obtain ⟨rfl, rfl⟩ := H
        go_wp2_with (first | ((with_reducible refine gate_callee (f := 62) rfl ?_); refine goesL_ (some 14) rfl rfl Try.func62 (by kernel_rfl) rfl #[.pointer (some ⟨g, 0, none⟩), .int .i64 a1] rfl gf ?_; (with_reducible refine (spec_l20Rd_odd.calls kj3 g s0_0 t296 a1 false t298 w0 _ ?side1 ?side2 A7.out).mono ?_); (case side1 => exact (bI78 HI0)); (case side2 => exact (bB HB)); rintro e w29 ⟨rfl, hi, hb, hk⟩; refine ⟨_, rfl, ?_⟩; have n0_ := Az (KeepBut.trans (bK HK) hk (.inl rfl)); have n1_ := Az (hb); have n2_ := Az (hi); clear HK; clear HB; clear HI0; have HK := n0_; have HB := n1_; have HI0 := n2_; clear n0_ n1_ n2_; (try clear hb); (try clear hb2); (try clear hk); (try clear hi)))
        go_ret
        exact ⟨rt, (bI78 HI0), (bB HB), (bK HK)⟩

/-! ### spec_l20Open: function 41 -/
def spec_l20Open.f (l0 : List Int) : Option (List Int × Int) := if (l0.length : Int) > 2000 then (if 2000 ≤ (l0.length : Int) then (some (l0.take 2000, 0)) else (none)) else (some (l0, 0))
set_option maxHeartbeats 8000000 in
set_option maxRecDepth 100000 in
theorem spec_l20Open.calls (A0 : Option Addr) (c0 : Nat) (l0 : List Int) (r1 : List Int) (r2 : Int) (w0 w : World) (hB : Below w0.heap.size w0 w) (hr0 : Kd.C (Kd.int .u8) w0 A0 l0.length l0) (hc0 : l0.length ≤ c0) (h : spec_l20Open.f l0 = some (r1, r2)) :
    Calls Try.prog 41 #[.slice A0 l0.length c0] w fun e w' => ∃ g_ : Nat, e = .returned (.pointer (some ⟨g_, 0, none⟩)) ∧ IsS78 w0 w' g_ r1 r2 ∧ Below w0.heap.size w0 w' ∧ Below w.heap.size w w' := by
  have hu78 := Try.underlying78
  have HR0 := Aside0.mk hr0
  have HC0 := Aside0.mk hc0
  clear hr0 hc0
  have HBW := Az (Below.refl w.heap.size w)
  have HW0 := Aside0.mk hB.size
  have HB := Aside0.mk hB
  clear hB
  have H : (if (l0.length : Int) > 2000 then (if 2000 ≤ (l0.length : Int) then (some (l0.take 2000, 0)) else (none)) else (some (l0, 0))) = some (r1, r2) := h
  clear h
  by_cases c2 : (l0.length : Int) > 2000
  · rw [if_pos c2] at H
    have c2b0 : decide (2000 < (l0.length : Int)) = true := decide_eq_true c2
    have c2b1 : decide (2000 < l0.length) = true := decide_eq_true (by omega)
    clear c2
    by_cases c3 : 2000 ≤ (l0.length : Int)
    · rw [if_pos c3] at H
      have c3b0 := eq_true c3
      have c3b1 : decide (2000 ≤ (l0.length : Int)) = true := decide_eq_true c3
      clear c3
      simp only [Option.some.injEq, Prod.mk.injEq] at H
      obtain ⟨rfl, rfl⟩ := H
      obtain ⟨i04, hi04, _, hsz4, _⟩ := info_parts info5
      obtain ⟨hcut4, hA4, hC4⟩ := print_take_of (P := Try.prog) (Value.int .u8) 0 33 5 .i64 Try.underlying33 hi04 hsz4 A0 c0 l0 2000 (by omega) (of_decide_eq_true fa) HC0.out
      have HR307 := Az (Kd.C_of_reads (h1 := fun _ => rfl) (hA4 _ (Kd.reads_of_C HR0.out)))
      have HC307 := Aside0.mk hC4
      clear hA4 hC4 hi04 hsz4
      go_enter Try.func41, Try.ntmps41
      go_wp2_with (first | ((with_reducible refine gate_dst (N := 10) rfl ?_); refine box_event ?hg (N := 10) ?hd (cs := #[.slice A0 (l0.take 2000).length c0, .int .i64 0]) (t := 78) ?hr ?_; (case hd => rfl); (case hg => rfl); (case hr => first | (go_simp; done) | (go_simp; rfl)); intro gb308 hg w5 hbox hb; have n0_ := Az (below_step HBW.out hb); have n1_ := Az (below_step (bB HB) hb); have n2_ := Az (hbox); have n3_ := Az ((by rw [hg]; exact (below_size (by repeat (first | (with_reducible first | exact HBW.out | apply below_alloc | apply pw_below_drewN | apply below_drew1) | exact HBW.out))) : w.heap.size ≤ gb308)); have n4_ := Az ((Nat.le_trans HW0.out (by rw [hg]; exact (below_size (by repeat (first | (with_reducible first | exact HBW.out | apply below_alloc | apply pw_below_drewN | apply below_drew1) | exact HBW.out))) : w.heap.size ≤ gb308) : w0.heap.size ≤ gb308)); clear HBW; clear HB; have HBW := n0_; have HB := n1_; have BK308 := n2_; have GW308 := n3_; have GE308 := n4_; clear n0_ n1_ n2_ n3_ n4_; clear hb hbox hg))
      go_ret
      exact ⟨_, rfl, (show IsS78 w0 _ gb308 (l0.take 2000) 0 from ⟨_, _, by (with_reducible repeat (first | refine blk_drewN ?_ _ | refine blk_drew ?_ | refine blk_alloc ?_ _)); exact BK308.out, GE308.out, HR307.out⟩), (bB HB), by repeat (first | (with_reducible first | exact HBW.out | apply below_alloc | apply pw_below_drewN | apply below_drew1 | refine below_set ?_ GW308.out) | exact HBW.out)⟩
    · rw [if_neg c3] at H
      exact absurd H (by simp)
  · rw [if_neg c2] at H
    have c2b0 : decide (2000 < (l0.length : Int)) = false := decide_eq_false c2
    have c2b1 : decide (2000 < l0.length) = false := decide_eq_false (by omega)
    clear c2
    simp only [Option.some.injEq, Prod.mk.injEq] at H
    obtain ⟨rfl, rfl⟩ := H
    go_enter Try.func41, Try.ntmps41
    go_wp2_with (first | ((with_reducible refine gate_dst (N := 10) rfl ?_); refine box_event ?hg (N := 10) ?hd (cs := #[.slice A0 l0.length c0, .int .i64 0]) (t := 78) ?hr ?_; (case hd => rfl); (case hg => rfl); (case hr => first | (go_simp; done) | (go_simp; rfl)); intro gb309 hg w6 hbox hb; have n0_ := Az (below_step HBW.out hb); have n1_ := Az (below_step (bB HB) hb); have n2_ := Az (hbox); have n3_ := Az ((by rw [hg]; exact (below_size (by repeat (first | (with_reducible first | exact HBW.out | apply below_alloc | apply pw_below_drewN | apply below_drew1) | exact HBW.out))) : w.heap.size ≤ gb309)); have n4_ := Az ((Nat.le_trans HW0.out (by rw [hg]; exact (below_size (by repeat (first | (with_reducible first | exact HBW.out | apply below_alloc | apply pw_below_drewN | apply below_drew1) | exact HBW.out))) : w.heap.size ≤ gb309) : w0.heap.size ≤ gb309)); clear HBW; clear HB; have HBW := n0_; have HB := n1_; have BK309 := n2_; have GW309 := n3_; have GE309 := n4_; clear n0_ n1_ n2_ n3_ n4_; clear hb hbox hg))
    go_ret
    exact ⟨_, rfl, (show IsS78 w0 _ gb309 l0 0 from ⟨_, _, by (with_reducible repeat (first | refine blk_drewN ?_ _ | refine blk_drew ?_ | refine blk_alloc ?_ _)); exact BK309.out, GE309.out, HR0.out⟩), (bB HB), by repeat (first | (with_reducible first | exact HBW.out | apply below_alloc | apply pw_below_drewN | apply below_drew1 | refine below_set ?_ GW309.out) | exact HBW.out)⟩

end Go.Proofs.Ytfjfdnododnepaa.PFnReplacedIn
