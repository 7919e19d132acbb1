-- Written by a program of this session (wip/patch_print.py, over the kit's print) and not by hand; Lean checks every word.
import Derived.Test.YtfjfdnododnepaaPFnExactReplacedInx0
import Derived.Test.YtfjfdnododnepaaPFnExactReplacedInx5
import Derived.Test.YtfjfdnododnepaaPFnExactReplacedInx8
import Derived.Test.YtfjfdnododnepaaPFnExactReplacedInx9
namespace Go.Proofs.Ytfjfdnododnepaa.PFnExactReplacedIn
open Go.RowKit Go.Proofs.YtfjfdnododnepaaW.PrintWords Go.Proofs.YtfjfdnododnepaaW.PrintLast Go.Proofs.YtfjfdnododnepaaW.PrintMore
attribute [local go_sem] max2_int min2_int max_two min_two max_three min_three max_four min_four   -- for this text's walks alone
set_option linter.unusedVariables false
set_option linter.unusedSimpArgs false

/-! ### spec_ReplacedIn: function 17 -/
def spec_ReplacedIn.f (k : Nat) (a0 : ByteArray) (a1 : Int) (a2 : Int) : Option (ByteArray × Bool) := (spec_SentenceOk.f a0).bind fun t225 => (if t225 = true then ((spec_MarksOf.f k a0).bind fun t226 => ((spec_l1In.f a1 0 (wrap64 ((t226.size : Int) - 1))).bind fun t227 => (if t227 = true then ((spec_l1In.f a2 0 3).bind fun t228 => (if t228 = true then ((spec_l7Place.f k a0 a1).bind fun t229 => (if 0 ≤ t229 then (if t229 ≤ (a0.size : Int) then ((some (([(⟨#[97]⟩ : ByteArray), (⟨#[98]⟩ : ByteArray), (⟨#[99]⟩ : ByteArray), (⟨#[100]⟩ : ByteArray)] : List ByteArray) : List ByteArray)).bind fun y230 => (if 0 ≤ a2 then (if a2 < (y230.length : Int) then (if (a0.extract 0 (t229 : Int).toNat).size + (rdOf ByteArray.empty y230 a2).size ≤ 9223372036854775807 then (if 0 ≤ (wrap64 (t229 + 1)) then (if (wrap64 (t229 + 1)) ≤ (a0.size : Int) then (if (a0.extract 0 (t229 : Int).toNat).size + (rdOf ByteArray.empty y230 a2).size + (a0.extract ((wrap64 (t229 + 1)) : Int).toNat a0.size).size ≤ 9223372036854775807 then (some (((a0.extract 0 (t229 : Int).toNat) ++ (rdOf ByteArray.empty y230 a2)) ++ (a0.extract ((wrap64 (t229 + 1)) : Int).toNat a0.size), true)) else (none)) else (none)) else (none)) else (none)) else (none)) else (none))) else (none)) else (none))) else (some ((⟨#[]⟩ : ByteArray), false)))) else (some ((⟨#[]⟩ : ByteArray), false))))) else (some ((⟨#[]⟩ : ByteArray), false)))
theorem spec_ReplacedIn.mono : ∀ a0 a1 a2 k, LeO (spec_ReplacedIn.f k a0 a1 a2) (spec_ReplacedIn.f (k + 1) a0 a1 a2) := by
  intro a0 a1 a2 k
  unfold spec_ReplacedIn.f
  repeat' first
      | (with_reducible exact spec_MarksOf.mono _ _)
      | (with_reducible exact spec_l7Place.mono _ _ _)
      | (with_reducible exact LeO.refl _)
      | (with_reducible exact LeO.none _)
      | (with_reducible refine LeO.ite ?_ ?_)
      | (with_reducible refine LeO.bind ?_ (fun _ => ?_))
      | exact spec_MarksOf.mono _ _
      | exact spec_l7Place.mono _ _ _
      | exact LeO.none _
      | refine LeO.ite ?_ ?_
      | refine LeO.bind ?_ (fun _ => ?_)
def spec_ReplacedIn.T4 : Bool × List (List Nat × List Nat) := (true, [([], []), ([], []), ([0, 1], [0, 1]), ([], []), ([], []), ([3, 4], [3, 4]), ([5], [5]), ([2, 6], [2, 6]), ([], []), ([], []), ([9], [9]), ([8, 10], [8, 10]), ([7, 11], [7, 11]), ([12, 0, 1, 2, 3, 4, 5, 6, 7, 8, 9, 10, 11, 12], [12]), ([13, 0, 1, 2, 3, 4, 5, 6, 7, 8, 9, 10, 11, 12, 13], [])])
def spec_ReplacedIn.B4 : List Nat := [0, 0, 3, 0, 0, 24, 56, 127, 0, 0, 512, 1792, 4095, 8191, 16383]
theorem spec_ReplacedIn.tab4 : rtab .any (opsOf Try.f17 4) = spec_ReplacedIn.T4 := by kernel_rfl
theorem spec_ReplacedIn.bits4 : waitsOk spec_ReplacedIn.T4.2 spec_ReplacedIn.B4 = true := by kernel_rfl
set_option maxHeartbeats 8000000 in
set_option maxRecDepth 100000 in
theorem spec_ReplacedIn.calls (k : Nat) (a0 : ByteArray) (a1 : Int) (a2 : Int) (r1 : ByteArray) (r2 : Bool) (w : World) (h : spec_ReplacedIn.f k a0 a1 a2 = some (r1, r2)) :
    Calls Try.prog 17 #[.string a0, .int .i64 a1, .int .i64 a2] w fun e w' => e = .returned (.tuple #[.string r1, .bool r2]) ∧ Below w.heap.size w w' := by
  have HB := Aside0.mk (Below.refl w.heap.size w)
  have H : ((spec_SentenceOk.f a0).bind fun t225 => (if t225 = true then ((spec_MarksOf.f k a0).bind fun t226 => ((spec_l1In.f a1 0 (wrap64 ((t226.size : Int) - 1))).bind fun t227 => (if t227 = true then ((spec_l1In.f a2 0 3).bind fun t228 => (if t228 = true then ((spec_l7Place.f k a0 a1).bind fun t229 => (if 0 ≤ t229 then (if t229 ≤ (a0.size : Int) then ((some (([(⟨#[97]⟩ : ByteArray), (⟨#[98]⟩ : ByteArray), (⟨#[99]⟩ : ByteArray), (⟨#[100]⟩ : ByteArray)] : List ByteArray) : List ByteArray)).bind fun y230 => (if 0 ≤ a2 then (if a2 < (y230.length : Int) then (if (a0.extract 0 (t229 : Int).toNat).size + (rdOf ByteArray.empty y230 a2).size ≤ 9223372036854775807 then (if 0 ≤ (wrap64 (t229 + 1)) then (if (wrap64 (t229 + 1)) ≤ (a0.size : Int) then (if (a0.extract 0 (t229 : Int).toNat).size + (rdOf ByteArray.empty y230 a2).size + (a0.extract ((wrap64 (t229 + 1)) : Int).toNat a0.size).size ≤ 9223372036854775807 then (some (((a0.extract 0 (t229 : Int).toNat) ++ (rdOf ByteArray.empty y230 a2)) ++ (a0.extract ((wrap64 (t229 + 1)) : Int).toNat a0.size), true)) else (none)) else (none)) else (none)) else (none)) else (none)) else (none))) else (none)) else (none))) else (some ((⟨#[]⟩ : ByteArray), false)))) else (some ((⟨#[]⟩ : ByteArray), false))))) else (some ((⟨#[]⟩ : ByteArray), false)))) = some (r1, r2) := h
  clear h
  replace H := Option.bind_eq_some_iff.mp H
  obtain ⟨t225, A40, H⟩ := H
  replace H : (if t225 = true then ((spec_MarksOf.f k a0).bind fun t226 => ((spec_l1In.f a1 0 (wrap64 ((t226.size : Int) - 1))).bind fun t227 => (if t227 = true then ((spec_l1In.f a2 0 3).bind fun t228 => (if t228 = true then ((spec_l7Place.f k a0 a1).bind fun t229 => (if 0 ≤ t229 then (if t229 ≤ (a0.size : Int) then ((some (([(⟨#[97]⟩ : ByteArray), (⟨#[98]⟩ : ByteArray), (⟨#[99]⟩ : ByteArray), (⟨#[100]⟩ : ByteArray)] : List ByteArray) : List ByteArray)).bind fun y230 => (if 0 ≤ a2 then (if a2 < (y230.length : Int) then (if (a0.extract 0 (t229 : Int).toNat).size + (rdOf ByteArray.empty y230 a2).size ≤ 9223372036854775807 then (if 0 ≤ (wrap64 (t229 + 1)) then (if (wrap64 (t229 + 1)) ≤ (a0.size : Int) then (if (a0.extract 0 (t229 : Int).toNat).size + (rdOf ByteArray.empty y230 a2).size + (a0.extract ((wrap64 (t229 + 1)) : Int).toNat a0.size).size ≤ 9223372036854775807 then (some (((a0.extract 0 (t229 : Int).toNat) ++ (rdOf ByteArray.empty y230 a2)) ++ (a0.extract ((wrap64 (t229 + 1)) : Int).toNat a0.size), true)) else (none)) else (none)) else (none)) else (none)) else (none)) else (none))) else (none)) else (none))) else (some ((⟨#[]⟩ : ByteArray), false)))) else (some ((⟨#[]⟩ : ByteArray), false))))) else (some ((⟨#[]⟩ : ByteArray), false))) = some (r1, r2) := H
  have A4 := Aside0.mk A40
  clear A40
  by_cases c5 : t225 = true
  · subst c5
    have H1 : ((spec_MarksOf.f k a0).bind fun t226 => ((spec_l1In.f a1 0 (wrap64 ((t226.size : Int) - 1))).bind fun t227 => (if t227 = true then ((spec_l1In.f a2 0 3).bind fun t228 => (if t228 = true then ((spec_l7Place.f k a0 a1).bind fun t229 => (if 0 ≤ t229 then (if t229 ≤ (a0.size : Int) then ((some (([(⟨#[97]⟩ : ByteArray), (⟨#[98]⟩ : ByteArray), (⟨#[99]⟩ : ByteArray), (⟨#[100]⟩ : ByteArray)] : List ByteArray) : List ByteArray)).bind fun y230 => (if 0 ≤ a2 then (if a2 < (y230.length : Int) then (if (a0.extract 0 (t229 : Int).toNat).size + (rdOf ByteArray.empty y230 a2).size ≤ 9223372036854775807 then (if 0 ≤ (wrap64 (t229 + 1)) then (if (wrap64 (t229 + 1)) ≤ (a0.size : Int) then (if (a0.extract 0 (t229 : Int).toNat).size + (rdOf ByteArray.empty y230 a2).size + (a0.extract ((wrap64 (t229 + 1)) : Int).toNat a0.size).size ≤ 9223372036854775807 then (some (((a0.extract 0 (t229 : Int).toNat) ++ (rdOf ByteArray.empty y230 a2)) ++ (a0.extract ((wrap64 (t229 + 1)) : Int).toNat a0.size), true)) else (none)) else (none)) else (none)) else (none)) else (none)) else (none))) else (none)) else (none))) else (some ((⟨#[]⟩ : ByteArray), false)))) else (some ((⟨#[]⟩ : ByteArray), false))))) = some (r1, r2) := by rw [if_pos rfl] at H; exact H
    clear H
    have H := H1
    clear H1
    replace H := Option.bind_eq_some_iff.mp H
    obtain ⟨t226, A60, H⟩ := H
    replace H : ((spec_l1In.f a1 0 (wrap64 ((t226.size : Int) - 1))).bind fun t227 => (if t227 = true then ((spec_l1In.f a2 0 3).bind fun t228 => (if t228 = true then ((spec_l7Place.f k a0 a1).bind fun t229 => (if 0 ≤ t229 then (if t229 ≤ (a0.size : Int) then ((some (([(⟨#[97]⟩ : ByteArray), (⟨#[98]⟩ : ByteArray), (⟨#[99]⟩ : ByteArray), (⟨#[100]⟩ : ByteArray)] : List ByteArray) : List ByteArray)).bind fun y230 => (if 0 ≤ a2 then (if a2 < (y230.length : Int) then (if (a0.extract 0 (t229 : Int).toNat).size + (rdOf ByteArray.empty y230 a2).size ≤ 9223372036854775807 then (if 0 ≤ (wrap64 (t229 + 1)) then (if (wrap64 (t229 + 1)) ≤ (a0.size : Int) then (if (a0.extract 0 (t229 : Int).toNat).size + (rdOf ByteArray.empty y230 a2).size + (a0.extract ((wrap64 (t229 + 1)) : Int).toNat a0.size).size ≤ 9223372036854775807 then (some (((a0.extract 0 (t229 : Int).toNat) ++ (rdOf ByteArray.empty y230 a2)) ++ (a0.extract ((wrap64 (t229 + 1)) : Int).toNat a0.size), true)) else (none)) else (none)) else (none)) else (none)) else (none)) else (none))) else (none)) else (none))) else (some ((⟨#[]⟩ : ByteArray), false)))) else (some ((⟨#[]⟩ : ByteArray), false)))) = some (r1, r2) := H
    have A6 := Aside0.mk A60
    clear A60
    replace H := Option.bind_eq_some_iff.mp H
    obtain ⟨t227, A70, H⟩ := H
    replace H : (if t227 = true then ((spec_l1In.f a2 0 3).bind fun t228 => (if t228 = true then ((spec_l7Place.f k a0 a1).bind fun t229 => (if 0 ≤ t229 then (if t229 ≤ (a0.size : Int) then ((some (([(⟨#[97]⟩ : ByteArray), (⟨#[98]⟩ : ByteArray), (⟨#[99]⟩ : ByteArray), (⟨#[100]⟩ : ByteArray)] : List ByteArray) : List ByteArray)).bind fun y230 => (if 0 ≤ a2 then (if a2 < (y230.length : Int) then (if (a0.extract 0 (t229 : Int).toNat).size + (rdOf ByteArray.empty y230 a2).size ≤ 9223372036854775807 then (if 0 ≤ (wrap64 (t229 + 1)) then (if (wrap64 (t229 + 1)) ≤ (a0.size : Int) then (if (a0.extract 0 (t229 : Int).toNat).size + (rdOf ByteArray.empty y230 a2).size + (a0.extract ((wrap64 (t229 + 1)) : Int).toNat a0.size).size ≤ 9223372036854775807 then (some (((a0.extract 0 (t229 : Int).toNat) ++ (rdOf ByteArray.empty y230 a2)) ++ (a0.extract ((wrap64 (t229 + 1)) : Int).toNat a0.size), true)) else (none)) else (none)) else (none)) else (none)) else (none)) else (none))) else (none)) else (none))) else (some ((⟨#[]⟩ : ByteArray), false)))) else (some ((⟨#[]⟩ : ByteArray), false))) = some (r1, r2) := H
    have A7 := Aside0.mk A70
    clear A70
    by_cases c8 : t227 = true
    · subst c8
      have H1 : ((spec_l1In.f a2 0 3).bind fun t228 => (if t228 = true then ((spec_l7Place.f k a0 a1).bind fun t229 => (if 0 ≤ t229 then (if t229 ≤ (a0.size : Int) then ((some (([(⟨#[97]⟩ : ByteArray), (⟨#[98]⟩ : ByteArray), (⟨#[99]⟩ : ByteArray), (⟨#[100]⟩ : ByteArray)] : List ByteArray) : List ByteArray)).bind fun y230 => (if 0 ≤ a2 then (if a2 < (y230.length : Int) then (if (a0.extract 0 (t229 : Int).toNat).size + (rdOf ByteArray.empty y230 a2).size ≤ 9223372036854775807 then (if 0 ≤ (wrap64 (t229 + 1)) then (if (wrap64 (t229 + 1)) ≤ (a0.size : Int) then (if (a0.extract 0 (t229 : Int).toNat).size + (rdOf ByteArray.empty y230 a2).size + (a0.extract ((wrap64 (t229 + 1)) : Int).toNat a0.size).size ≤ 9223372036854775807 then (some (((a0.extract 0 (t229 : Int).toNat) ++ (rdOf ByteArray.empty y230 a2)) ++ (a0.extract ((wrap64 (t229 + 1)) : Int).toNat a0.size), true)) else (none)) else (none)) else (none)) else (none)) else (none)) else (none))) else (none)) else (none))) else (some ((⟨#[]⟩ : ByteArray), false)))) = some (r1, r2) := by rw [if_pos rfl] at H; exact H
      clear H
      have H := H1
      clear H1
      replace H := Option.bind_eq_some_iff.mp H
      obtain ⟨t228, A90, H⟩ := H
      replace H : (if t228 = true then ((spec_l7Place.f k a0 a1).bind fun t229 => (if 0 ≤ t229 then (if t229 ≤ (a0.size : Int) then ((some (([(⟨#[97]⟩ : ByteArray), (⟨#[98]⟩ : ByteArray), (⟨#[99]⟩ : ByteArray), (⟨#[100]⟩ : ByteArray)] : List ByteArray) : List ByteArray)).bind fun y230 => (if 0 ≤ a2 then (if a2 < (y230.length : Int) then (if (a0.extract 0 (t229 : Int).toNat).size + (rdOf ByteArray.empty y230 a2).size ≤ 9223372036854775807 then (if 0 ≤ (wrap64 (t229 + 1)) then (if (wrap64 (t229 + 1)) ≤ (a0.size : Int) then (if (a0.extract 0 (t229 : Int).toNat).size + (rdOf ByteArray.empty y230 a2).size + (a0.extract ((wrap64 (t229 + 1)) : Int).toNat a0.size).size ≤ 9223372036854775807 then (some (((a0.extract 0 (t229 : Int).toNat) ++ (rdOf ByteArray.empty y230 a2)) ++ (a0.extract ((wrap64 (t229 + 1)) : Int).toNat a0.size), true)) else (none)) else (none)) else (none)) else (none)) else (none)) else (none))) else (none)) else (none))) else (some ((⟨#[]⟩ : ByteArray), false))) = some (r1, r2) := H
      have A9 := Aside0.mk A90
      clear A90
      by_cases c10 : t228 = true
      · subst c10
        have H1 : ((spec_l7Place.f k a0 a1).bind fun t229 => (if 0 ≤ t229 then (if t229 ≤ (a0.size : Int) then ((some (([(⟨#[97]⟩ : ByteArray), (⟨#[98]⟩ : ByteArray), (⟨#[99]⟩ : ByteArray), (⟨#[100]⟩ : ByteArray)] : List ByteArray) : List ByteArray)).bind fun y230 => (if 0 ≤ a2 then (if a2 < (y230.length : Int) then (if (a0.extract 0 (t229 : Int).toNat).size + (rdOf ByteArray.empty y230 a2).size ≤ 9223372036854775807 then (if 0 ≤ (wrap64 (t229 + 1)) then (if (wrap64 (t229 + 1)) ≤ (a0.size : Int) then (if (a0.extract 0 (t229 : Int).toNat).size + (rdOf ByteArray.empty y230 a2).size + (a0.extract ((wrap64 (t229 + 1)) : Int).toNat a0.size).size ≤ 9223372036854775807 then (some (((a0.extract 0 (t229 : Int).toNat) ++ (rdOf ByteArray.empty y230 a2)) ++ (a0.extract ((wrap64 (t229 + 1)) : Int).toNat a0.size), true)) else (none)) else (none)) else (none)) else (none)) else (none)) else (none))) else (none)) else (none))) = some (r1, r2) := by rw [if_pos rfl] at H; exact H
        clear H
        have H := H1
        clear H1
        replace H := Option.bind_eq_some_iff.mp H
        obtain ⟨t229, A110, H⟩ := H
        replace H : (if 0 ≤ t229 then (if t229 ≤ (a0.size : Int) then ((some (([(⟨#[97]⟩ : ByteArray), (⟨#[98]⟩ : ByteArray), (⟨#[99]⟩ : ByteArray), (⟨#[100]⟩ : ByteArray)] : List ByteArray) : List ByteArray)).bind fun y230 => (if 0 ≤ a2 then (if a2 < (y230.length : Int) then (if (a0.extract 0 (t229 : Int).toNat).size + (rdOf ByteArray.empty y230 a2).size ≤ 9223372036854775807 then (if 0 ≤ (wrap64 (t229 + 1)) then (if (wrap64 (t229 + 1)) ≤ (a0.size : Int) then (if (a0.extract 0 (t229 : Int).toNat).size + (rdOf ByteArray.empty y230 a2).size + (a0.extract ((wrap64 (t229 + 1)) : Int).toNat a0.size).size ≤ 9223372036854775807 then (some (((a0.extract 0 (t229 : Int).toNat) ++ (rdOf ByteArray.empty y230 a2)) ++ (a0.extract ((wrap64 (t229 + 1)) : Int).toNat a0.size), true)) else (none)) else (none)) else (none)) else (none)) else (none)) else (none))) else (none)) else (none)) = some (r1, r2) := H
        have A11 := Aside0.mk A110
        clear A110
        by_cases c12 : 0 ≤ t229
        · rw [if_pos c12] at H
          have c12b0 := eq_true c12
          have c12b1 : decide (0 ≤ t229) = true := decide_eq_true c12
          clear c12
          by_cases c13 : t229 ≤ (a0.size : Int)
          · rw [if_pos c13] at H
            have c13b0 := eq_true c13
            have c13b1 : decide (t229 ≤ (a0.size : Int)) = true := decide_eq_true c13
            clear c13
            obtain ⟨y230, hy230⟩ : ∃ y_ : List ByteArray, y_ = (([(⟨#[97]⟩ : ByteArray), (⟨#[98]⟩ : ByteArray), (⟨#[99]⟩ : ByteArray), (⟨#[100]⟩ : ByteArray)] : List ByteArray)) := ⟨_, rfl⟩
            replace H : (if 0 ≤ a2 then (if a2 < (y230.length : Int) then (if (a0.extract 0 (t229 : Int).toNat).size + (rdOf ByteArray.empty y230 a2).size ≤ 9223372036854775807 then (if 0 ≤ (wrap64 (t229 + 1)) then (if (wrap64 (t229 + 1)) ≤ (a0.size : Int) then (if (a0.extract 0 (t229 : Int).toNat).size + (rdOf ByteArray.empty y230 a2).size + (a0.extract ((wrap64 (t229 + 1)) : Int).toNat a0.size).size ≤ 9223372036854775807 then (some (((a0.extract 0 (t229 : Int).toNat) ++ (rdOf ByteArray.empty y230 a2)) ++ (a0.extract ((wrap64 (t229 + 1)) : Int).toNat a0.size), true)) else (none)) else (none)) else (none)) else (none)) else (none)) else (none)) = some (r1, r2) := by first | (rw [hy230]; with_reducible exact H) | (have H2_ := (Option.bind_some _ _).symm.trans H; rw [hy230]; with_reducible exact H2_) | (have H2_ := (Option.bind_some _ _).symm.trans H; with_reducible exact H2_) | with_reducible exact H | (rw [hy230]; exact H) | exact H
            have Ny230 := Aside0.mk hy230
            clear hy230
            by_cases c14 : 0 ≤ a2
            · rw [if_pos c14] at H
              have c14b0 : decide (0 ≤ a2) = true := decide_eq_true c14
              clear c14
              by_cases c15 : a2 < (y230.length : Int)
              · rw [if_pos c15] at H
                have c15b0 : decide (a2 < (y230.length : Int)) = true := decide_eq_true c15
                clear c15
                by_cases c16 : (a0.extract 0 (t229 : Int).toNat).size + (rdOf ByteArray.empty y230 a2).size ≤ 9223372036854775807
                · rw [if_pos c16] at H
                  have c16b0 := eq_true c16
                  have c16b1 : decide ((a0.extract 0 (t229 : Int).toNat).size + (rdOf ByteArray.empty y230 a2).size ≤ 9223372036854775807) = true := decide_eq_true c16
                  try have c16b2 : (9223372036854775807 < (a0.extract 0 (t229 : Int).toNat).size + (rdOf ByteArray.empty y230 a2).size) = False := eq_false (Nat.not_lt.2 c16)
                  have e16_ : (a0.extract 0 (t229 : Int).toNat).size = t229.toNat := by rw [ByteArray.size_extract]; have z_ := of_eq_true c13b0; omega
                  have c16b3 : (9223372036854775807 < t229.toNat + (rdOf ByteArray.empty y230 a2).size) = False := by rw [← e16_]; exact c16b2
                  obtain ⟨ji17, hji17⟩ : ∃ j_ : Int, (wrap64 (t229 + 1)) = j_ := ⟨_, rfl⟩
                  replace H : (if 0 ≤ (ji17) then (if (ji17) ≤ (a0.size : Int) then (if (a0.extract 0 (t229 : Int).toNat).size + (rdOf ByteArray.empty y230 a2).size + (a0.extract ((ji17) : Int).toNat a0.size).size ≤ 9223372036854775807 then (some (((a0.extract 0 (t229 : Int).toNat) ++ (rdOf ByteArray.empty y230 a2)) ++ (a0.extract ((ji17) : Int).toNat a0.size), true)) else (none)) else (none)) else (none)) = some (r1, r2) := by first | (rw [hji17] at H; exact H) | (simp only [hji17] at H ⊢; exact H)
                  (try rw [hji17] at A4)
                  (try rw [hji17] at A6)
                  (try rw [hji17] at A7)
                  (try rw [hji17] at A9)
                  (try rw [hji17] at A11)
                  have hji17w : (IntKind.i64.wrap (t229 + 1)) = ji17 := (i64_w _).trans hji17
                  by_cases c18 : 0 ≤ (ji17)
                  · rw [if_pos c18] at H
                    have c18b0 := eq_true c18
                    have c18b1 : decide (0 ≤ (ji17)) = true := decide_eq_true c18
                    clear c18
                    by_cases c19 : (ji17) ≤ (a0.size : Int)
                    · rw [if_pos c19] at H
                      have c19b0 := eq_true c19
                      have c19b1 : decide ((ji17) ≤ (a0.size : Int)) = true := decide_eq_true c19
                      clear c19
                      by_cases c20 : (a0.extract 0 (t229 : Int).toNat).size + (rdOf ByteArray.empty y230 a2).size + (a0.extract ((ji17) : Int).toNat a0.size).size ≤ 9223372036854775807
                      · rw [if_pos c20] at H
                        have c20b0 := eq_true c20
                        have c20b1 : decide ((a0.extract 0 (t229 : Int).toNat).size + (rdOf ByteArray.empty y230 a2).size + (a0.extract ((ji17) : Int).toNat a0.size).size ≤ 9223372036854775807) = true := decide_eq_true c20
                        try have c20b2 : (9223372036854775807 < (a0.extract 0 (t229 : Int).toNat).size + (rdOf ByteArray.empty y230 a2).size + (a0.extract ((ji17) : Int).toNat a0.size).size) = False := eq_false (Nat.not_lt.2 c20)
                        have e20_ : (a0.extract (ji17 : Int).toNat a0.size).size = a0.size - ji17.toNat := by rw [ByteArray.size_extract]; omega
                        have c20b3 : (9223372036854775807 < t229.toNat + (rdOf ByteArray.empty y230 a2).size + (a0.size - ji17.toNat)) = False := by rw [← e16_, ← e20_]; exact c20b2
                        clear e16_ e20_
                        simp only [Option.some.injEq, Prod.mk.injEq] at H
                        obtain ⟨rfl, rfl⟩ := H
                        go_enter Try.func17, Try.ntmps17
                        try go_wp2_with (first | ((with_reducible refine gate_callee (f := 13) rfl ?_); refine goesL_ (some 10) rfl rfl Try.func13 (by kernel_rfl) rfl #[.string a0] rfl (by (try simp only [List.map_toArray, List.map_cons, List.map_nil]); first | done | rfl | (simp only [List.length_drop, List.length_take]; rfl)) ?_; (with_reducible refine (spec_SentenceOk.calls a0 true _ A4.out).mono ?_); rintro e w21 ⟨rfl, hb⟩; refine ⟨_, rfl, ?_⟩; have n0_ := Aside0.mk (below_step (by repeat (first | (with_reducible first | exact HB.out | apply below_alloc | apply pw_below_drewN | apply below_drew1) | exact HB.out)) hb); clear HB; have HB := n0_; clear n0_; (try clear hb); (try clear hb2); (try clear hk); (try clear hi)) | (go_at_call 19; (with_reducible refine (spec_MarksOf.calls k a0 t226 _ A6.out).mono ?_); rintro e w22 ⟨rfl, hb⟩; have n0_ := Aside0.mk (below_step (by repeat (first | (with_reducible first | exact HB.out | apply below_alloc | apply pw_below_drewN | apply below_drew1) | exact HB.out)) hb); clear HB; have HB := n0_; clear n0_; (try clear hb); (try clear hb2); (try clear hk); (try clear hi)) | (go_at_call 34; (with_reducible refine (spec_l1In.calls a1 0 (wrap64 ((t226.size : Int) - 1)) true _ A7.out).mono ?_); rintro e w' ⟨rfl, ⟨nd, rfl⟩⟩) | (go_at_call 34; (with_reducible refine (spec_l1In.calls a2 0 3 true _ A9.out).mono ?_); rintro e w' ⟨rfl, ⟨nd, rfl⟩⟩) | ((with_reducible refine gate_callee (f := 35) rfl ?_); refine goesL_ (some 28) rfl rfl Try.func35 (by kernel_rfl) rfl #[.string a0, .int .i64 a1] rfl (by (try simp only [List.map_toArray, List.map_cons, List.map_nil]); first | done | rfl | (simp only [List.length_drop, List.length_take]; rfl)) ?_; (with_reducible refine (spec_l7Place.calls k a0 a1 t229 _ A11.out).mono ?_); rintro e w' ⟨rfl, ⟨nd, rfl⟩⟩; refine ⟨_, rfl, ?_⟩))
                        have pi233 : (0 ≤ (a2 : Int)) = True := eq_true (of_decide_eq_true (by first | (with_reducible assumption) | assumption))
                        have qi233 : (a2 < (y230.length : Int)) = True := eq_true (of_decide_eq_true (by first | (with_reducible assumption) | assumption))
                        (try (rw [drewN_self w22]; generalize hq_ : World.drewN w22 _ = w22; have n0_ : Aside0 (Below w.heap.size w w22) := ⟨by rw [← hq_]; exact (by repeat (first | (with_reducible first | exact HB.out | apply below_alloc | apply pw_below_drewN | apply below_drew1) | exact HB.out))⟩; clear HB hq_; have HB := n0_; clear n0_))
                        have n0_ := Aside0.mk (below_drew1 HB.out)
                        clear HB
                        have HB := n0_
                        clear n0_
                        refine start_ (n := 15) (S := fun w' => True) (ds := []) #[false, false, false, false, false, false, false, false, false, false, false, false, false, false, false] (by kernel_rfl) rfl rfl trivial (fun hHeld => ?_); refine with_tabW spec_ReplacedIn.tab4 spec_ReplacedIn.bits4 (fun HT_ HW_ => ?_)
                        generalize w22.drew = w23 at HB hHeld ⊢
                        refine pure_ (i := 0) (N := some 29) (v := ?_) (a' := ?_) #[true, false, false, false, false, false, false, false, false, false, false, false, false, false, false] rfl rfl (any_of HT_.out (by kernel_rfl)) (fun _ _ _ h => h) (Or.inl ⟨by rfl, ?_⟩) ?_ ?_
                        rotate_left
                        · intro w'
                          go_simp
                          with_reducible rfl
                        rotate_left
                        · simp only [Act.put, List.setIfInBounds_toArray, List.set_cons_zero, List.set_cons_succ, i64_w, i32_w]
                          rfl
                        refine pure_ (i := 1) (N := some 30) (v := ?_) (a' := ?_) #[true, true, false, false, false, false, false, false, false, false, false, false, false, false, false] rfl rfl (any_of HT_.out (by kernel_rfl)) (fun _ _ _ h => h) (Or.inl ⟨by rfl, ?_⟩) ?_ ?_
                        rotate_left
                        · intro w'
                          go_simp
                          with_reducible rfl
                        rotate_left
                        · simp only [Act.put, List.setIfInBounds_toArray, List.set_cons_zero, List.set_cons_succ, i64_w, i32_w]
                          rfl
                        refine pure_ (i := 2) (N := some 31) (v := ?_) (a' := ?_) #[true, true, true, false, false, false, false, false, false, false, false, false, false, false, false] rfl rfl (any_of HT_.out (by kernel_rfl)) (fun _ _ _ h => h) (Or.inl ⟨by rfl, ?_⟩) ?_ ?_
                        rotate_left
                        · intro w'
                          go_simp
                          with_reducible rfl
                        rotate_left
                        · simp only [Act.put, List.setIfInBounds_toArray, List.set_cons_zero, List.set_cons_succ, i64_w, i32_w]
                          rfl
                        refine pure_ (i := 4) (N := some 33) (v := ?_) (a' := ?_) #[true, true, true, false, true, false, false, false, false, false, false, false, false, false, false] rfl rfl (any_of HT_.out (by kernel_rfl)) (fun _ _ _ h => h) (Or.inl ⟨by rfl, ?_⟩) ?_ ?_
                        rotate_left
                        · intro w'
                          go_simp
                          with_reducible rfl
                        rotate_left
                        · simp only [Act.put, List.setIfInBounds_toArray, List.set_cons_zero, List.set_cons_succ, i64_w, i32_w]
                          rfl
                        refine pure_ (i := 8) (N := some 37) (v := ?_) (a' := ?_) #[true, true, true, false, true, false, false, false, true, false, false, false, false, false, false] rfl rfl (any_of HT_.out (by kernel_rfl)) (fun _ _ _ h => h) (Or.inl ⟨by rfl, ?_⟩) ?_ ?_
                        rotate_left
                        · intro w'
                          go_simp
                          with_reducible rfl
                        rotate_left
                        · simp only [Act.put, List.setIfInBounds_toArray, List.set_cons_zero, List.set_cons_succ, i64_w, i32_w]
                          rfl
                        refine pure_ (i := 9) (N := some 38) (v := ?_) (a' := ?_) #[true, true, true, false, true, false, false, false, true, true, false, false, false, false, false] rfl rfl (any_of HT_.out (by kernel_rfl)) (fun _ _ _ h => h) (Or.inl ⟨by rfl, ?_⟩) ?_ ?_
                        rotate_left
                        · intro w'
                          go_simp
                          with_reducible rfl
                        rotate_left
                        · simp only [Act.put, List.setIfInBounds_toArray, List.set_cons_zero, List.set_cons_succ, i64_w, i32_w]
                          rfl
                        refine pure_ (i := 10) (N := some 39) (v := ?_) (a' := ?_) #[true, true, true, false, true, false, false, false, true, true, true, false, false, false, false] rfl rfl (any_of HT_.out (by kernel_rfl)) (fun _ _ _ h => h) (Or.inl ⟨by rfl, ?_⟩) ?_ ?_
                        rotate_left
                        · intro w'
                          go_simp
                          with_reducible rfl
                        rotate_left
                        · simp only [Act.put, List.setIfInBounds_toArray, List.set_cons_zero, List.set_cons_succ, i64_w, i32_w]
                          rfl
                        refine pure_ (i := 11) (N := some 40) (v := ?_) (a' := ?_) #[true, true, true, false, true, false, false, false, true, true, true, true, false, false, false] rfl rfl (any_of HT_.out (by kernel_rfl)) (fun _ _ _ h => h) (Or.inl ⟨by rfl, ?_⟩) ?_ ?_
                        rotate_left
                        · intro w'
                          go_simp
                          with_reducible rfl
                        rotate_left
                        · simp only [Act.put, List.setIfInBounds_toArray, List.set_cons_zero, List.set_cons_succ, i64_w, i32_w]
                          rfl
                        refine one_ (i := 3) (N := some 32) #[true, true, true, true, true, false, false, false, true, true, true, true, false, false, false] rfl rfl (one_of HT_.out (by kernel_rfl)) (by decide) (fun K hK => ?_)
                        refine Kd.R_lit_step Kd.string _ 9 ?hg (N := 32) ?hd (xs := ([(⟨#[97]⟩ : ByteArray), (⟨#[98]⟩ : ByteArray), (⟨#[99]⟩ : ByteArray), (⟨#[100]⟩ : ByteArray)] : List ByteArray)) (inner := [.string (⟨#[97]⟩ : ByteArray), .string (⟨#[98]⟩ : ByteArray), .string (⟨#[99]⟩ : ByteArray), .string (⟨#[100]⟩ : ByteArray)]) (ok := fun _ => True) (okp := fun _ => True) ?hr ?hp (fun _ hk => hk) trivial (Below.refl _ _) (Nat.le_refl _) (by simp) ?_; (case hd => rfl); (case hg => rfl); (case hr => first | (go_simp; done) | (go_simp; rfl)); (case hp => exact (Reps.one (show Kd.M Kd.string _ _ _ (⟨#[97]⟩ : ByteArray) [.string (⟨#[97]⟩ : ByteArray)] from rfl) (Reps.one (show Kd.M Kd.string _ _ _ (⟨#[98]⟩ : ByteArray) [.string (⟨#[98]⟩ : ByteArray)] from rfl) (Reps.one (show Kd.M Kd.string _ _ _ (⟨#[99]⟩ : ByteArray) [.string (⟨#[99]⟩ : ByteArray)] from rfl) (Reps.one (show Kd.M Kd.string _ _ _ (⟨#[100]⟩ : ByteArray) [.string (⟨#[100]⟩ : ByteArray)] from rfl) (Reps.none _ _))))))
                        intro v231 w24 ho25 hb hg_ hnew_
                        clear hg_ hnew_
                        (first | rw [← Ny230.out] at ho25 | (simp only [Int.reduceToNat] at ho25; rw [← Ny230.out] at ho25))
                        have n0_ := Aside0.mk (Kd.R_lower ho25 (below_size (by repeat (first | (with_reducible first | exact HB.out | apply below_alloc | apply pw_below_drewN | apply below_drew1) | exact HB.out))))
                        have n1_ := Aside0.mk (below_step (by repeat (first | (with_reducible first | exact HB.out | apply below_alloc | apply pw_below_drewN | apply below_drew1) | exact HB.out)) hb)
                        clear HB
                        have HO232 := n0_
                        have HB := n1_
                        clear n0_ n1_
                        clear hb ho25
                        obtain ⟨Ao26, co26, eo26⟩ := Kd.R_slice HO232.out
                        subst eo26
                        obtain ⟨ado26, fo26, _⟩ := Kd.at_string (Kd.R_reads' HO232.out).2.2 0 (by decide) (by rw [Ny230.out]; simp)
                        cases fo26
                        refine hK.out _ _ trivial (fun hHeld => ?_)
                        clear hK K
                        refine norm_ (a' := ?_) ?_ ?_
                        rotate_left
                        · show Act.put _ (some 32) _ = _
                          simp only [Act.put, List.setIfInBounds_toArray, List.set_cons_zero, List.set_cons_succ, i64_w, i32_w]
                          rfl
                        refine pure_ (i := 5) (N := some 34) (v := ?_) (a' := ?_) #[true, true, true, true, true, true, false, false, true, true, true, true, false, false, false] rfl rfl (any_of HT_.out (by kernel_rfl)) (fun _ _ _ h => h) (Or.inl ⟨by rfl, ?_⟩) ?_ ?_
                        rotate_left
                        · intro w'
                          go_simp
                          with_reducible rfl
                        rotate_left
                        · simp only [Act.put, List.setIfInBounds_toArray, List.set_cons_zero, List.set_cons_succ, i64_w, i32_w]
                          rfl
                        refine one_ (i := 6) (N := some 35) #[true, true, true, true, true, true, true, false, true, true, true, true, false, false, false] rfl rfl (one_of HT_.out (by kernel_rfl)) (by decide) (fun K hK => ?_)
                        (have p233 : 0 ≤ (a2 : Int) := of_decide_eq_true (by first | (with_reducible assumption) | assumption); have q233 : a2 < (y230.length : Int) := of_decide_eq_true (by first | (with_reducible assumption) | assumption); obtain ⟨ad233, e233, hx233_0⟩ := Kd.at_string (Kd.R_reads' HO232.out).2.2 a2 p233 q233; obtain rfl : ado26 = ad233 := (by injection e233))
                        refine value_ (w1 := ?_) (v := ?_) (by rfl) rfl ?_ ?_
                        rotate_left 2
                        · go_simp
                          constructor
                          · rfl
                          · rfl
                        clear hx233_0
                        refine hK.out _ _ trivial (fun hHeld => ?_)
                        clear hK K
                        refine norm_ (a' := ?_) ?_ ?_
                        rotate_left
                        · show Act.put _ (some 35) _ = _
                          simp only [Act.put, List.setIfInBounds_toArray, List.set_cons_zero, List.set_cons_succ, i64_w, i32_w]
                          rfl
                        refine pure_ (i := 7) (N := some 36) (v := ?_) (a' := ?_) #[true, true, true, true, true, true, true, true, true, true, true, true, false, false, false] rfl rfl (any_of HT_.out (by kernel_rfl)) (fun _ _ _ h => h) (Or.inl ⟨by rfl, ?_⟩) ?_ ?_
                        rotate_left
                        · intro w'
                          go_simp
                          with_reducible rfl
                        rotate_left
                        · simp only [Act.put, List.setIfInBounds_toArray, List.set_cons_zero, List.set_cons_succ, i64_w, i32_w]
                          rfl
                        refine pure_ (i := 12) (N := some 41) (v := ?_) (a' := ?_) #[true, true, true, true, true, true, true, true, true, true, true, true, true, false, false] rfl rfl (any_of HT_.out (by kernel_rfl)) (fun _ _ _ h => h) (Or.inl ⟨by rfl, ?_⟩) ?_ ?_
                        rotate_left
                        · intro w'
                          go_simp
                          with_reducible rfl
                        rotate_left
                        · simp only [Act.put, List.setIfInBounds_toArray, List.set_cons_zero, List.set_cons_succ, i64_w, i32_w]
                          rfl
                        refine pure_ (i := 13) (N := some 6) (v := ?_) (a' := ?_) #[true, true, true, true, true, true, true, true, true, true, true, true, true, true, false] rfl rfl (any_of HT_.out (by kernel_rfl)) (fun _ _ _ h => h) (Or.inl ⟨by rfl, ?_⟩) ?_ ?_
                        rotate_left
                        · intro w'
                          go_simp
                          with_reducible rfl
                        rotate_left
                        · simp only [Act.put, List.setIfInBounds_toArray, List.set_cons_zero, List.set_cons_succ, i64_w, i32_w]
                          rfl
                        refine pure_ (i := 14) (N := some 7) (v := ?_) (a' := ?_) #[true, true, true, true, true, true, true, true, true, true, true, true, true, true, true] rfl rfl (any_of HT_.out (by kernel_rfl)) (fun _ _ _ h => h) (Or.inl ⟨by rfl, ?_⟩) ?_ ?_
                        rotate_left
                        · intro w'
                          go_simp
                          with_reducible rfl
                        rotate_left
                        · simp only [Act.put, List.setIfInBounds_toArray, List.set_cons_zero, List.set_cons_succ, i64_w, i32_w]
                          rfl
                        refine done_ (done_of HT_.out (by kernel_rfl)) ?_
                        try go_wp2
                        go_ret2
                        exact ⟨by first | rfl | (simp [errW_none, errW_some] <;> rfl) | (simp only [← hji17]; first | rfl | (simp [errW_none, errW_some] <;> rfl)) | (simp [*, errW_none, errW_some] <;> rfl), by repeat (first | (with_reducible first | exact HB.out | apply below_alloc | apply pw_below_drewN | apply below_drew1) | exact HB.out)⟩
                      · rw [if_neg c20] at H
                        exact absurd H (by simp)
                    · rw [if_neg c19] at H
                      exact absurd H (by simp)
                  · rw [if_neg c18] at H
                    exact absurd H (by simp)
                · rw [if_neg c16] at H
                  exact absurd H (by simp)
              · rw [if_neg c15] at H
                exact absurd H (by simp)
            · rw [if_neg c14] at H
              exact absurd H (by simp)
          · rw [if_neg c13] at H
            exact absurd H (by simp)
        · rw [if_neg c12] at H
          exact absurd H (by simp)
      · replace c10 := Bool.eq_false_iff.mpr c10
        subst c10
        have H1 : (some ((⟨#[]⟩ : ByteArray), false)) = some (r1, r2) := by rw [if_neg (show ¬ (false = true) by decide)] at H; exact H
        clear H
        have H := H1
        clear H1
        simp only [Option.some.injEq, Prod.mk.injEq] at H
        obtain ⟨rfl, rfl⟩ := H
        go_enter Try.func17, Try.ntmps17
        go_wp2_with (first | ((with_reducible refine gate_callee (f := 13) rfl ?_); refine goesL_ (some 10) rfl rfl Try.func13 (by kernel_rfl) rfl #[.string a0] rfl (by (try simp only [List.map_toArray, List.map_cons, List.map_nil]); first | done | rfl | (simp only [List.length_drop, List.length_take]; rfl)) ?_; (with_reducible refine (spec_SentenceOk.calls a0 true _ A4.out).mono ?_); rintro e w27 ⟨rfl, hb⟩; refine ⟨_, rfl, ?_⟩; have n0_ := Aside0.mk (below_step (by repeat (first | (with_reducible first | exact HB.out | apply below_alloc | apply pw_below_drewN | apply below_drew1) | exact HB.out)) hb); clear HB; have HB := n0_; clear n0_; (try clear hb); (try clear hb2); (try clear hk); (try clear hi)) | (go_at_call 19; (with_reducible refine (spec_MarksOf.calls k a0 t226 _ A6.out).mono ?_); rintro e w28 ⟨rfl, hb⟩; have n0_ := Aside0.mk (below_step (by repeat (first | (with_reducible first | exact HB.out | apply below_alloc | apply pw_below_drewN | apply below_drew1) | exact HB.out)) hb); clear HB; have HB := n0_; clear n0_; (try clear hb); (try clear hb2); (try clear hk); (try clear hi)) | (go_at_call 34; (with_reducible refine (spec_l1In.calls a1 0 (wrap64 ((t226.size : Int) - 1)) true _ A7.out).mono ?_); rintro e w' ⟨rfl, ⟨nd, rfl⟩⟩) | (go_at_call 34; (with_reducible refine (spec_l1In.calls a2 0 3 false _ A9.out).mono ?_); rintro e w' ⟨rfl, ⟨nd, rfl⟩⟩))
        go_ret2
        exact ⟨by first | rfl | (simp [errW_none, errW_some] <;> rfl) | (simp [*, errW_none, errW_some] <;> rfl), by repeat (first | (with_reducible first | exact HB.out | apply below_alloc | apply pw_below_drewN | apply below_drew1) | exact HB.out)⟩
    · replace c8 := Bool.eq_false_iff.mpr c8
      subst c8
      have H1 : (some ((⟨#[]⟩ : ByteArray), false)) = some (r1, r2) := by rw [if_neg (show ¬ (false = true) by decide)] at H; exact H
      clear H
      have H := H1
      clear H1
      simp only [Option.some.injEq, Prod.mk.injEq] at H
      obtain ⟨rfl, rfl⟩ := H
      go_enter Try.func17, Try.ntmps17
      go_wp2_with (first | ((with_reducible refine gate_callee (f := 13) rfl ?_); refine goesL_ (some 10) rfl rfl Try.func13 (by kernel_rfl) rfl #[.string a0] rfl (by (try simp only [List.map_toArray, List.map_cons, List.map_nil]); first | done | rfl | (simp only [List.length_drop, List.length_take]; rfl)) ?_; (with_reducible refine (spec_SentenceOk.calls a0 true _ A4.out).mono ?_); rintro e w29 ⟨rfl, hb⟩; refine ⟨_, rfl, ?_⟩; have n0_ := Aside0.mk (below_step (by repeat (first | (with_reducible first | exact HB.out | apply below_alloc | apply pw_below_drewN | apply below_drew1) | exact HB.out)) hb); clear HB; have HB := n0_; clear n0_; (try clear hb); (try clear hb2); (try clear hk); (try clear hi)) | (go_at_call 19; (with_reducible refine (spec_MarksOf.calls k a0 t226 _ A6.out).mono ?_); rintro e w30 ⟨rfl, hb⟩; have n0_ := Aside0.mk (below_step (by repeat (first | (with_reducible first | exact HB.out | apply below_alloc | apply pw_below_drewN | apply below_drew1) | exact HB.out)) hb); clear HB; have HB := n0_; clear n0_; (try clear hb); (try clear hb2); (try clear hk); (try clear hi)) | (go_at_call 34; (with_reducible refine (spec_l1In.calls a1 0 (wrap64 ((t226.size : Int) - 1)) false _ A7.out).mono ?_); rintro e w' ⟨rfl, ⟨nd, rfl⟩⟩))
      go_ret2
      exact ⟨by first | rfl | (simp [errW_none, errW_some] <;> rfl) | (simp [*, errW_none, errW_some] <;> rfl), by repeat (first | (with_reducible first | exact HB.out | apply below_alloc | apply pw_below_drewN | apply below_drew1) | exact HB.out)⟩
  · replace c5 := Bool.eq_false_iff.mpr c5
    subst c5
    have H1 : (some ((⟨#[]⟩ : ByteArray), false)) = some (r1, r2) := by rw [if_neg (show ¬ (false = true) by decide)] at H; exact H
    clear H
    have H := H1
    clear H1
    simp only [Option.some.injEq, Prod.mk.injEq] at H
    obtain ⟨rfl, rfl⟩ := H
    go_enter Try.func17, Try.ntmps17
    go_wp2_with (first | ((with_reducible refine gate_callee (f := 13) rfl ?_); refine goesL_ (some 10) rfl rfl Try.func13 (by kernel_rfl) rfl #[.string a0] rfl (by (try simp only [List.map_toArray, List.map_cons, List.map_nil]); first | done | rfl | (simp only [List.length_drop, List.length_take]; rfl)) ?_; (with_reducible refine (spec_SentenceOk.calls a0 false _ A4.out).mono ?_); rintro e w31 ⟨rfl, hb⟩; refine ⟨_, rfl, ?_⟩; have n0_ := Aside0.mk (below_step (by repeat (first | (with_reducible first | exact HB.out | apply below_alloc | apply pw_below_drewN | apply below_drew1) | exact HB.out)) hb); clear HB; have HB := n0_; clear n0_; (try clear hb); (try clear hb2); (try clear hk); (try clear hi)))
    go_ret2
    exact ⟨by first | rfl | (simp [errW_none, errW_some] <;> rfl) | (simp [*, errW_none, errW_some] <;> rfl), by repeat (first | (with_reducible first | exact HB.out | apply below_alloc | apply pw_below_drewN | apply below_drew1) | exact HB.out)⟩

/-! ### impl_turnBy: function 53 -/
def impl_turnBy.f (a0 : Int) (a1 : Bool) (a2 : Bool) : Option (Int) := if a1 = true then (some a0) else (if a2 = true then (some (wrap64 (-a0))) else (some 0))
set_option maxHeartbeats 8000000 in
set_option maxRecDepth 100000 in
theorem impl_turnBy.calls (a0 : Int) (a1 : Bool) (a2 : Bool) (r : Int) (w : World) (h : impl_turnBy.f a0 a1 a2 = some r) :
    Calls Try.prog 53 #[.int .i64 a0, .bool a1, .bool a2] w fun e w' => e = .returned (.int .i64 r) ∧ Drawn0 w w' := by
  have H : (if a1 = true then (some a0) else (if a2 = true then (some (wrap64 (-a0))) else (some 0))) = some r := h
  clear h
  by_cases c4 : a1 = true
  · subst c4
    have H1 : (some a0) = some r := by rw [if_pos rfl] at H; exact H
    clear H
    have H := H1
    clear H1
    obtain rfl := Option.some.inj H
    go_enter Try.func53, Try.ntmps53
    go_wp2
    go_ret
    exact ⟨by first | rfl | (simp; done) | (simp [*]; done), by repeat (first | exact Drawn0.refl _ | apply Drawn0.step)⟩
  · replace c4 := Bool.eq_false_iff.mpr c4
    subst c4
    have H1 : (if a2 = true then (some (wrap64 (-a0))) else (some 0)) = some r := by rw [if_neg (show ¬ (false = true) by decide)] at H; exact H
    clear H
    have H := H1
    clear H1
    by_cases c5 : a2 = true
    · subst c5
      have H1 : (some (wrap64 (-a0))) = some r := by rw [if_pos rfl] at H; exact H
      clear H
      have H := H1
      clear H1
      obtain rfl := Option.some.inj H
      go_enter Try.func53, Try.ntmps53
      go_wp2
      go_ret
      exact ⟨by first | rfl | (simp; done) | (simp [*]; done), by repeat (first | exact Drawn0.refl _ | apply Drawn0.step)⟩
    · replace c5 := Bool.eq_false_iff.mpr c5
      subst c5
      have H1 : (some 0) = some r := by rw [if_neg (show ¬ (false = true) by decide)] at H; exact H
      clear H
      have H := H1
      clear H1
      obtain rfl := Option.some.inj H
      go_enter Try.func53, Try.ntmps53
      go_wp2
      go_ret
      exact ⟨by first | rfl | (simp; done) | (simp [*]; done), by repeat (first | exact Drawn0.refl _ | apply Drawn0.step)⟩

/-! ### impl_placeOf: function 63 -/
def impl_placeOf.f (a0 : Int) (a1 : Int) : Option (Int) := some (wrap64 ((wrap64 (Int.tdiv (wrap64 (a0 * (wrap64 (a0 + 1)))) 2)) + a1))
set_option maxHeartbeats 8000000 in
set_option maxRecDepth 100000 in
theorem impl_placeOf.calls (a0 : Int) (a1 : Int) (r : Int) (w : World) (h : impl_placeOf.f a0 a1 = some r) :
    Calls Try.prog 63 #[.int .i64 a0, .int .i64 a1] w fun e w' => e = .returned (.int .i64 r) ∧ Drawn0 w w' := by
  have H : (some (wrap64 ((wrap64 (Int.tdiv (wrap64 (a0 * (wrap64 (a0 + 1)))) 2)) + a1))) = some r := h
  clear h
  obtain rfl := Option.some.inj H
  go_enter Try.func63, Try.ntmps63
  go_wp2
  go_ret
  exact ⟨by first | rfl | (simp; done) | (simp [*]; done), by repeat (first | exact Drawn0.refl _ | apply Drawn0.step)⟩

/-! ### impl_holds: function 59 -/
def impl_holds.f (l0 : List Int) (a1 : Int) (a2 : Int) : Option (Bool) := (impl_placeOf.f a1 a2).bind fun t234 => (if 0 ≤ t234 then (if t234 < (l0.length : Int) then (some ((rd l0 t234) == 1)) else (none)) else (none))
set_option maxHeartbeats 8000000 in
set_option maxRecDepth 100000 in
theorem impl_holds.calls (A0 : Option Addr) (c0 : Nat) (l0 : List Int) (a1 : Int) (a2 : Int) (r : Bool) (w : World) (hr0 : Kd.C (Kd.int .i64) w A0 l0.length l0) (hc0 : l0.length ≤ c0) (h : impl_holds.f l0 a1 a2 = some r) :
    Calls Try.prog 59 #[.slice A0 l0.length c0, .int .i64 a1, .int .i64 a2] w fun e w' => e = .returned (.bool r) ∧ Drawn0 w w' := by
  have HR0 := Aside0.mk hr0
  have HC0 := Aside0.mk hc0
  clear hr0 hc0
  have H : ((impl_placeOf.f a1 a2).bind fun t234 => (if 0 ≤ t234 then (if t234 < (l0.length : Int) then (some ((rd l0 t234) == 1)) else (none)) else (none))) = some r := h
  clear h
  replace H := Option.bind_eq_some_iff.mp H
  obtain ⟨t234, A40, H⟩ := H
  replace H : (if 0 ≤ t234 then (if t234 < (l0.length : Int) then (some ((rd l0 t234) == 1)) else (none)) else (none)) = some r := H
  have A4 := Aside0.mk A40
  clear A40
  by_cases c5 : 0 ≤ t234
  · rw [if_pos c5] at H
    have c5b0 : decide (0 ≤ t234) = true := decide_eq_true c5
    clear c5
    by_cases c6 : t234 < (l0.length : Int)
    · rw [if_pos c6] at H
      have c6b0 : decide (t234 < (l0.length : Int)) = true := decide_eq_true c6
      clear c6
      obtain rfl := Option.some.inj H
      go_enter Try.func59, Try.ntmps59
      go_wp2_with (first | ((with_reducible refine gate_callee (f := 63) rfl ?_); refine goesL_ (some 10) rfl rfl Try.func63 (by kernel_rfl) rfl #[.int .i64 a1, .int .i64 a2] rfl (by (try simp only [List.map_toArray, List.map_cons, List.map_nil]); first | done | rfl | (simp only [List.length_drop, List.length_take]; rfl)) ?_; (with_reducible refine (impl_placeOf.calls a1 a2 t234 _ A4.out).mono ?_); rintro e w' ⟨rfl, ⟨nd, rfl⟩⟩; refine ⟨_, rfl, ?_⟩; have p235 : 0 ≤ (t234 : Int) := of_decide_eq_true (by first | (with_reducible assumption) | assumption); have q235 : t234 < (l0.length : Int) := of_decide_eq_true (by first | (with_reducible assumption) | assumption); obtain ⟨ad235, e235, hx235_0⟩ := Kd.at_int HR0.out t234 p235 q235; cases e235; replace p235 := eq_true p235; replace q235 := eq_true q235))
      go_ret
      exact ⟨by first | rfl | (simp; done) | (simp [*]; done), by repeat (first | exact Drawn0.refl _ | apply Drawn0.step)⟩
    · rw [if_neg c6] at H
      exact absurd H (by simp)
  · rw [if_neg c5] at H
    exact absurd H (by simp)

/-! ### impl_stays: function 75 -/
theorem iplc_all : ∀ a s : Fin 6, impl_placeOf.f (a.val : Int) (s.val : Int) = some ((a.val * (a.val + 1) / 2 + s.val : Nat) : Int) := by decide +kernel
theorem ihold {l : List Int} (hl : l.length = 21) (a s : Nat) (hs : s ≤ a) (ha : a ≤ 5) : impl_holds.f l (a : Int) (s : Int) = some (hold l a s) := by
  unfold impl_holds.f
  have hp := iplc_all ⟨a, by omega⟩ ⟨s, by omega⟩
  simp only at hp
  rw [hp]
  have hlt : a * (a + 1) / 2 + s < 21 := by rcases (show a = 0 ∨ a = 1 ∨ a = 2 ∨ a = 3 ∨ a = 4 ∨ a = 5 by omega) with rfl | rfl | rfl | rfl | rfl | rfl <;> omega
  simp only [Option.bind_some]
  rw [if_pos (by omega), if_pos (by omega)]
  unfold rd hold
  rw [Int.toNat_natCast]
theorem stay_true {t : List Int} {p : Nat → Nat → Bool} (h : ∀ a s : Nat, a < 6 → s ≤ a → (!(hold t a s) || p a s) = true) : stay t p = true := by
  unfold stay
  rw [List.all_eq_true]
  intro a ha
  rw [List.all_eq_true]
  intro s hs
  exact h a s (List.mem_range.1 ha) (by have := List.mem_range.1 hs; omega)
theorem stay_false {t : List Int} {p : Nat → Nat → Bool} (a s : Nat) (ha : a < 6) (hs : s ≤ a) (h1 : hold t a s = true) (h2 : p a s = false) : stay t p = false := by
  cases hc : stay t p with
  | false => rfl
  | true =>
    unfold stay at hc
    rw [List.all_eq_true] at hc
    have := hc a (List.mem_range.2 ha)
    rw [List.all_eq_true] at this
    have := this s (List.mem_range.2 (by omega))
    rw [h1, h2] at this
    exact absurd this (by decide)
theorem bool_re {a b : Bool} (h : a = b) : Ending.returned (.bool a) = .returned (.bool b) := by rw [h]
set_option maxHeartbeats 8000000 in
set_option maxRecDepth 100000 in
theorem impl_stays.calls (c : Nat) (caps : Array Value) (p : Nat → Nat → Bool) (A0 : Option Addr) (c0 : Nat) (l0 : List Int) (w : World) (h21 : l0.length = 21) (hr0 : Kd.C (Kd.int .i64) w A0 l0.length l0) (hc0 : l0.length ≤ c0) (hen : ∀ (args : Array Value) (wx : World), (callFunc c args).run Try.prog wx = .ok (.enter c args) wx)
    (hso : ∀ n, ∀ a s : Nat, s ≤ a → a ≤ 5 → Calls Try.prog c (#[.int .i64 a, .int .i64 s] ++ caps) (w.drewN n) fun e w' => e = .returned (.bool (p a s)) ∧ Drawn0 (w.drewN n) w') :
    Calls Try.prog 75 #[.slice A0 l0.length c0, .func (.func c) #[] caps] w fun e w' => e = .returned (.bool (stay l0 p)) ∧ Drawn0 w w' := by
  have HSO := Aside0.mk hso
  have HH := Aside0.mk (fun (n a s : Nat) (hs : s ≤ a) (ha : a ≤ 5) => impl_holds.calls A0 c0 l0 (a : Int) (s : Int) _ (w.drewN n) (Kd.C_drewN hr0 n) hc0 (ihold h21 a s hs ha))
  clear hso hr0 hc0 h21
  go_enter Try.func75, Try.ntmps75
  go_wp2
  go_loopg [7] 7 (fun kq v7 w' => ∃ (a n : Nat), v7 = .int .i64 a ∧ Aside0 (kq + a = 7 ∧ a ≤ 6 ∧ ∀ a' s' : Nat, a' < a → s' ≤ a' → (!(hold l0 a' s') || p a' s') = true) ∧ w' = w.drewN n)
  case atStart => exact ⟨0, 0, rfl, ⟨by omega, by omega, fun a' s' h => absurd h (by omega)⟩, rfl⟩
  case round =>
    obtain ⟨a, n, rfl, HA, rfl⟩ := hrel
    cases gk with
    | zero => exact absurd HA.out (by omega)
    | succ k1 =>
      by_cases ha : a < 6
      · have c5b : decide ((a : Int) < 6) = true := by simp; omega
        have E1 : Aside0 (wrap64 ((a : Int) + 1) = (a : Int) + 1) := ⟨by unfold wrap64; omega⟩
        have E1v : Aside0 (IntKind.i64.wrap ((a : Int) + 1) = (a : Int) + 1) := ⟨by rw [IntKind.wrap_i64]; omega⟩
        have HL := Aside0.mk ha
        clear ha
        have e1 := E1.out
        have e1v := E1v.out
        go_wp2
        go_loopg [12] (a + 2) (fun kq v12 w' => ∃ (s n : Nat), v12 = .int .i64 s ∧ Aside0 (kq + s = a + 2 ∧ s ≤ a + 1 ∧ ∀ s' : Nat, s' < s → (!(hold l0 a s') || p a s') = true) ∧ w' = w.drewN n)
        case atStart => exact ⟨0, n, rfl, ⟨by omega, by omega, fun s' h => absurd h (by omega)⟩, rfl⟩
        case round =>
          obtain ⟨s, m, rfl, HA2, rfl⟩ := hrel
          cases gk with
          | zero => exact absurd HA2.out (by omega)
          | succ k2 =>
            by_cases hs : s < a + 1
            · have c6b : decide ((s : Int) < (a : Int) + 1) = true := by simp; omega
              have E2 : Aside0 (wrap64 ((s : Int) + 1) = (s : Int) + 1) := ⟨by have := HL.out; unfold wrap64; omega⟩
              have HB := Aside0.mk (fun n => HH.out n a s (by omega) (by have := HL.out; omega))
              have HC := Aside0.mk (fun n => HSO.out n a s (by omega) (by have := HL.out; omega))
              have HS := Aside0.mk hs
              clear hs
              cases hX : hold l0 a s with
              | false =>
                rw [hX] at HB
                have HX := Aside0.mk hX
                clear hX
                have e2 := E2.out
                go_wp2_with (go_at_call 59; (with_reducible refine (HB.out _).mono ?_); rintro e w' ⟨rfl, ⟨nd, rfl⟩⟩; rw [World.drewN_drewN])
                go_roundg k2
                case measure => omega
                case rel =>
                  refine ⟨s + 1, _, (by go_num), ⟨by have := HA2.out.1; omega, by have := HS.out; omega, fun s' hs' => ?_⟩, rfl⟩
                  by_cases hss : s' = s
                  · subst hss; rw [HX.out]; rfl
                  · exact HA2.out.2.2 s' (by omega)
              | true =>
                rw [hX] at HB
                have HX := Aside0.mk hX
                clear hX
                cases hY : p a s with
                | true =>
                  rw [hY] at HC
                  have HY := Aside0.mk hY
                  clear hY
                  have e2 := E2.out
                  go_wp2_with (first | (go_at_call 59; (with_reducible refine (HB.out _).mono ?_); rintro e w' ⟨rfl, ⟨nd, rfl⟩⟩; rw [World.drewN_drewN]) | ((with_reducible refine (HC.out _).mono ?_); rintro e w' ⟨rfl, ⟨nd2, rfl⟩⟩; rw [World.drewN_drewN]))
                  go_roundg k2
                  case measure => omega
                  case rel =>
                    refine ⟨s + 1, _, (by go_num), ⟨by have := HA2.out.1; omega, by have := HS.out; omega, fun s' hs' => ?_⟩, rfl⟩
                    by_cases hss : s' = s
                    · subst hss; rw [HY.out]; simp
                    · exact HA2.out.2.2 s' (by omega)
                | false =>
                  rw [hY] at HC
                  have HE : Aside0 (stay l0 p = false) := ⟨stay_false a s HL.out (by have := HS.out; omega) HX.out hY⟩
                  clear hY
                  have e2 := E2.out
                  go_wp2_with (first | (go_at_call 59; (with_reducible refine (HB.out _).mono ?_); rintro e w' ⟨rfl, ⟨nd, rfl⟩⟩; rw [World.drewN_drewN]) | ((with_reducible refine (HC.out _).mono ?_); rintro e w' ⟨rfl, ⟨nd2, rfl⟩⟩; rw [World.drewN_drewN]))
                  go_ret
                  exact ⟨bool_re HE.out.symm, by repeat (first | exact Drawn0.refl _ | apply Drawn0.step)⟩
            · have c6b : decide ((s : Int) < (a : Int) + 1) = false := by simp; omega
              have es : s = a + 1 := by have := HA2.out; omega
              have HS := Aside0.mk es
              clear hs es
              go_wp2
              go_roundg k1
              case measure => omega
              case rel =>
                refine ⟨a + 1, _, (by go_num), ⟨by have := HA.out.1; omega, by have := HL.out; omega, fun a' s' ha' hs' => ?_⟩, rfl⟩
                by_cases haa : a' = a
                · subst haa; exact HA2.out.2.2 s' (by have := HS.out; omega)
                · exact HA.out.2.2 a' s' (by omega) hs'
      · have c5b : decide ((a : Int) < 6) = false := by simp; omega
        have HE : Aside0 (stay l0 p = true) := ⟨stay_true (fun a' s' ha' hs' => HA.out.2.2 a' s' (by omega) hs')⟩
        clear ha
        go_wp2
        go_ret
        exact ⟨bool_re HE.out.symm, by repeat (first | exact Drawn0.refl _ | apply Drawn0.step)⟩

/-! ### impl_moreAre: function 54 -/
def impl_moreAre.q (l0 : List Int) : Nat → Nat → Bool := fun a s => a == 5 || (hold l0 (a + 1) s && hold l0 (a + 1) (s + 1))
set_option maxHeartbeats 8000000 in
set_option maxRecDepth 100000 in
theorem impl_moreAre.inner (g : Nat) (A0 : Option Addr) (c0 : Nat) (l0 : List Int) (h21 : l0.length = 21) (a s : Nat) (w : World) (hg : w.cell? ⟨g, 0, none⟩ = some (.slice A0 l0.length c0)) (hr0 : Kd.C (Kd.int .i64) w A0 l0.length l0) (hc0 : l0.length ≤ c0) (hs : s ≤ a) (ha : a ≤ 5) :
    Calls Try.prog 76 (#[.int .i64 a, .int .i64 s] ++ #[.pointer (some ⟨g, 0, none⟩)]) w fun e w' => e = .returned (.bool (impl_moreAre.q l0 a s)) ∧ Drawn0 w w' := by
  by_cases c : a = 5
  · have HV : Aside0 (impl_moreAre.q l0 a s = true) := ⟨by simp [impl_moreAre.q, c]⟩
    have cb : ((a : Int) == 5) = true := by simp [c]
    have HR0 := Aside0.mk hr0
    clear hr0 hc0 hs ha h21 c
    go_enter Try.func76, Try.ntmps76
    go_wp2
    go_ret
    exact ⟨bool_re (by first | (rw [HV.out]; done) | (rw [HV.out]; first | rfl | (simp; done))), by repeat (first | exact Drawn0.refl _ | apply Drawn0.step)⟩
  · have HV : Aside0 (impl_moreAre.q l0 a s = (hold l0 (a + 1) s && hold l0 (a + 1) (s + 1))) := ⟨by simp [impl_moreAre.q, c]⟩
    have cb : ((a : Int) == 5) = false := by simp; omega
    have H1 := Aside0.mk (fun wx (hx : Kd.C (Kd.int .i64) wx A0 l0.length l0) => impl_holds.calls A0 c0 l0 ((a : Int) + 1) ((s : Int)) (hold l0 (a + 1) (s)) wx hx hc0 (by rw [show ((a : Int) + 1 : Int) = ((a + 1 : Nat) : Int) by omega, show ((s : Int) : Int) = ((s : Nat) : Int) by omega]; exact ihold h21 _ _ (by omega) (by omega)))
    have H2 := Aside0.mk (fun wx (hx : Kd.C (Kd.int .i64) wx A0 l0.length l0) => impl_holds.calls A0 c0 l0 ((a : Int) + 1) ((s : Int) + 1) (hold l0 (a + 1) (s + 1)) wx hx hc0 (by rw [show ((a : Int) + 1 : Int) = ((a + 1 : Nat) : Int) by omega, show ((s : Int) + 1 : Int) = ((s + 1 : Nat) : Int) by omega]; exact ihold h21 _ _ (by omega) (by omega)))
    have E1 : Aside0 (wrap64 ((a : Int) + 1) = (a : Int) + 1) := ⟨by unfold wrap64; omega⟩
    have E2 : Aside0 (wrap64 ((s : Int) + 1) = (s : Int) + 1) := ⟨by unfold wrap64; omega⟩
    obtain ⟨X, hX⟩ : ∃ X, hold l0 (a + 1) s = X := ⟨_, rfl⟩
    rw [hX] at H1 HV
    clear hX
    cases X
    all_goals
      have HR0 := Aside0.mk hr0
      clear hr0 hc0 hs ha h21 c
      have e1 := E1.out
      have e2 := E2.out
      go_enter Try.func76, Try.ntmps76
      go_wp2_with (first | (go_at_call 59; (with_reducible refine (H1.out w HR0.out).mono ?_); rintro e w' ⟨rfl, ⟨nd, rfl⟩⟩) | (go_at_call 59; (with_reducible refine (H1.out (w.drewN _) (Kd.C_drewN HR0.out _)).mono ?_); rintro e w' ⟨rfl, ⟨nd, rfl⟩⟩) | (go_at_call 59; (with_reducible refine (H2.out w HR0.out).mono ?_); rintro e w' ⟨rfl, ⟨nd, rfl⟩⟩) | (go_at_call 59; (with_reducible refine (H2.out (w.drewN _) (Kd.C_drewN HR0.out _)).mono ?_); rintro e w' ⟨rfl, ⟨nd, rfl⟩⟩))
      go_ret
      exact ⟨bool_re (by first | (rw [HV.out]; done) | (rw [HV.out]; first | rfl | (simp; done))), by repeat (first | exact Drawn0.refl _ | apply Drawn0.step)⟩
set_option maxHeartbeats 8000000 in
set_option maxRecDepth 100000 in
theorem impl_moreAre.calls (A0 : Option Addr) (c0 : Nat) (l0 : List Int) (w : World) (h21 : l0.length = 21) (hr0 : Kd.C (Kd.int .i64) w A0 l0.length l0) (hc0 : l0.length ≤ c0) :
    Calls Try.prog 54 #[.slice A0 l0.length c0] w fun e w' => e = .returned (.bool (mAre l0)) ∧ Below w.heap.size w w' := by
  have hC := Kd.C_alloc hr0 (.cells #[.slice A0 l0.length c0] 29)
  have HT := Aside0.mk (impl_stays.calls 76 #[.pointer (some ⟨w.heap.size, 0, none⟩)] (impl_moreAre.q l0) A0 c0 l0 (w.alloc (.cells #[.slice A0 l0.length c0] 29)) h21 hC hc0 (fun args wx => enters_ Try.func76 (by kernel_rfl) rfl args wx)
    (fun n a s hs ha => impl_moreAre.inner w.heap.size A0 c0 l0 h21 a s ((w.alloc (.cells #[.slice A0 l0.length c0] 29)).drewN n) (by rw [World.cell?_drewN, World.cell?_alloc_at _ _ _ _ rfl]; rfl) (Kd.C_drewN hC n) hc0 hs ha))
  clear hr0 hc0 h21 hC
  have hmf : ∀ (fn : Fn) (first cap : Array Value) (w : World), (Instr.makeFunc fn first cap).run Try.prog w = .ok (.func fn first cap) w := fun _ _ _ _ => rfl
  go_enter Try.func54, Try.ntmps54
  go_wp2_with (first | (go_at_call 75; (with_reducible refine HT.out.mono ?_); rintro e w' ⟨rfl, ⟨nd, rfl⟩⟩))
  go_ret
  exact ⟨rfl, by repeat (first | exact below_alloc (Below.refl _ _) _ | apply pw_below_drewN)⟩

/-! ### impl_fewerAre: function 55 -/
def impl_fewerAre.q (l0 : List Int) : Nat → Nat → Bool := fun a s => (s == 0 || hold l0 (a - 1) (s - 1)) && (s == a || hold l0 (a - 1) s)
set_option maxHeartbeats 8000000 in
set_option maxRecDepth 100000 in
theorem impl_fewerAre.inner (g : Nat) (A0 : Option Addr) (c0 : Nat) (l0 : List Int) (h21 : l0.length = 21) (a s : Nat) (w : World) (hg : w.cell? ⟨g, 0, none⟩ = some (.slice A0 l0.length c0)) (hr0 : Kd.C (Kd.int .i64) w A0 l0.length l0) (hc0 : l0.length ≤ c0) (hs : s ≤ a) (ha : a ≤ 5) :
    Calls Try.prog 77 (#[.int .i64 a, .int .i64 s] ++ #[.pointer (some ⟨g, 0, none⟩)]) w fun e w' => e = .returned (.bool (impl_fewerAre.q l0 a s)) ∧ Drawn0 w w' := by
  by_cases c : s = 0
  · by_cases d : s = a
    · skip
      have cb : ((s : Int) == 0) = true := by simp; omega
      have cb2 : ((s : Int) == (a : Int)) = true := by simp; omega
      have hz : (s == 0) = true := by simp [c]
      have he : (s == a) = true := by simp [d]
      have HV : Aside0 (impl_fewerAre.q l0 a s = (true && true)) := ⟨by unfold impl_fewerAre.q; simp only [hz, he, Bool.true_or, Bool.false_or]⟩
      clear hz he
      have E1 : Aside0 (wrap64 ((a : Int) - 1) = (a : Int) - 1) := ⟨by unfold wrap64; omega⟩
      have E2 : Aside0 (wrap64 ((s : Int) - 1) = (s : Int) - 1) := ⟨by unfold wrap64; omega⟩
      have HR0 := Aside0.mk hr0
      clear hr0 hc0 hs ha h21 c d
      have e1 := E1.out
      have e2 := E2.out
      go_enter Try.func77, Try.ntmps77
      go_wp2
      go_ret
      exact ⟨bool_re (by first | (rw [HV.out]; done) | (rw [HV.out]; first | rfl | (simp; done))), by repeat (first | exact Drawn0.refl _ | apply Drawn0.step)⟩
    · skip
      have cb : ((s : Int) == 0) = true := by simp; omega
      have cb2 : ((s : Int) == (a : Int)) = false := by simp; omega
      have hz : (s == 0) = true := by simp [c]
      have he : (s == a) = false := by simp [d]
      have HV : Aside0 (impl_fewerAre.q l0 a s = (true && hold l0 (a - 1) s)) := ⟨by unfold impl_fewerAre.q; simp only [hz, he, Bool.true_or, Bool.false_or]⟩
      clear hz he
      have H2 := Aside0.mk (fun wx (hx : Kd.C (Kd.int .i64) wx A0 l0.length l0) => impl_holds.calls A0 c0 l0 ((a : Int) - 1) ((s : Int)) (hold l0 (a - 1) (s)) wx hx hc0 (by rw [show ((a : Int) - 1 : Int) = ((a - 1 : Nat) : Int) by omega, show ((s : Int) : Int) = ((s : Nat) : Int) by omega]; exact ihold h21 _ _ (by omega) (by omega)))
      have E1 : Aside0 (wrap64 ((a : Int) - 1) = (a : Int) - 1) := ⟨by unfold wrap64; omega⟩
      have E2 : Aside0 (wrap64 ((s : Int) - 1) = (s : Int) - 1) := ⟨by unfold wrap64; omega⟩
      have HR0 := Aside0.mk hr0
      clear hr0 hc0 hs ha h21 c d
      have e1 := E1.out
      have e2 := E2.out
      go_enter Try.func77, Try.ntmps77
      go_wp2_with (first | (go_at_call 59; (with_reducible refine (H2.out w HR0.out).mono ?_); rintro e w' ⟨rfl, ⟨nd, rfl⟩⟩) | (go_at_call 59; (with_reducible refine (H2.out (w.drewN _) (Kd.C_drewN HR0.out _)).mono ?_); rintro e w' ⟨rfl, ⟨nd, rfl⟩⟩))
      go_ret
      exact ⟨bool_re (by first | (rw [HV.out]; done) | (rw [HV.out]; first | rfl | (simp; done))), by repeat (first | exact Drawn0.refl _ | apply Drawn0.step)⟩
  · by_cases d : s = a
    · skip
      have cb : ((s : Int) == 0) = false := by simp; omega
      have cb2 : ((s : Int) == (a : Int)) = true := by simp; omega
      have hz : (s == 0) = false := by simp [c]
      have he : (s == a) = true := by simp [d]
      have HV : Aside0 (impl_fewerAre.q l0 a s = (hold l0 (a - 1) (s - 1) && true)) := ⟨by unfold impl_fewerAre.q; simp only [hz, he, Bool.true_or, Bool.false_or]⟩
      clear hz he
      have H1 := Aside0.mk (fun wx (hx : Kd.C (Kd.int .i64) wx A0 l0.length l0) => impl_holds.calls A0 c0 l0 ((a : Int) - 1) ((s : Int) - 1) (hold l0 (a - 1) (s - 1)) wx hx hc0 (by rw [show ((a : Int) - 1 : Int) = ((a - 1 : Nat) : Int) by omega, show ((s : Int) - 1 : Int) = ((s - 1 : Nat) : Int) by omega]; exact ihold h21 _ _ (by omega) (by omega)))
      have E1 : Aside0 (wrap64 ((a : Int) - 1) = (a : Int) - 1) := ⟨by unfold wrap64; omega⟩
      have E2 : Aside0 (wrap64 ((s : Int) - 1) = (s : Int) - 1) := ⟨by unfold wrap64; omega⟩
      obtain ⟨X, hX⟩ : ∃ X, hold l0 (a - 1) (s - 1) = X := ⟨_, rfl⟩
      rw [hX] at H1 HV
      clear hX
      cases X
      all_goals
        have HR0 := Aside0.mk hr0
        clear hr0 hc0 hs ha h21 c d
        have e1 := E1.out
        have e2 := E2.out
        go_enter Try.func77, Try.ntmps77
        go_wp2_with (first | (go_at_call 59; (with_reducible refine (H1.out w HR0.out).mono ?_); rintro e w' ⟨rfl, ⟨nd, rfl⟩⟩) | (go_at_call 59; (with_reducible refine (H1.out (w.drewN _) (Kd.C_drewN HR0.out _)).mono ?_); rintro e w' ⟨rfl, ⟨nd, rfl⟩⟩))
        go_ret
        exact ⟨bool_re (by first | (rw [HV.out]; done) | (rw [HV.out]; first | rfl | (simp; done))), by repeat (first | exact Drawn0.refl _ | apply Drawn0.step)⟩
    · skip
      have cb : ((s : Int) == 0) = false := by simp; omega
      have cb2 : ((s : Int) == (a : Int)) = false := by simp; omega
      have hz : (s == 0) = false := by simp [c]
      have he : (s == a) = false := by simp [d]
      have HV : Aside0 (impl_fewerAre.q l0 a s = (hold l0 (a - 1) (s - 1) && hold l0 (a - 1) s)) := ⟨by unfold impl_fewerAre.q; simp only [hz, he, Bool.true_or, Bool.false_or]⟩
      clear hz he
      have H1 := Aside0.mk (fun wx (hx : Kd.C (Kd.int .i64) wx A0 l0.length l0) => impl_holds.calls A0 c0 l0 ((a : Int) - 1) ((s : Int) - 1) (hold l0 (a - 1) (s - 1)) wx hx hc0 (by rw [show ((a : Int) - 1 : Int) = ((a - 1 : Nat) : Int) by omega, show ((s : Int) - 1 : Int) = ((s - 1 : Nat) : Int) by omega]; exact ihold h21 _ _ (by omega) (by omega)))
      have H2 := Aside0.mk (fun wx (hx : Kd.C (Kd.int .i64) wx A0 l0.length l0) => impl_holds.calls A0 c0 l0 ((a : Int) - 1) ((s : Int)) (hold l0 (a - 1) (s)) wx hx hc0 (by rw [show ((a : Int) - 1 : Int) = ((a - 1 : Nat) : Int) by omega, show ((s : Int) : Int) = ((s : Nat) : Int) by omega]; exact ihold h21 _ _ (by omega) (by omega)))
      have E1 : Aside0 (wrap64 ((a : Int) - 1) = (a : Int) - 1) := ⟨by unfold wrap64; omega⟩
      have E2 : Aside0 (wrap64 ((s : Int) - 1) = (s : Int) - 1) := ⟨by unfold wrap64; omega⟩
      obtain ⟨X, hX⟩ : ∃ X, hold l0 (a - 1) (s - 1) = X := ⟨_, rfl⟩
      rw [hX] at H1 HV
      clear hX
      cases X
      all_goals
        have HR0 := Aside0.mk hr0
        clear hr0 hc0 hs ha h21 c d
        have e1 := E1.out
        have e2 := E2.out
        go_enter Try.func77, Try.ntmps77
        go_wp2_with (first | (go_at_call 59; (with_reducible refine (H1.out w HR0.out).mono ?_); rintro e w' ⟨rfl, ⟨nd, rfl⟩⟩) | (go_at_call 59; (with_reducible refine (H1.out (w.drewN _) (Kd.C_drewN HR0.out _)).mono ?_); rintro e w' ⟨rfl, ⟨nd, rfl⟩⟩) | (go_at_call 59; (with_reducible refine (H2.out w HR0.out).mono ?_); rintro e w' ⟨rfl, ⟨nd, rfl⟩⟩) | (go_at_call 59; (with_reducible refine (H2.out (w.drewN _) (Kd.C_drewN HR0.out _)).mono ?_); rintro e w' ⟨rfl, ⟨nd, rfl⟩⟩))
        go_ret
        exact ⟨bool_re (by first | (rw [HV.out]; done) | (rw [HV.out]; first | rfl | (simp; done))), by repeat (first | exact Drawn0.refl _ | apply Drawn0.step)⟩
set_option maxHeartbeats 8000000 in
set_option maxRecDepth 100000 in
theorem impl_fewerAre.calls (A0 : Option Addr) (c0 : Nat) (l0 : List Int) (w : World) (h21 : l0.length = 21) (hr0 : Kd.C (Kd.int .i64) w A0 l0.length l0) (hc0 : l0.length ≤ c0) :
    Calls Try.prog 55 #[.slice A0 l0.length c0] w fun e w' => e = .returned (.bool (fAre l0)) ∧ Below w.heap.size w w' := by
  have hC := Kd.C_alloc hr0 (.cells #[.slice A0 l0.length c0] 29)
  have HT := Aside0.mk (impl_stays.calls 77 #[.pointer (some ⟨w.heap.size, 0, none⟩)] (impl_fewerAre.q l0) A0 c0 l0 (w.alloc (.cells #[.slice A0 l0.length c0] 29)) h21 hC hc0 (fun args wx => enters_ Try.func77 (by kernel_rfl) rfl args wx)
    (fun n a s hs ha => impl_fewerAre.inner w.heap.size A0 c0 l0 h21 a s ((w.alloc (.cells #[.slice A0 l0.length c0] 29)).drewN n) (by rw [World.cell?_drewN, World.cell?_alloc_at _ _ _ _ rfl]; rfl) (Kd.C_drewN hC n) hc0 hs ha))
  clear hr0 hc0 h21 hC
  have hmf : ∀ (fn : Fn) (first cap : Array Value) (w : World), (Instr.makeFunc fn first cap).run Try.prog w = .ok (.func fn first cap) w := fun _ _ _ _ => rfl
  go_enter Try.func55, Try.ntmps55
  go_wp2_with (first | (go_at_call 75; (with_reducible refine HT.out.mono ?_); rintro e w' ⟨rfl, ⟨nd, rfl⟩⟩))
  go_ret
  exact ⟨rfl, by repeat (first | exact below_alloc (Below.refl _ _) _ | apply pw_below_drewN)⟩

/-! ### impl_moreDo: function 56 -/
def impl_moreDo.q (l0 : List Int) : Nat → Nat → Bool := fun a s => s == a || hold l0 a (s + 1)
set_option maxHeartbeats 8000000 in
set_option maxRecDepth 100000 in
theorem impl_moreDo.inner (g : Nat) (A0 : Option Addr) (c0 : Nat) (l0 : List Int) (h21 : l0.length = 21) (a s : Nat) (w : World) (hg : w.cell? ⟨g, 0, none⟩ = some (.slice A0 l0.length c0)) (hr0 : Kd.C (Kd.int .i64) w A0 l0.length l0) (hc0 : l0.length ≤ c0) (hs : s ≤ a) (ha : a ≤ 5) :
    Calls Try.prog 78 (#[.int .i64 a, .int .i64 s] ++ #[.pointer (some ⟨g, 0, none⟩)]) w fun e w' => e = .returned (.bool (impl_moreDo.q l0 a s)) ∧ Drawn0 w w' := by
  by_cases c : s = a
  · have HV : Aside0 (impl_moreDo.q l0 a s = true) := ⟨by simp [impl_moreDo.q, c]⟩
    have cb : ((s : Int) == (a : Int)) = true := by simp [c]
    have HR0 := Aside0.mk hr0
    clear hr0 hc0 hs ha h21 c
    go_enter Try.func78, Try.ntmps78
    go_wp2
    go_ret
    exact ⟨bool_re (by first | (rw [HV.out]; done) | (rw [HV.out]; first | rfl | (simp; done))), by repeat (first | exact Drawn0.refl _ | apply Drawn0.step)⟩
  · have HV : Aside0 (impl_moreDo.q l0 a s = hold l0 a (s + 1)) := ⟨by simp [impl_moreDo.q, c]⟩
    have cb : ((s : Int) == (a : Int)) = false := by simp; omega
    have H1 := Aside0.mk (fun wx (hx : Kd.C (Kd.int .i64) wx A0 l0.length l0) => impl_holds.calls A0 c0 l0 ((a : Int)) ((s : Int) + 1) (hold l0 (a) (s + 1)) wx hx hc0 (by rw [show ((a : Int) : Int) = ((a : Nat) : Int) by omega, show ((s : Int) + 1 : Int) = ((s + 1 : Nat) : Int) by omega]; exact ihold h21 _ _ (by omega) (by omega)))
    have E1 : Aside0 (wrap64 ((s : Int) + 1) = (s : Int) + 1) := ⟨by unfold wrap64; omega⟩
    have HR0 := Aside0.mk hr0
    clear hr0 hc0 hs ha h21 c
    have e1 := E1.out
    go_enter Try.func78, Try.ntmps78
    go_wp2_with (first | (go_at_call 59; (with_reducible refine (H1.out w HR0.out).mono ?_); rintro e w' ⟨rfl, ⟨nd, rfl⟩⟩) | (go_at_call 59; (with_reducible refine (H1.out (w.drewN _) (Kd.C_drewN HR0.out _)).mono ?_); rintro e w' ⟨rfl, ⟨nd, rfl⟩⟩))
    go_ret
    exact ⟨bool_re (by first | (rw [HV.out]; done) | (rw [HV.out]; first | rfl | (simp; done))), by repeat (first | exact Drawn0.refl _ | apply Drawn0.step)⟩
set_option maxHeartbeats 8000000 in
set_option maxRecDepth 100000 in
theorem impl_moreDo.calls (A0 : Option Addr) (c0 : Nat) (l0 : List Int) (w : World) (h21 : l0.length = 21) (hr0 : Kd.C (Kd.int .i64) w A0 l0.length l0) (hc0 : l0.length ≤ c0) :
    Calls Try.prog 56 #[.slice A0 l0.length c0] w fun e w' => e = .returned (.bool (mDo l0)) ∧ Below w.heap.size w w' := by
  have hC := Kd.C_alloc hr0 (.cells #[.slice A0 l0.length c0] 29)
  have HT := Aside0.mk (impl_stays.calls 78 #[.pointer (some ⟨w.heap.size, 0, none⟩)] (impl_moreDo.q l0) A0 c0 l0 (w.alloc (.cells #[.slice A0 l0.length c0] 29)) h21 hC hc0 (fun args wx => enters_ Try.func78 (by kernel_rfl) rfl args wx)
    (fun n a s hs ha => impl_moreDo.inner w.heap.size A0 c0 l0 h21 a s ((w.alloc (.cells #[.slice A0 l0.length c0] 29)).drewN n) (by rw [World.cell?_drewN, World.cell?_alloc_at _ _ _ _ rfl]; rfl) (Kd.C_drewN hC n) hc0 hs ha))
  clear hr0 hc0 h21 hC
  have hmf : ∀ (fn : Fn) (first cap : Array Value) (w : World), (Instr.makeFunc fn first cap).run Try.prog w = .ok (.func fn first cap) w := fun _ _ _ _ => rfl
  go_enter Try.func56, Try.ntmps56
  go_wp2_with (first | (go_at_call 75; (with_reducible refine HT.out.mono ?_); rintro e w' ⟨rfl, ⟨nd, rfl⟩⟩))
  go_ret
  exact ⟨rfl, by repeat (first | exact below_alloc (Below.refl _ _) _ | apply pw_below_drewN)⟩

/-! ### impl_fewerDo: function 57 -/
def impl_fewerDo.q (l0 : List Int) : Nat → Nat → Bool := fun a s => s == 0 || hold l0 a (s - 1)
set_option maxHeartbeats 8000000 in
set_option maxRecDepth 100000 in
theorem impl_fewerDo.inner (g : Nat) (A0 : Option Addr) (c0 : Nat) (l0 : List Int) (h21 : l0.length = 21) (a s : Nat) (w : World) (hg : w.cell? ⟨g, 0, none⟩ = some (.slice A0 l0.length c0)) (hr0 : Kd.C (Kd.int .i64) w A0 l0.length l0) (hc0 : l0.length ≤ c0) (hs : s ≤ a) (ha : a ≤ 5) :
    Calls Try.prog 79 (#[.int .i64 a, .int .i64 s] ++ #[.pointer (some ⟨g, 0, none⟩)]) w fun e w' => e = .returned (.bool (impl_fewerDo.q l0 a s)) ∧ Drawn0 w w' := by
  by_cases c : s = 0
  · have HV : Aside0 (impl_fewerDo.q l0 a s = true) := ⟨by simp [impl_fewerDo.q, c]⟩
    have cb : ((s : Int) == 0) = true := by simp [c]
    have HR0 := Aside0.mk hr0
    clear hr0 hc0 hs ha h21 c
    go_enter Try.func79, Try.ntmps79
    go_wp2
    go_ret
    exact ⟨bool_re (by first | (rw [HV.out]; done) | (rw [HV.out]; first | rfl | (simp; done))), by repeat (first | exact Drawn0.refl _ | apply Drawn0.step)⟩
  · have HV : Aside0 (impl_fewerDo.q l0 a s = hold l0 a (s - 1)) := ⟨by simp [impl_fewerDo.q, c]⟩
    have cb : ((s : Int) == 0) = false := by simp; omega
    have H1 := Aside0.mk (fun wx (hx : Kd.C (Kd.int .i64) wx A0 l0.length l0) => impl_holds.calls A0 c0 l0 ((a : Int)) ((s : Int) - 1) (hold l0 (a) (s - 1)) wx hx hc0 (by rw [show ((a : Int) : Int) = ((a : Nat) : Int) by omega, show ((s : Int) - 1 : Int) = ((s - 1 : Nat) : Int) by omega]; exact ihold h21 _ _ (by omega) (by omega)))
    have E1 : Aside0 (wrap64 ((s : Int) - 1) = (s : Int) - 1) := ⟨by unfold wrap64; omega⟩
    have HR0 := Aside0.mk hr0
    clear hr0 hc0 hs ha h21 c
    have e1 := E1.out
    go_enter Try.func79, Try.ntmps79
    go_wp2_with (first | (go_at_call 59; (with_reducible refine (H1.out w HR0.out).mono ?_); rintro e w' ⟨rfl, ⟨nd, rfl⟩⟩) | (go_at_call 59; (with_reducible refine (H1.out (w.drewN _) (Kd.C_drewN HR0.out _)).mono ?_); rintro e w' ⟨rfl, ⟨nd, rfl⟩⟩))
    go_ret
    exact ⟨bool_re (by first | (rw [HV.out]; done) | (rw [HV.out]; first | rfl | (simp; done))), by repeat (first | exact Drawn0.refl _ | apply Drawn0.step)⟩
set_option maxHeartbeats 8000000 in
set_option maxRecDepth 100000 in
theorem impl_fewerDo.calls (A0 : Option Addr) (c0 : Nat) (l0 : List Int) (w : World) (h21 : l0.length = 21) (hr0 : Kd.C (Kd.int .i64) w A0 l0.length l0) (hc0 : l0.length ≤ c0) :
    Calls Try.prog 57 #[.slice A0 l0.length c0] w fun e w' => e = .returned (.bool (fDo l0)) ∧ Below w.heap.size w w' := by
  have hC := Kd.C_alloc hr0 (.cells #[.slice A0 l0.length c0] 29)
  have HT := Aside0.mk (impl_stays.calls 79 #[.pointer (some ⟨w.heap.size, 0, none⟩)] (impl_fewerDo.q l0) A0 c0 l0 (w.alloc (.cells #[.slice A0 l0.length c0] 29)) h21 hC hc0 (fun args wx => enters_ Try.func79 (by kernel_rfl) rfl args wx)
    (fun n a s hs ha => impl_fewerDo.inner w.heap.size A0 c0 l0 h21 a s ((w.alloc (.cells #[.slice A0 l0.length c0] 29)).drewN n) (by rw [World.cell?_drewN, World.cell?_alloc_at _ _ _ _ rfl]; rfl) (Kd.C_drewN hC n) hc0 hs ha))
  clear hr0 hc0 h21 hC
  have hmf : ∀ (fn : Fn) (first cap : Array Value) (w : World), (Instr.makeFunc fn first cap).run Try.prog w = .ok (.func fn first cap) w := fun _ _ _ _ => rfl
  go_enter Try.func57, Try.ntmps57
  go_wp2_with (first | (go_at_call 75; (with_reducible refine HT.out.mono ?_); rintro e w' ⟨rfl, ⟨nd, rfl⟩⟩))
  go_ret
  exact ⟨rfl, by repeat (first | exact below_alloc (Below.refl _ _) _ | apply pw_below_drewN)⟩

end Go.Proofs.Ytfjfdnododnepaa.PFnExactReplacedIn
