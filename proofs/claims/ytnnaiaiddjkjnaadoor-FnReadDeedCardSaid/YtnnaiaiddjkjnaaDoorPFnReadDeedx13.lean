-- Written by a program of this session (wip/patch_print.py, over the kit's print) and not by hand; Lean checks every word.
import Derived.Test.YtnnaiaiddjkjnaaDoorPFnReadDeedxb
import Derived.Test.YtnnaiaiddjkjnaaDoorPFnReadDeedxa
import Derived.Test.YtnnaiaiddjkjnaaDoorPFnReadDeedx0
import Derived.Test.YtnnaiaiddjkjnaaDoorPFnReadDeedx1
import Derived.Test.YtnnaiaiddjkjnaaDoorPFnReadDeedx3
import Derived.Test.YtnnaiaiddjkjnaaDoorPFnReadDeedx4
import Derived.Test.YtnnaiaiddjkjnaaDoorPFnReadDeedx5
import Derived.Test.YtnnaiaiddjkjnaaDoorPFnReadDeedx6
import Derived.Test.YtnnaiaiddjkjnaaDoorPFnReadDeedx8
import Derived.Test.YtnnaiaiddjkjnaaDoorPFnReadDeedx12
namespace Go.Proofs.YtnnaiaiddjkjnaaDoor.PFnReadDeed
open Go.RowKit Go.Proofs.YtnnaiaiddjkjnaaDoorW.PrintWords Go.Proofs.YtnnaiaiddjkjnaaDoorW.PrintLast Go.Proofs.YtnnaiaiddjkjnaaDoorW.PrintMore
attribute [local go_sem] max2_int min2_int max_two min_two max_three min_three max_four min_four   -- for this text's walks alone
set_option linter.unusedVariables false
set_option linter.unusedSimpArgs false

attribute [local go_sem high] eqA26
/-! ### spec_l20Spoil: function 43 -/
def spec_l20Spoil.f (k : Nat) (s0_0 : List Int) (s0_1 : Int) (a1 : ByteArray) : Option (ByteArray × Int) := if (a1.size : Int) = 0 then (some ((⟨#[10]⟩ : ByteArray), s0_1)) else ((spec_l20Rd_pick.f k s0_0 s0_1 (a1.size : Int)).bind fun bt352 => (if 0 ≤ bt352.1 then (if bt352.1 ≤ (a1.size : Int) then ((some (([(⟨#[]⟩ : ByteArray), (⟨#[97]⟩ : ByteArray), (⟨#[32]⟩ : ByteArray), (⟨#[10]⟩ : ByteArray), (⟨#[48]⟩ : ByteArray), (⟨#[98, 97, 99, 107]⟩ : ByteArray)] : List ByteArray) : List ByteArray)).bind fun y354 => ((spec_l20Rd_pick.f k s0_0 bt352.2 6).bind fun bt357 => (if 0 ≤ bt357.1 then (if bt357.1 < (y354.length : Int) then (if (a1.extract 0 (bt352.1 : Int).toNat).size + (rdOf ByteArray.empty y354 bt357.1).size ≤ 9223372036854775807 then (if 0 ≤ (wrap64 (bt352.1 + 1)) then (if (wrap64 (bt352.1 + 1)) ≤ (a1.size : Int) then (if (a1.extract 0 (bt352.1 : Int).toNat).size + (rdOf ByteArray.empty y354 bt357.1).size + (a1.extract ((wrap64 (bt352.1 + 1)) : Int).toNat a1.size).size ≤ 9223372036854775807 then (some (((a1.extract 0 (bt352.1 : Int).toNat) ++ (rdOf ByteArray.empty y354 bt357.1)) ++ (a1.extract ((wrap64 (bt352.1 + 1)) : Int).toNat a1.size), bt357.2)) else (none)) else (none)) else (none)) else (none)) else (none)) else (none)))) else (none)) else (none)))
theorem spec_l20Spoil.mono : ∀ a0 a1 a2 k, LeO (spec_l20Spoil.f k a0 a1 a2) (spec_l20Spoil.f (k + 1) a0 a1 a2) := by
  intro a0 a1 a2 k
  unfold spec_l20Spoil.f
  repeat' first
      | (with_reducible exact spec_l20Rd_pick.mono _ _ _ _)
      | (with_reducible exact LeO.refl _)
      | (with_reducible exact LeO.none _)
      | (with_reducible refine LeO.ite ?_ ?_)
      | (with_reducible refine LeO.bind ?_ (fun _ => ?_))
      | exact spec_l20Rd_pick.mono _ _ _ _
      | exact LeO.none _
      | refine LeO.ite ?_ ?_
      | refine LeO.bind ?_ (fun _ => ?_)
def spec_l20Spoil.T4 : Bool × List (List Nat × List Nat) := (true, [([], []), ([], []), ([0, 1], [0, 1]), ([], []), ([], []), ([4], [4]), ([3, 5], [3, 5]), ([6], [6]), ([2, 7], [2, 7]), ([], []), ([], []), ([10], [10]), ([9, 11], [9, 11]), ([8, 12], [8, 12]), ([13, 5, 0, 1, 2, 3, 4, 5, 6, 7, 8, 9, 10, 11, 12, 13], [13])])
def spec_l20Spoil.B4 : List Nat := [0, 0, 3, 0, 0, 16, 56, 120, 255, 0, 0, 1024, 3584, 8191, 16383]
theorem spec_l20Spoil.tab4 : rtab .any (opsOf Tryd.f43 4) = spec_l20Spoil.T4 := by kernel_rfl
theorem spec_l20Spoil.bits4 : waitsOk spec_l20Spoil.T4.2 spec_l20Spoil.B4 = true := by kernel_rfl
set_option maxHeartbeats 8000000 in
set_option maxRecDepth 100000 in
theorem spec_l20Spoil.calls (k : Nat) (g : Nat) (s0_0 : List Int) (s0_1 : Int) (a1 : ByteArray) (r1 : ByteArray) (r2 : Int) (w0 w : World) (hI : IsS67 w0 w g s0_0 s0_1) (hB : Below w0.heap.size w0 w) (h : spec_l20Spoil.f k s0_0 s0_1 a1 = some (r1, r2)) :
    Calls Tryd.prog 43 #[.pointer (some ⟨g, 0, none⟩), .string a1] w fun e w' => e = .returned (.string r1) ∧ IsS67 w0 w' g s0_0 r2 ∧ Below w0.heap.size w0 w' ∧ KeepBut w w' g none := by
  have HI0 := Aside0.mk hI
  have HK := Az (KeepBut.refl w g none)
  have HL := Aside0.mk hB.size
  clear hI
  have HW0 := Aside0.mk hB.size
  have HB := Aside0.mk hB
  clear hB
  have H : (if (a1.size : Int) = 0 then (some ((⟨#[10]⟩ : ByteArray), s0_1)) else ((spec_l20Rd_pick.f k s0_0 s0_1 (a1.size : Int)).bind fun bt352 => (if 0 ≤ bt352.1 then (if bt352.1 ≤ (a1.size : Int) then ((some (([(⟨#[]⟩ : ByteArray), (⟨#[97]⟩ : ByteArray), (⟨#[32]⟩ : ByteArray), (⟨#[10]⟩ : ByteArray), (⟨#[48]⟩ : ByteArray), (⟨#[98, 97, 99, 107]⟩ : ByteArray)] : List ByteArray) : List ByteArray)).bind fun y354 => ((spec_l20Rd_pick.f k s0_0 bt352.2 6).bind fun bt357 => (if 0 ≤ bt357.1 then (if bt357.1 < (y354.length : Int) then (if (a1.extract 0 (bt352.1 : Int).toNat).size + (rdOf ByteArray.empty y354 bt357.1).size ≤ 9223372036854775807 then (if 0 ≤ (wrap64 (bt352.1 + 1)) then (if (wrap64 (bt352.1 + 1)) ≤ (a1.size : Int) then (if (a1.extract 0 (bt352.1 : Int).toNat).size + (rdOf ByteArray.empty y354 bt357.1).size + (a1.extract ((wrap64 (bt352.1 + 1)) : Int).toNat a1.size).size ≤ 9223372036854775807 then (some (((a1.extract 0 (bt352.1 : Int).toNat) ++ (rdOf ByteArray.empty y354 bt357.1)) ++ (a1.extract ((wrap64 (bt352.1 + 1)) : Int).toNat a1.size), bt357.2)) else (none)) else (none)) else (none)) else (none)) else (none)) else (none)))) else (none)) else (none)))) = some (r1, r2) := h
  clear h
  by_cases c3 : (a1.size : Int) = 0
  · rw [if_pos c3] at H
    have c3b0 : ((a1.size : Int) == 0) = true := beq_iff_eq.mpr c3
    have c3b1 : ((a1.size : Int) != 0) = false := bne_eq_false_iff_eq.mpr c3
    clear c3
    simp only [Option.some.injEq, Prod.mk.injEq] at H
    obtain ⟨rfl, rfl⟩ := H
    go_enter Tryd.func43, Tryd.ntmps43
    go_wp2
    go_ret
    exact ⟨rt, (bI67 HI0), (bB HB), (bK HK)⟩
  · rw [if_neg c3] at H
    have c3b0 : ((a1.size : Int) == 0) = false := beq_eq_false_iff_ne.mpr c3
    have c3b1 : ((a1.size : Int) != 0) = true := bne_iff_ne.mpr c3
    replace H := Option.bind_eq_some_iff.mp H
    obtain ⟨⟨t352, t353⟩, A40, H⟩ := H
    replace H : (if 0 ≤ t352 then (if t352 ≤ (a1.size : Int) then ((some (([(⟨#[]⟩ : ByteArray), (⟨#[97]⟩ : ByteArray), (⟨#[32]⟩ : ByteArray), (⟨#[10]⟩ : ByteArray), (⟨#[48]⟩ : ByteArray), (⟨#[98, 97, 99, 107]⟩ : ByteArray)] : List ByteArray) : List ByteArray)).bind fun y354 => ((spec_l20Rd_pick.f k s0_0 t353 6).bind fun bt357 => (if 0 ≤ bt357.1 then (if bt357.1 < (y354.length : Int) then (if (a1.extract 0 (t352 : Int).toNat).size + (rdOf ByteArray.empty y354 bt357.1).size ≤ 9223372036854775807 then (if 0 ≤ (wrap64 (t352 + 1)) then (if (wrap64 (t352 + 1)) ≤ (a1.size : Int) then (if (a1.extract 0 (t352 : Int).toNat).size + (rdOf ByteArray.empty y354 bt357.1).size + (a1.extract ((wrap64 (t352 + 1)) : Int).toNat a1.size).size ≤ 9223372036854775807 then (some (((a1.extract 0 (t352 : Int).toNat) ++ (rdOf ByteArray.empty y354 bt357.1)) ++ (a1.extract ((wrap64 (t352 + 1)) : Int).toNat a1.size), bt357.2)) else (none)) else (none)) else (none)) else (none)) else (none)) else (none)))) else (none)) else (none)) = some (r1, r2) := H
    have A4 := Aside0.mk A40
    clear A40
    by_cases c5 : 0 ≤ t352
    · rw [if_pos c5] at H
      have c5b0 := eq_true c5
      have c5b1 : decide (0 ≤ t352) = true := decide_eq_true c5
      clear c5
      by_cases c6 : t352 ≤ (a1.size : Int)
      · rw [if_pos c6] at H
        have c6b0 := eq_true c6
        have c6b1 : decide (t352 ≤ (a1.size : Int)) = true := decide_eq_true c6
        clear c6
        obtain ⟨y354, hy354⟩ : ∃ y_ : List ByteArray, y_ = (([(⟨#[]⟩ : ByteArray), (⟨#[97]⟩ : ByteArray), (⟨#[32]⟩ : ByteArray), (⟨#[10]⟩ : ByteArray), (⟨#[48]⟩ : ByteArray), (⟨#[98, 97, 99, 107]⟩ : ByteArray)] : List ByteArray)) := ⟨_, rfl⟩
        replace H : ((spec_l20Rd_pick.f k s0_0 t353 6).bind fun bt357 => (if 0 ≤ bt357.1 then (if bt357.1 < (y354.length : Int) then (if (a1.extract 0 (t352 : Int).toNat).size + (rdOf ByteArray.empty y354 bt357.1).size ≤ 9223372036854775807 then (if 0 ≤ (wrap64 (t352 + 1)) then (if (wrap64 (t352 + 1)) ≤ (a1.size : Int) then (if (a1.extract 0 (t352 : Int).toNat).size + (rdOf ByteArray.empty y354 bt357.1).size + (a1.extract ((wrap64 (t352 + 1)) : Int).toNat a1.size).size ≤ 9223372036854775807 then (some (((a1.extract 0 (t352 : Int).toNat) ++ (rdOf ByteArray.empty y354 bt357.1)) ++ (a1.extract ((wrap64 (t352 + 1)) : Int).toNat a1.size), bt357.2)) else (none)) else (none)) else (none)) else (none)) else (none)) else (none))) = some (r1, r2) := by first | (rw [hy354]; with_reducible exact H) | (have H2_ := (Option.bind_some _ _).symm.trans H; rw [hy354]; with_reducible exact H2_) | (have H2_ := (Option.bind_some _ _).symm.trans H; with_reducible exact H2_) | with_reducible exact H | (rw [hy354]; exact H) | exact H
        have Ny354 := Aside0.mk hy354
        clear hy354
        replace H := Option.bind_eq_some_iff.mp H
        obtain ⟨⟨t357, t358⟩, A70, H⟩ := H
        replace H : (if 0 ≤ t357 then (if t357 < (y354.length : Int) then (if (a1.extract 0 (t352 : Int).toNat).size + (rdOf ByteArray.empty y354 t357).size ≤ 9223372036854775807 then (if 0 ≤ (wrap64 (t352 + 1)) then (if (wrap64 (t352 + 1)) ≤ (a1.size : Int) then (if (a1.extract 0 (t352 : Int).toNat).size + (rdOf ByteArray.empty y354 t357).size + (a1.extract ((wrap64 (t352 + 1)) : Int).toNat a1.size).size ≤ 9223372036854775807 then (some (((a1.extract 0 (t352 : Int).toNat) ++ (rdOf ByteArray.empty y354 t357)) ++ (a1.extract ((wrap64 (t352 + 1)) : Int).toNat a1.size), t358)) else (none)) else (none)) else (none)) else (none)) else (none)) else (none)) = some (r1, r2) := H
        have A7 := Aside0.mk A70
        clear A70
        by_cases c8 : 0 ≤ t357
        · rw [if_pos c8] at H
          have c8b0 : decide (0 ≤ t357) = true := decide_eq_true c8
          clear c8
          by_cases c9 : t357 < (y354.length : Int)
          · rw [if_pos c9] at H
            have c9b0 : decide (t357 < (y354.length : Int)) = true := decide_eq_true c9
            clear c9
            by_cases c10 : (a1.extract 0 (t352 : Int).toNat).size + (rdOf ByteArray.empty y354 t357).size ≤ 9223372036854775807
            · rw [if_pos c10] at H
              have c10b0 := eq_true c10
              have c10b1 : decide ((a1.extract 0 (t352 : Int).toNat).size + (rdOf ByteArray.empty y354 t357).size ≤ 9223372036854775807) = true := decide_eq_true c10
              try have c10b2 : (9223372036854775807 < (a1.extract 0 (t352 : Int).toNat).size + (rdOf ByteArray.empty y354 t357).size) = False := eq_false (Nat.not_lt.2 c10)
              obtain ⟨ji11, hji11⟩ : ∃ j_ : Int, (wrap64 (t352 + 1)) = j_ := ⟨_, rfl⟩
              replace H : (if 0 ≤ (ji11) then (if (ji11) ≤ (a1.size : Int) then (if (a1.extract 0 (t352 : Int).toNat).size + (rdOf ByteArray.empty y354 t357).size + (a1.extract ((ji11) : Int).toNat a1.size).size ≤ 9223372036854775807 then (some (((a1.extract 0 (t352 : Int).toNat) ++ (rdOf ByteArray.empty y354 t357)) ++ (a1.extract ((ji11) : Int).toNat a1.size), t358)) else (none)) else (none)) else (none)) = some (r1, r2) := by first | (rw [hji11] at H; exact H) | (simp only [hji11] at H ⊢; exact H)
              (try rw [hji11] at A4)
              (try rw [hji11] at A7)
              have hji11w : (IntKind.i64.wrap (t352 + 1)) = ji11 := (i64_w _).trans hji11
              by_cases c12 : 0 ≤ (ji11)
              · rw [if_pos c12] at H
                have c12b0 := eq_true c12
                have c12b1 : decide (0 ≤ (ji11)) = true := decide_eq_true c12
                clear c12
                by_cases c13 : (ji11) ≤ (a1.size : Int)
                · rw [if_pos c13] at H
                  have c13b0 := eq_true c13
                  have c13b1 : decide ((ji11) ≤ (a1.size : Int)) = true := decide_eq_true c13
                  clear c13
                  by_cases c14 : (a1.extract 0 (t352 : Int).toNat).size + (rdOf ByteArray.empty y354 t357).size + (a1.extract ((ji11) : Int).toNat a1.size).size ≤ 9223372036854775807
                  · rw [if_pos c14] at H
                    have c14b0 := eq_true c14
                    have c14b1 : decide ((a1.extract 0 (t352 : Int).toNat).size + (rdOf ByteArray.empty y354 t357).size + (a1.extract ((ji11) : Int).toNat a1.size).size ≤ 9223372036854775807) = true := decide_eq_true c14
                    try have c14b2 : (9223372036854775807 < (a1.extract 0 (t352 : Int).toNat).size + (rdOf ByteArray.empty y354 t357).size + (a1.extract ((ji11) : Int).toNat a1.size).size) = False := eq_false (Nat.not_lt.2 c14)
                    simp only [Option.some.injEq, Prod.mk.injEq] at H
                    obtain ⟨rfl, rfl⟩ := H
                    go_enter Tryd.func43, Tryd.ntmps43
                    try go_wp2_with (first | ((with_reducible refine gate_callee (f := 42) rfl ?_); refine goesL_ (some 12) rfl rfl Tryd.func42 (by kernel_rfl) rfl #[.pointer (some ⟨g, 0, none⟩), .int .i64 (a1.size : Int)] rfl gf ?_; (with_reducible refine (spec_l20Rd_pick.calls k g s0_0 s0_1 (a1.size : Int) t352 t353 w0 _ ?side1 ?side2 A4.out).mono ?_); (case side1 => exact (bI67 HI0)); (case side2 => exact (bB HB)); rintro e w15 ⟨rfl, hi, hb, hk⟩; refine ⟨_, rfl, ?_⟩; have n0_ := Az (KeepBut.trans (bK HK) hk (.inl rfl)); have n1_ := Az (hb); have n2_ := Az (hi); clear HK; clear HB; clear HI0; have HK := n0_; have HB := n1_; have HI0 := n2_; clear n0_ n1_ n2_; (try clear hb); (try clear hb2); (try clear hk); (try clear hi)))
                    have pi359 : (0 ≤ (t357 : Int)) = True := eq_true (of_decide_eq_true fa)
                    have qi359 : (t357 < (y354.length : Int)) = True := eq_true (of_decide_eq_true fa)
                    have n0_ := Az (IsS67.drew HI0.out)
                    have n1_ := Az (keep_drew HK.out)
                    have n2_ := Az (below_drew1 HB.out)
                    clear HI0
                    clear HK
                    clear HB
                    have HI0 := n0_
                    have HK := n1_
                    have HB := n2_
                    clear n0_ n1_ n2_
                    refine start_ (n := 15) (S := fun w' => True) (ds := []) #[false, false, false, false, false, false, false, false, false, false, false, false, false, false, false] (by kernel_rfl) rfl rfl trivial (fun hHeld => ?_); refine with_tabW spec_l20Spoil.tab4 spec_l20Spoil.bits4 (fun HT_ HW_ => ?_)
                    generalize w15.drew = w16 at HI0 HK HB hHeld ⊢
                    refine pure_ (i := 0) (N := some 13) (v := ?_) (a' := ?_) #[true, false, false, false, false, false, false, false, false, false, false, false, false, false, false] rfl rfl (any_of HT_.out (by kernel_rfl)) (fun _ _ _ h => h) (Or.inl ⟨by rfl, ?_⟩) ?_ ?_
                    rotate_left
                    · intro w'
                      go_simp
                      with_reducible rfl
                    rotate_left
                    · simp only [Act.put, List.setIfInBounds_toArray, List.set_cons_zero, List.set_cons_succ, i64_w, i32_w]
                      rfl
                    refine pure_ (i := 1) (N := some 14) (v := ?_) (a' := ?_) #[true, true, false, false, false, false, false, false, false, false, false, false, false, false, false] rfl rfl (any_of HT_.out (by kernel_rfl)) (fun _ _ _ h => h) (Or.inl ⟨by rfl, ?_⟩) ?_ ?_
                    rotate_left
                    · intro w'
                      go_simp
                      with_reducible rfl
                    rotate_left
                    · simp only [Act.put, List.setIfInBounds_toArray, List.set_cons_zero, List.set_cons_succ, i64_w, i32_w]
                      rfl
                    refine pure_ (i := 4) (N := some 17) (v := ?_) (a' := ?_) #[true, true, false, false, true, false, false, false, false, false, false, false, false, false, false] rfl rfl (any_of HT_.out (by kernel_rfl)) (fun _ _ _ h => h) (Or.inl ⟨by rfl, ?_⟩) ?_ ?_
                    rotate_left
                    · intro w'
                      go_simp
                      with_reducible rfl
                    rotate_left
                    · simp only [Act.put, List.setIfInBounds_toArray, List.set_cons_zero, List.set_cons_succ, i64_w, i32_w]
                      rfl
                    refine pure_ (i := 9) (N := some 22) (v := ?_) (a' := ?_) #[true, true, false, false, true, false, false, false, false, true, false, false, false, false, false] rfl rfl (any_of HT_.out (by kernel_rfl)) (fun _ _ _ h => h) (Or.inl ⟨by rfl, ?_⟩) ?_ ?_
                    rotate_left
                    · intro w'
                      go_simp
                      with_reducible rfl
                    rotate_left
                    · simp only [Act.put, List.setIfInBounds_toArray, List.set_cons_zero, List.set_cons_succ, i64_w, i32_w]
                      rfl
                    refine pure_ (i := 10) (N := some 23) (v := ?_) (a' := ?_) #[true, true, false, false, true, false, false, false, false, true, true, false, false, false, false] rfl rfl (any_of HT_.out (by kernel_rfl)) (fun _ _ _ h => h) (Or.inl ⟨by rfl, ?_⟩) ?_ ?_
                    rotate_left
                    · intro w'
                      go_simp
                      with_reducible rfl
                    rotate_left
                    · simp only [Act.put, List.setIfInBounds_toArray, List.set_cons_zero, List.set_cons_succ, i64_w, i32_w]
                      rfl
                    refine inv_at [2, 3, 5, 6, 7, 8, 11, 12, 13, 14] (fun a0_ b a w' => ∃ (v355 : Value) (adz_v355 : Addr) (m6_ : Value), a = putSel a0_ b [(2, 15, .string (a1.extract 0 (t352 : Int).toNat)), (3, 16, v355), (5, 18, .int .i64 t357), (6, 19, m6_), (7, 20, .string (rdOf ByteArray.empty y354 t357)), (8, 21, .string ((a1.extract 0 (t352 : Int).toNat) ++ (rdOf ByteArray.empty y354 t357))), (11, 24, .int .i64 ji11), (12, 25, .string (a1.extract ((ji11) : Int).toNat a1.size)), (13, 26, .string (((a1.extract 0 (t352 : Int).toNat) ++ (rdOf ByteArray.empty y354 t357)) ++ (a1.extract ((ji11) : Int).toNat a1.size))), (14, 4, .string (((a1.extract 0 (t352 : Int).toNat) ++ (rdOf ByteArray.empty y354 t357)) ++ (a1.extract ((ji11) : Int).toNat a1.size)))] ∧ (b 5 = false → IsS67 w0 w' g s0_0 t353) ∧ (KeepBut w w' g none) ∧ (Below w0.heap.size w0 w') ∧ (b 3 = true → Kd.R Kd.string 9 w' w.heap.size (fun _ => True) v355 y354) ∧ (b 3 = true → ∃ c_, (v355 : Value) = .slice (some adz_v355) y354.length c_) ∧ (b 5 = true → IsS67 w0 w' g s0_0 t358) ∧ (b 6 = true → (m6_ : Value) = .pointer (some (adz_v355.add (t357).toNat)))) HT_.out HW_.out (by kernel_rfl) (by kernel_rfl) ?_ ?_ ?_
                    · exact ⟨.bool false, ⟨0, 0, none⟩, .bool false, by simp only [putSel, Bool.false_eq_true, if_false], fun _ => HI0.out, HK.out, HB.out, fun h_ => absurd h_ (by decide), fun h_ => absurd h_ (by decide), fun h_ => absurd h_ (by decide), fun h_ => absurd h_ (by decide)⟩
                    · skip
                      clear HB HI0 HK
                      refine steps_cons ?_ ?_
                      · rintro b a w' ⟨v355, adz_v355, m6_, ha, Q_HI0, Q_HK, Q_HB, Q_HO356, Q_HA_HO356, Q_HI0_e5, Q_X6_⟩ hb_ hon hoff
                        refine ⟨_, rfl, fun K hK => ?_⟩
                        have e13 : a.tmps[13]? = some (.string a1) := by rw [ha]; exact (putSel_off rfl).trans rfl
                        have e14 : a.tmps[14]? = some (.int .i64 t352) := by rw [ha]; exact (putSel_off rfl).trans rfl
                        replace ha := Aside0.mk ha
                        have HK := Aside0.mk Q_HK
                        have HB := Aside0.mk Q_HB
                        refine value_ (w1 := w') (v := .string (a1.extract 0 (t352 : Int).toNat)) (by rfl) rfl ?_ ?_
                        · go_simp
                          (try simp only [i64_w])
                          try rfl
                          try (simp only [ByteArray.size_extract, eq_iff_iff, iff_true, iff_false, decide_eq_true_eq] at *; omega)
                        refine hK.out _ _ ⟨v355, adz_v355, m6_, (by rw [ha.out]; exact putSel_upk 0 hb_ rfl rfl rfl), Q_HI0, Q_HK, Q_HB, Q_HO356, Q_HA_HO356, Q_HI0_e5, Q_X6_⟩
                      refine steps_cons ?_ ?_
                      · rintro b a w' ⟨v355, adz_v355, m6_, ha, Q_HI0, Q_HK, Q_HB, Q_HO356, Q_HA_HO356, Q_HI0_e5, Q_X6_⟩ hb_ hon hoff
                        refine ⟨_, rfl, fun K hK => ?_⟩
                        replace ha := Aside0.mk ha
                        have HK := Aside0.mk Q_HK
                        have HB := Aside0.mk Q_HB
                        refine Kd.R_lit_step Kd.string _ 9 ?hg (N := 16) ?hd (xs := ([(⟨#[]⟩ : ByteArray), (⟨#[97]⟩ : ByteArray), (⟨#[32]⟩ : ByteArray), (⟨#[10]⟩ : ByteArray), (⟨#[48]⟩ : ByteArray), (⟨#[98, 97, 99, 107]⟩ : ByteArray)] : List ByteArray)) (inner := [.string (⟨#[]⟩ : ByteArray), .string (⟨#[97]⟩ : ByteArray), .string (⟨#[32]⟩ : ByteArray), .string (⟨#[10]⟩ : ByteArray), .string (⟨#[48]⟩ : ByteArray), .string (⟨#[98, 97, 99, 107]⟩ : ByteArray)]) (ok := fun _ => True) (okp := fun _ => True) ?hr ?hp (fun _ hk => hk) trivial (Below.refl _ _) (Nat.le_refl _) (by simp) ?_; (case hd => rfl); (case hg => rfl); (case hr => first | (go_simp; done) | (go_simp; rfl)); (case hp => exact (Reps.one (show Kd.M Kd.string _ _ _ (⟨#[]⟩ : ByteArray) [.string (⟨#[]⟩ : ByteArray)] from rfl) (Reps.one (show Kd.M Kd.string _ _ _ (⟨#[97]⟩ : ByteArray) [.string (⟨#[97]⟩ : ByteArray)] from rfl) (Reps.one (show Kd.M Kd.string _ _ _ (⟨#[32]⟩ : ByteArray) [.string (⟨#[32]⟩ : ByteArray)] from rfl) (Reps.one (show Kd.M Kd.string _ _ _ (⟨#[10]⟩ : ByteArray) [.string (⟨#[10]⟩ : ByteArray)] from rfl) (Reps.one (show Kd.M Kd.string _ _ _ (⟨#[48]⟩ : ByteArray) [.string (⟨#[48]⟩ : ByteArray)] from rfl) (Reps.one (show Kd.M Kd.string _ _ _ (⟨#[98, 97, 99, 107]⟩ : ByteArray) [.string (⟨#[98, 97, 99, 107]⟩ : ByteArray)] from rfl) (Reps.none _ _))))))))
                        intro v355 w17 ho18 hb hg_ hnew_
                        clear hg_ hnew_
                        (first | rw [← Ny354.out] at ho18 | (simp only [Int.reduceToNat] at ho18; rw [← Ny354.out] at ho18))
                        have n0_ := Az (Kd.R_lower ho18 (keep_size (w := w) (g := g) (row := none) (bK HK)))
                        have n2_ := Az (KeepBut.trans (bK HK) (KeepBut.of_below hb g none) (.inl rfl))
                        have n3_ := Az (below_step (bB HB) hb)
                        have z_HI0 := fun (h0_ : b 5 = false) => (show IsS67 w0 w17 g s0_0 t353 from by first | exact (IsS67.below (by repeat (first | (with_reducible first | exact (Q_HI0 h0_) | apply IsS67.alloc | apply IsS67.drewN | apply IsS67.drew | apply IsS67.set_1) | exact (Q_HI0 h0_))) hb))
                        have z_HI0_e5 := fun (h0_ : b 5 = true) => (show IsS67 w0 w17 g s0_0 t358 from by first | exact (IsS67.below (by repeat (first | (with_reducible first | exact (Q_HI0_e5 h0_) | apply IsS67.alloc | apply IsS67.drewN | apply IsS67.drew | apply IsS67.set_1) | exact (Q_HI0_e5 h0_))) hb))
                        clear HK
                        clear HB
                        have HO356 := n0_
                        have HK := n2_
                        have HB := n3_
                        clear n0_ n2_ n3_
                        clear hb ho18
                        obtain ⟨Ao19, co19, eo19⟩ := Kd.R_slice HO356.out
                        subst eo19
                        obtain ⟨ado19, fo19, _⟩ := Kd.at_string (Kd.R_reads' HO356.out).2.2 0 (by decide) (by rw [Ny354.out]; simp)
                        cases fo19
                        refine hK.out _ _ ⟨.slice (some ado19) y354.length co19, ado19, m6_, (by rw [ha.out]; exact putSel_upk 1 hb_ rfl rfl rfl), z_HI0, (by repeat (first | (with_reducible first | exact HK.out | apply KeepBut.set_ | apply keep_drewN | apply keep_drew | apply keep_alloc) | exact HK.out)), (by repeat (first | (with_reducible first | exact HB.out | apply below_alloc | apply pw_below_drewN | apply below_drew1) | exact HB.out)), fun _ => (dR (HO356.out)), fun _ => ⟨_, rfl⟩, z_HI0_e5, fun h0_ => absurd ((hoff 6 (by kernel_rfl)).symm.trans h0_) (by decide)⟩
                      refine steps_cons ?_ ?_
                      · rintro b a w' ⟨v355, adz_v355, m6_, ha, Q_HI0, Q_HK, Q_HB, Q_HO356, Q_HA_HO356, Q_HI0_e5, Q_X6_⟩ hb_ hon hoff
                        refine ⟨_, rfl, fun K hK => ?_⟩
                        have e17 : a.tmps[17]? = some (.pointer (some ⟨g, 0, none⟩)) := by rw [ha]; exact (putSel_off rfl).trans rfl
                        replace ha := Aside0.mk ha
                        have HI0 := Az (Q_HI0 hb_)
                        have HK := Aside0.mk Q_HK
                        have HB := Aside0.mk Q_HB
                        refine goes_ Tryd.func42 (by kernel_rfl) rfl #[.pointer (some ⟨g, 0, none⟩), .int .i64 6] (by rfl) rfl rfl (by first | (simp only [List.map_toArray, List.map_cons, List.map_nil, Act.eval, Array.getD_eq_getD_getElem?, Option.getD_some, e17]; done) | (simp only [List.map_toArray, List.map_cons, List.map_nil, Act.eval, Array.getD_eq_getD_getElem?, Option.getD_some, e17]; rfl)) ?_
                        with_reducible refine (spec_l20Rd_pick.calls k g s0_0 t353 6 t357 t358 w0 _ ?side1 ?side2 A7.out).mono ?_
                        (case side1 => exact (bI67 HI0))
                        (case side2 => exact (bB HB))
                        rintro e w17 ⟨rfl, hi, hb, hk⟩
                        refine ⟨_, rfl, ?_⟩
                        have n0_ := Az (KeepBut.trans (bK HK) hk (.inl rfl))
                        have n1_ := Az (hb)
                        have n2_ := Az (hi)
                        have z_HO356 := fun (h0_ : b 3 = true) => (show Kd.R Kd.string 9 w17 w.heap.size (fun _ => True) v355 y354 from by first | exact (Kd.R_mono (Kd.R_keep (IsS67.apart (show IsS67 w0 _ g s0_0 t353 from (bI67 HI0)) (dR ((Q_HO356 h0_))) (by decide)) hk (fun _ h => h.2)) (fun _ h => h.1)) | exact Kd.R_mono (Kd.R_mono (Kd.R_keep (IsS67.apart (show IsS67 w0 _ g s0_0 t353 from (bI67 HI0)) (dR ((Q_HO356 h0_))) (by decide)) hk (fun _ h => h.2)) (fun _ h => h.1)) (fun _ h_ => by first | trivial | exact h_ | exact h_.1))
                        clear HK
                        clear HB
                        clear HI0
                        have HK := n0_
                        have HB := n1_
                        have HI0 := n2_
                        clear n0_ n1_ n2_
                        (try clear hb)
                        (try clear hb2)
                        (try clear hk)
                        (try clear hi)
                        refine hK.out _ _ ⟨v355, adz_v355, m6_, (by rw [ha.out]; exact putSel_upk 2 hb_ rfl rfl rfl), fun h0_ => absurd ((up_self b 5).symm.trans h0_) (by decide), (by repeat (first | (with_reducible first | exact HK.out | apply KeepBut.set_ | apply keep_drewN | apply keep_drew | apply keep_alloc) | exact HK.out)), (by repeat (first | (with_reducible first | exact HB.out | apply below_alloc | apply pw_below_drewN | apply below_drew1 | refine below_set ?_ (IsS67.ge HI0.out)) | exact HB.out)), z_HO356, Q_HA_HO356, fun _ => (by repeat (first | (with_reducible first | exact HI0.out | apply IsS67.alloc | apply IsS67.drewN | apply IsS67.drew | apply IsS67.set_1) | exact HI0.out)), fun h0_ => absurd ((hoff 6 (by kernel_rfl)).symm.trans h0_) (by decide)⟩
                      refine steps_cons ?_ ?_
                      · rintro b a w' ⟨v355, adz_v355, m6_, ha, Q_HI0, Q_HK, Q_HB, Q_HO356, Q_HA_HO356, Q_HI0_e5, Q_X6_⟩ hb_ hon hoff
                        refine ⟨_, rfl, fun K hK => ?_⟩
                        have e16 : a.tmps[16]? = some (v355) := by rw [ha]; exact putSel_on (e := (3, 16, v355)) 1 rfl rfl (hon 3 (by kernel_rfl)) rfl
                        have e18 : a.tmps[18]? = some (.int .i64 t357) := by rw [ha]; exact putSel_on (e := (5, 18, .int .i64 t357)) 2 rfl rfl (hon 5 (by kernel_rfl)) rfl
                        replace ha := Aside0.mk ha
                        have HK := Aside0.mk Q_HK
                        have HB := Aside0.mk Q_HB
                        have HO356 := Az (Q_HO356 (hon 3 (by kernel_rfl)))
                        have HA_HO356 := Az (Q_HA_HO356 (hon 3 (by kernel_rfl)))
                        have HI0 := Az (Q_HI0_e5 (hon 5 (by kernel_rfl)))
                        obtain ⟨c_, hv_⟩ := HA_HO356.out
                        rw [hv_] at e16
                        refine value_ (w1 := w') (v := .pointer (some (adz_v355.add (t357).toNat))) (by rfl) rfl ?_ ?_
                        · go_simp
                          (try simp only [i64_w])
                          try rfl
                          try (simp only [ByteArray.size_extract, eq_iff_iff, iff_true, iff_false, decide_eq_true_eq] at *; omega)
                        refine hK.out _ _ ⟨v355, adz_v355, (.pointer (some (adz_v355.add (t357).toNat))), (by rw [ha.out]; exact putSel_upk 3 hb_ rfl rfl rfl), fun h0_ => absurd ((hon 5 (by kernel_rfl)).symm.trans h0_) (by decide), Q_HK, Q_HB, Q_HO356, Q_HA_HO356, Q_HI0_e5, fun _ => rfl⟩
                      refine steps_cons ?_ ?_
                      · rintro b a w' ⟨v355, adz_v355, m6_, ha, Q_HI0, Q_HK, Q_HB, Q_HO356, Q_HA_HO356, Q_HI0_e5, Q_X6_⟩ hb_ hon hoff
                        refine ⟨_, rfl, fun K hK => ?_⟩
                        have e19 : a.tmps[19]? = some (m6_) := by rw [ha]; exact putSel_on (e := (6, 19, m6_)) 3 rfl rfl (hon 6 (by kernel_rfl)) rfl
                        rw [Q_X6_ (hon 6 (by kernel_rfl))] at e19
                        replace ha := Aside0.mk ha
                        have HK := Aside0.mk Q_HK
                        have HB := Aside0.mk Q_HB
                        have HO356 := Az (Q_HO356 (hon 3 (by kernel_rfl)))
                        have HA_HO356 := Az (Q_HA_HO356 (hon 3 (by kernel_rfl)))
                        have HI0 := Az (Q_HI0_e5 (hon 5 (by kernel_rfl)))
                        obtain ⟨c_, hv_⟩ := HA_HO356.out
                        have hF_ := HO356.out
                        rw [hv_] at hF_
                        obtain ⟨ad_, ea_, hx_⟩ := Kd.at_string (Kd.R_reads' hF_).2.2 t357 (of_eq_true pi359) (of_eq_true qi359)
                        cases ea_
                        refine value_ (w1 := w') (v := .string (rdOf ByteArray.empty y354 t357)) (by rfl) rfl ?_ ?_
                        · go_simp
                          (try simp only [i64_w])
                          try rfl
                          try (simp only [ByteArray.size_extract, eq_iff_iff, iff_true, iff_false, decide_eq_true_eq] at *; omega)
                        refine hK.out _ _ ⟨v355, adz_v355, m6_, (by rw [ha.out]; exact putSel_upk 4 hb_ rfl rfl rfl), fun h0_ => absurd ((hon 5 (by kernel_rfl)).symm.trans h0_) (by decide), Q_HK, Q_HB, Q_HO356, Q_HA_HO356, Q_HI0_e5, Q_X6_⟩
                      refine steps_cons ?_ ?_
                      · rintro b a w' ⟨v355, adz_v355, m6_, ha, Q_HI0, Q_HK, Q_HB, Q_HO356, Q_HA_HO356, Q_HI0_e5, Q_X6_⟩ hb_ hon hoff
                        refine ⟨_, rfl, fun K hK => ?_⟩
                        have e15 : a.tmps[15]? = some (.string (a1.extract 0 (t352 : Int).toNat)) := by rw [ha]; exact putSel_on (e := (2, 15, .string (a1.extract 0 (t352 : Int).toNat))) 0 rfl rfl (hon 2 (by kernel_rfl)) rfl
                        have e20 : a.tmps[20]? = some (.string (rdOf ByteArray.empty y354 t357)) := by rw [ha]; exact putSel_on (e := (7, 20, .string (rdOf ByteArray.empty y354 t357))) 4 rfl rfl (hon 7 (by kernel_rfl)) rfl
                        replace ha := Aside0.mk ha
                        have HK := Aside0.mk Q_HK
                        have HB := Aside0.mk Q_HB
                        have HO356 := Az (Q_HO356 (hon 3 (by kernel_rfl)))
                        have HA_HO356 := Az (Q_HA_HO356 (hon 3 (by kernel_rfl)))
                        have HI0 := Az (Q_HI0_e5 (hon 5 (by kernel_rfl)))
                        refine value_ (w1 := w') (v := .string ((a1.extract 0 (t352 : Int).toNat) ++ (rdOf ByteArray.empty y354 t357))) (by rfl) rfl ?_ ?_
                        · go_simp
                          (try simp only [i64_w])
                          try rfl
                          try (simp only [ByteArray.size_extract, eq_iff_iff, iff_true, iff_false, decide_eq_true_eq] at *; omega)
                        refine hK.out _ _ ⟨v355, adz_v355, m6_, (by rw [ha.out]; exact putSel_upk 5 hb_ rfl rfl rfl), fun h0_ => absurd ((hon 5 (by kernel_rfl)).symm.trans h0_) (by decide), Q_HK, Q_HB, Q_HO356, Q_HA_HO356, Q_HI0_e5, Q_X6_⟩
                      refine steps_cons ?_ ?_
                      · rintro b a w' ⟨v355, adz_v355, m6_, ha, Q_HI0, Q_HK, Q_HB, Q_HO356, Q_HA_HO356, Q_HI0_e5, Q_X6_⟩ hb_ hon hoff
                        refine ⟨_, rfl, fun K hK => ?_⟩
                        have e23 : a.tmps[23]? = some (.int .i64 t352) := by rw [ha]; exact (putSel_off rfl).trans rfl
                        replace ha := Aside0.mk ha
                        have HK := Aside0.mk Q_HK
                        have HB := Aside0.mk Q_HB
                        refine value_ (w1 := w') (v := .int .i64 ji11) (by rfl) rfl ?_ ?_
                        · go_simp
                          (try simp only [i64_w])
                          try rfl
                          try (simp only [ByteArray.size_extract, eq_iff_iff, iff_true, iff_false, decide_eq_true_eq] at *; omega)
                        refine hK.out _ _ ⟨v355, adz_v355, m6_, (by rw [ha.out]; exact putSel_upk 6 hb_ rfl rfl rfl), Q_HI0, Q_HK, Q_HB, Q_HO356, Q_HA_HO356, Q_HI0_e5, Q_X6_⟩
                      refine steps_cons ?_ ?_
                      · rintro b a w' ⟨v355, adz_v355, m6_, ha, Q_HI0, Q_HK, Q_HB, Q_HO356, Q_HA_HO356, Q_HI0_e5, Q_X6_⟩ hb_ hon hoff
                        refine ⟨_, rfl, fun K hK => ?_⟩
                        have e22 : a.tmps[22]? = some (.string a1) := by rw [ha]; exact (putSel_off rfl).trans rfl
                        have e24 : a.tmps[24]? = some (.int .i64 ji11) := by rw [ha]; exact putSel_on (e := (11, 24, .int .i64 ji11)) 6 rfl rfl (hon 11 (by kernel_rfl)) rfl
                        replace ha := Aside0.mk ha
                        have HK := Aside0.mk Q_HK
                        have HB := Aside0.mk Q_HB
                        refine value_ (w1 := w') (v := .string (a1.extract ((ji11) : Int).toNat a1.size)) (by rfl) rfl ?_ ?_
                        · go_simp
                          (try simp only [i64_w])
                          try rfl
                          try (simp only [ByteArray.size_extract, eq_iff_iff, iff_true, iff_false, decide_eq_true_eq] at *; omega)
                        refine hK.out _ _ ⟨v355, adz_v355, m6_, (by rw [ha.out]; exact putSel_upk 7 hb_ rfl rfl rfl), Q_HI0, Q_HK, Q_HB, Q_HO356, Q_HA_HO356, Q_HI0_e5, Q_X6_⟩
                      refine steps_cons ?_ ?_
                      · rintro b a w' ⟨v355, adz_v355, m6_, ha, Q_HI0, Q_HK, Q_HB, Q_HO356, Q_HA_HO356, Q_HI0_e5, Q_X6_⟩ hb_ hon hoff
                        refine ⟨_, rfl, fun K hK => ?_⟩
                        have e21 : a.tmps[21]? = some (.string ((a1.extract 0 (t352 : Int).toNat) ++ (rdOf ByteArray.empty y354 t357))) := by rw [ha]; exact putSel_on (e := (8, 21, .string ((a1.extract 0 (t352 : Int).toNat) ++ (rdOf ByteArray.empty y354 t357)))) 5 rfl rfl (hon 8 (by kernel_rfl)) rfl
                        have e25 : a.tmps[25]? = some (.string (a1.extract ((ji11) : Int).toNat a1.size)) := by rw [ha]; exact putSel_on (e := (12, 25, .string (a1.extract ((ji11) : Int).toNat a1.size))) 7 rfl rfl (hon 12 (by kernel_rfl)) rfl
                        replace ha := Aside0.mk ha
                        have HK := Aside0.mk Q_HK
                        have HB := Aside0.mk Q_HB
                        have HO356 := Az (Q_HO356 (hon 3 (by kernel_rfl)))
                        have HA_HO356 := Az (Q_HA_HO356 (hon 3 (by kernel_rfl)))
                        have HI0 := Az (Q_HI0_e5 (hon 5 (by kernel_rfl)))
                        refine value_ (w1 := w') (v := .string (((a1.extract 0 (t352 : Int).toNat) ++ (rdOf ByteArray.empty y354 t357)) ++ (a1.extract ((ji11) : Int).toNat a1.size))) (by rfl) rfl ?_ ?_
                        · go_simp
                          (try simp only [i64_w])
                          try rfl
                          try (simp only [ByteArray.size_extract, eq_iff_iff, iff_true, iff_false, decide_eq_true_eq] at *; omega)
                        refine hK.out _ _ ⟨v355, adz_v355, m6_, (by rw [ha.out]; exact putSel_upk 8 hb_ rfl rfl rfl), fun h0_ => absurd ((hon 5 (by kernel_rfl)).symm.trans h0_) (by decide), Q_HK, Q_HB, Q_HO356, Q_HA_HO356, Q_HI0_e5, Q_X6_⟩
                      refine steps_cons ?_ ?_
                      · rintro b a w' ⟨v355, adz_v355, m6_, ha, Q_HI0, Q_HK, Q_HB, Q_HO356, Q_HA_HO356, Q_HI0_e5, Q_X6_⟩ hb_ hon hoff
                        refine ⟨_, rfl, fun K hK => ?_⟩
                        have e26 : a.tmps[26]? = some (.string (((a1.extract 0 (t352 : Int).toNat) ++ (rdOf ByteArray.empty y354 t357)) ++ (a1.extract ((ji11) : Int).toNat a1.size))) := by rw [ha]; exact putSel_on (e := (13, 26, .string (((a1.extract 0 (t352 : Int).toNat) ++ (rdOf ByteArray.empty y354 t357)) ++ (a1.extract ((ji11) : Int).toNat a1.size)))) 8 rfl rfl (hon 13 (by kernel_rfl)) rfl
                        replace ha := Aside0.mk ha
                        have HK := Aside0.mk Q_HK
                        have HB := Aside0.mk Q_HB
                        have HO356 := Az (Q_HO356 (hon 3 (by kernel_rfl)))
                        have HA_HO356 := Az (Q_HA_HO356 (hon 3 (by kernel_rfl)))
                        have HI0 := Az (Q_HI0_e5 (hon 5 (by kernel_rfl)))
                        refine value_ (w1 := w') (v := .string (((a1.extract 0 (t352 : Int).toNat) ++ (rdOf ByteArray.empty y354 t357)) ++ (a1.extract ((ji11) : Int).toNat a1.size))) (by rfl) rfl ?_ ?_
                        · go_simp
                          (try simp only [i64_w])
                          try rfl
                          try (simp only [ByteArray.size_extract, eq_iff_iff, iff_true, iff_false, decide_eq_true_eq] at *; omega)
                        refine hK.out _ _ ⟨v355, adz_v355, m6_, (by rw [ha.out]; exact putSel_upk 9 hb_ rfl rfl rfl), fun h0_ => absurd ((hon 5 (by kernel_rfl)).symm.trans h0_) (by decide), Q_HK, Q_HB, Q_HO356, Q_HA_HO356, Q_HI0_e5, Q_X6_⟩
                      exact steps_nil
                    rintro b a w21 hall ⟨v355, adz_v355, m6_, ha, Q_HI0, Q_HK, Q_HB, Q_HO356, Q_HA_HO356, Q_HI0_e5, Q_X6_⟩
                    clear HB HI0 HK
                    have hb2_ := hall 2 (by kernel_rfl)
                    have hb3_ := hall 3 (by kernel_rfl)
                    have hb5_ := hall 5 (by kernel_rfl)
                    have hb6_ := hall 6 (by kernel_rfl)
                    have hb7_ := hall 7 (by kernel_rfl)
                    have hb8_ := hall 8 (by kernel_rfl)
                    have hb11_ := hall 11 (by kernel_rfl)
                    have hb12_ := hall 12 (by kernel_rfl)
                    have hb13_ := hall 13 (by kernel_rfl)
                    have hb14_ := hall 14 (by kernel_rfl)
                    subst ha
                    obtain rfl := Q_X6_ hb6_
                    simp only [putSel, hb2_, hb3_, hb5_, hb6_, hb7_, hb8_, hb11_, hb12_, hb13_, hb14_, if_true, Act.put, List.setIfInBounds_toArray, List.set_cons_zero, List.set_cons_succ]
                    clear Q_HI0
                    have HK := Aside0.mk Q_HK
                    clear Q_HK
                    have HB := Aside0.mk Q_HB
                    clear Q_HB
                    have HO356 := Az (Q_HO356 hb3_)
                    clear Q_HO356
                    have HA_HO356 := Az (Q_HA_HO356 hb3_)
                    clear Q_HA_HO356
                    have HI0 := Az (Q_HI0_e5 hb5_)
                    clear Q_HI0_e5
                    clear hall hb2_ hb3_ hb5_ hb6_ hb7_ hb8_ hb11_ hb12_ hb13_ hb14_
                    obtain ⟨co22, eo22⟩ := HA_HO356.out
                    clear HA_HO356
                    subst eo22
                    try go_wp2
                    go_ret
                    exact ⟨by first | rfl | (simp [errW_none, errW_some] <;> rfl) | (simp only [← hji11]; first | rfl | (simp [errW_none, errW_some] <;> rfl)) | (simp [*, errW_none, errW_some] <;> rfl), (bI67 HI0), (bB HB), (bK HK)⟩
                  · rw [if_neg c14] at H
                    exact absurd H (by simp)
                · rw [if_neg c13] at H
                  exact absurd H (by simp)
              · rw [if_neg c12] at H
                exact absurd H (by simp)
            · rw [if_neg c10] at H
              exact absurd H (by simp)
          · rw [if_neg c9] at H
            exact absurd H (by simp)
        · rw [if_neg c8] at H
          exact absurd H (by simp)
      · rw [if_neg c6] at H
        exact absurd H (by simp)
    · rw [if_neg c5] at H
      exact absurd H (by simp)

/-! ### spec_DrawReadDeed: function 28 -/
def spec_DrawReadDeed.f (k : Nat) (l0 : List Int) : Option (ByteArray) := (spec_l20Open.f l0).bind fun bt360 => ((spec_l20Desk.f k bt360.1 bt360.2 0).bind fun bt363 => ((spec_l20Deed.f k bt360.1 bt363.2.2 bt363.1 bt363.2.1).bind fun bt370 => ((spec_DeedText.f k bt370.1 bt370.2.1 bt370.2.2.1).bind fun t374 => ((spec_l20Rd_pick.f k bt360.1 bt370.2.2.2 3).bind fun bt375 => (if bt375.1 = 0 then ((spec_l20Spoil.f k bt360.1 bt375.2 t374).bind fun bt377 => (some bt377.1)) else (some t374))))))
theorem spec_DrawReadDeed.mono : ∀ a0 k, LeO (spec_DrawReadDeed.f k a0) (spec_DrawReadDeed.f (k + 1) a0) := by
  intro a0 k
  unfold spec_DrawReadDeed.f
  repeat' first
      | (with_reducible exact spec_DeedText.mono _ _ _ _)
      | (with_reducible exact spec_l20Deed.mono _ _ _ _ _)
      | (with_reducible exact spec_l20Desk.mono _ _ _ _)
      | (with_reducible exact spec_l20Rd_pick.mono _ _ _ _)
      | (with_reducible exact spec_l20Spoil.mono _ _ _ _)
      | (with_reducible exact LeO.refl _)
      | (with_reducible exact LeO.none _)
      | (with_reducible refine LeO.ite ?_ ?_)
      | (with_reducible refine LeO.bind ?_ (fun _ => ?_))
      | exact spec_DeedText.mono _ _ _ _
      | exact spec_l20Deed.mono _ _ _ _ _
      | exact spec_l20Desk.mono _ _ _ _
      | exact spec_l20Rd_pick.mono _ _ _ _
      | exact spec_l20Spoil.mono _ _ _ _
      | exact LeO.none _
      | refine LeO.ite ?_ ?_
      | refine LeO.bind ?_ (fun _ => ?_)
set_option maxHeartbeats 8000000 in
set_option maxRecDepth 100000 in
theorem spec_DrawReadDeed.calls (k : Nat) (A0 : Option Addr) (c0 : Nat) (l0 : List Int) (r : ByteArray) (w : World) (hr0 : Kd.C (Kd.int .u8) w A0 l0.length l0) (hc0 : l0.length ≤ c0) (h : spec_DrawReadDeed.f k l0 = some r) :
    Calls Tryd.prog 28 #[.slice A0 l0.length c0] w fun e w' => e = .returned (.string r) ∧ Below w.heap.size w w' := by
  have HR0 := Aside0.mk hr0
  have HC0 := Aside0.mk hc0
  clear hr0 hc0
  have HB := Az (Below.refl w.heap.size w)
  have H : ((spec_l20Open.f l0).bind fun bt360 => ((spec_l20Desk.f k bt360.1 bt360.2 0).bind fun bt363 => ((spec_l20Deed.f k bt360.1 bt363.2.2 bt363.1 bt363.2.1).bind fun bt370 => ((spec_DeedText.f k bt370.1 bt370.2.1 bt370.2.2.1).bind fun t374 => ((spec_l20Rd_pick.f k bt360.1 bt370.2.2.2 3).bind fun bt375 => (if bt375.1 = 0 then ((spec_l20Spoil.f k bt360.1 bt375.2 t374).bind fun bt377 => (some bt377.1)) else (some t374))))))) = some r := h
  clear h
  replace H := Option.bind_eq_some_iff.mp H
  obtain ⟨⟨t360, t361⟩, A20, H⟩ := H
  replace H : ((spec_l20Desk.f k t360 t361 0).bind fun bt363 => ((spec_l20Deed.f k t360 bt363.2.2 bt363.1 bt363.2.1).bind fun bt370 => ((spec_DeedText.f k bt370.1 bt370.2.1 bt370.2.2.1).bind fun t374 => ((spec_l20Rd_pick.f k t360 bt370.2.2.2 3).bind fun bt375 => (if bt375.1 = 0 then ((spec_l20Spoil.f k t360 bt375.2 t374).bind fun bt377 => (some bt377.1)) else (some t374)))))) = some r := H
  have A2 := Aside0.mk A20
  clear A20
  replace H := Option.bind_eq_some_iff.mp H
  obtain ⟨⟨t363, t366, t369⟩, A30, H⟩ := H
  replace H : ((spec_l20Deed.f k t360 t369 t363 t366).bind fun bt370 => ((spec_DeedText.f k bt370.1 bt370.2.1 bt370.2.2.1).bind fun t374 => ((spec_l20Rd_pick.f k t360 bt370.2.2.2 3).bind fun bt375 => (if bt375.1 = 0 then ((spec_l20Spoil.f k t360 bt375.2 t374).bind fun bt377 => (some bt377.1)) else (some t374))))) = some r := H
  have A3 := Aside0.mk A30
  clear A30
  replace H := Option.bind_eq_some_iff.mp H
  obtain ⟨⟨t370, t371, t372, t373⟩, A40, H⟩ := H
  replace H : ((spec_DeedText.f k t370 t371 t372).bind fun t374 => ((spec_l20Rd_pick.f k t360 t373 3).bind fun bt375 => (if bt375.1 = 0 then ((spec_l20Spoil.f k t360 bt375.2 t374).bind fun bt377 => (some bt377.1)) else (some t374)))) = some r := H
  have A4 := Aside0.mk A40
  clear A40
  replace H := Option.bind_eq_some_iff.mp H
  obtain ⟨t374, A50, H⟩ := H
  replace H : ((spec_l20Rd_pick.f k t360 t373 3).bind fun bt375 => (if bt375.1 = 0 then ((spec_l20Spoil.f k t360 bt375.2 t374).bind fun bt377 => (some bt377.1)) else (some t374))) = some r := H
  have A5 := Aside0.mk A50
  clear A50
  replace H := Option.bind_eq_some_iff.mp H
  obtain ⟨⟨t375, t376⟩, A60, H⟩ := H
  replace H : (if t375 = 0 then ((spec_l20Spoil.f k t360 t376 t374).bind fun bt377 => (some bt377.1)) else (some t374)) = some r := H
  have A6 := Aside0.mk A60
  clear A60
  by_cases c7 : t375 = 0
  · rw [if_pos c7] at H
    have c7b0 : (t375 == 0) = true := beq_iff_eq.mpr c7
    have c7b1 : (t375 != 0) = false := bne_eq_false_iff_eq.mpr c7
    clear c7
    replace H := Option.bind_eq_some_iff.mp H
    obtain ⟨⟨t377, t378⟩, A80, H⟩ := H
    replace H : (some t377) = some r := H
    have A8 := Aside0.mk A80
    clear A80
    obtain rfl := Option.some.inj H
    go_enter Tryd.func28, Tryd.ntmps28
    go_wp2_with (first | ((with_reducible refine gate_callee (f := 38) rfl ?_); refine goesL_ (some 6) rfl rfl Tryd.func38 (by kernel_rfl) rfl #[.slice A0 l0.length c0] rfl gf ?_; (with_reducible refine (spec_l20Open.calls _ _ l0 t360 t361 w _ ?side1 ?side2 ?side3 A2.out).mono ?_); (case side1 => exact (bB HB)); (case side2 => exact HR0.out); (case side3 => exact HC0.out); rintro e w9 ⟨g362, rfl, hi, hb, hb2⟩; refine ⟨_, rfl, ?_⟩; have n0_ := Az (hb); have n1_ := Az (hi); clear HB; have HB := n0_; have HI362 := n1_; clear n0_ n1_; (try clear hb); (try clear hb2); (try clear hk); (try clear hi)) | ((with_reducible refine gate_callee (f := 40) rfl ?_); refine goesL_ (some 9) rfl rfl Tryd.func40 (by kernel_rfl) rfl #[.pointer (some ⟨g362, 0, none⟩), .int .i64 0] rfl gf ?_; (with_reducible refine (spec_l20Desk.calls k g362 t360 t361 0 t363 t366 t369 w _ ?side1 ?side2 A3.out).mono ?_); (case side1 => exact (bI67 HI362)); (case side2 => exact (bB HB)); rintro e w10 ⟨v364, v367, rfl, ho0, ho1, hi, hb, hk⟩; refine ⟨_, rfl, ?_⟩; have n0_ := Az (Kd.R_lower ho0 (below_size (bB HB))); have n1_ := Az (Kd.Q_lower ho1 (below_size (bB HB))); have n2_ := Az (hb); have n3_ := Az (hi); clear HB; clear HI362; have HO365 := n0_; have HO368 := n1_; have HB := n2_; have HI362 := n3_; clear n0_ n1_ n2_ n3_; (try clear hb); (try clear hb2); (try clear hk); (try clear hi); (try clear ho0); (try clear ho1); obtain ⟨Ao11, co11, eo11⟩ := Kd.R_slice HO365.out; subst eo11; obtain ⟨Ao12, co12, eo12, _⟩ := Kd.Q_slice HO368.out; subst eo12) | ((with_reducible refine gate_callee (f := 39) rfl ?_); refine goesL_ (some 10) rfl rfl Tryd.func39 (by kernel_rfl) rfl #[.pointer (some ⟨g362, 0, none⟩), .agg #[.slice Ao11 t363.length co11, .slice Ao12 t366.length co12]] rfl gf ?_; (with_reducible refine (spec_l20Deed.calls k g362 t360 t369 _ _ t363 _ _ t366 t370 t371 t372 t373 w _ ?side1 ?side2 ?side3 ?side4 ?side5 ?side6 A4.out).mono ?_); (case side1 => exact (bI67 HI362)); (case side2 => exact (bB HB)); (case side3 => exact Kd.C_foot_own (IsS67.apart (show IsS67 w _ g362 t360 t369 from (bI67 HI362)) (dR (HO365.out)) (by decide)) (fun _ h_ => h_.2)); (case side4 => exact (Kd.R_reads' HO365.out).2.1); (case side5 => exact Kd.C_foot_ownQ (IsS67.apartQ (show IsS67 w _ g362 t360 t369 from (bI67 HI362)) (dQ (HO368.out)) (by decide)) (fun _ h_ => h_.2)); (case side6 => exact (Kd.Q_reads' HO368.out).2.1); rintro e w13 ⟨rfl, hi, hb, hk⟩; refine ⟨_, rfl, ?_⟩; have n0_ := Az (Kd.R_mono (Kd.R_keep (IsS67.apart (show IsS67 w _ g362 t360 t369 from (bI67 HI362)) (dR (HO365.out)) (by decide)) hk (fun _ h => h.2)) (fun _ h => h.1)); have n1_ := Az (Kd.Q_mono (Kd.Q_keep (IsS67.apartQ (show IsS67 w _ g362 t360 t369 from (bI67 HI362)) (dQ (HO368.out)) (by decide)) hk (fun _ h => h.2)) (fun _ h => h.1)); have n2_ := Az (hb); have n3_ := Az (hi); clear HO365; clear HO368; clear HB; clear HI362; have HO365 := n0_; have HO368 := n1_; have HB := n2_; have HI362 := n3_; clear n0_ n1_ n2_ n3_; (try clear hb); (try clear hb2); (try clear hk); (try clear hi)) | ((with_reducible refine gate_callee (f := 11) rfl ?_); refine goesL_ (some 11) rfl rfl Tryd.func11 (by kernel_rfl) rfl #[.agg #[.int .i64 t370, .int .i64 t371, .string t372]] rfl gf ?_; (with_reducible refine (spec_DeedText.calls k t370 t371 t372 t374 _ A5.out).mono ?_); rintro e w14 ⟨rfl, hb⟩; refine ⟨_, rfl, ?_⟩; have n0_ := Az (Kd.R_below (dR (HO365.out)) hb); have n1_ := Az (Kd.Q_below (dQ (HO368.out)) hb); have n2_ := Az (IsS67.below (bI67 HI362) hb); have n3_ := Az (below_step (bB HB) hb); clear HO365; clear HO368; clear HI362; clear HB; have HO365 := n0_; have HO368 := n1_; have HI362 := n2_; have HB := n3_; clear n0_ n1_ n2_ n3_; (try clear hb); (try clear hb2); (try clear hk); (try clear hi)) | ((with_reducible refine gate_callee (f := 42) rfl ?_); refine goesL_ (some 13) rfl rfl Tryd.func42 (by kernel_rfl) rfl #[.pointer (some ⟨g362, 0, none⟩), .int .i64 3] rfl gf ?_; (with_reducible refine (spec_l20Rd_pick.calls k g362 t360 t373 3 t375 t376 w _ ?side1 ?side2 A6.out).mono ?_); (case side1 => exact (bI67 HI362)); (case side2 => exact (bB HB)); rintro e w15 ⟨rfl, hi, hb, hk⟩; refine ⟨_, rfl, ?_⟩; have n0_ := Az (Kd.R_mono (Kd.R_keep (IsS67.apart (show IsS67 w _ g362 t360 t373 from (bI67 HI362)) (dR (HO365.out)) (by decide)) hk (fun _ h => h.2)) (fun _ h => h.1)); have n1_ := Az (Kd.Q_mono (Kd.Q_keep (IsS67.apartQ (show IsS67 w _ g362 t360 t373 from (bI67 HI362)) (dQ (HO368.out)) (by decide)) hk (fun _ h => h.2)) (fun _ h => h.1)); have n2_ := Az (hb); have n3_ := Az (hi); clear HO365; clear HO368; clear HB; clear HI362; have HO365 := n0_; have HO368 := n1_; have HB := n2_; have HI362 := n3_; clear n0_ n1_ n2_ n3_; (try clear hb); (try clear hb2); (try clear hk); (try clear hi)) | ((with_reducible refine gate_callee (f := 43) rfl ?_); refine goesL_ (some 17) rfl rfl Tryd.func43 (by kernel_rfl) rfl #[.pointer (some ⟨g362, 0, none⟩), .string t374] rfl gf ?_; (with_reducible refine (spec_l20Spoil.calls k g362 t360 t376 t374 t377 t378 w _ ?side1 ?side2 A8.out).mono ?_); (case side1 => exact (bI67 HI362)); (case side2 => exact (bB HB)); rintro e w16 ⟨rfl, hi, hb, hk⟩; refine ⟨_, rfl, ?_⟩; have n0_ := Az (Kd.R_mono (Kd.R_keep (IsS67.apart (show IsS67 w _ g362 t360 t376 from (bI67 HI362)) (dR (HO365.out)) (by decide)) hk (fun _ h => h.2)) (fun _ h => h.1)); have n1_ := Az (Kd.Q_mono (Kd.Q_keep (IsS67.apartQ (show IsS67 w _ g362 t360 t376 from (bI67 HI362)) (dQ (HO368.out)) (by decide)) hk (fun _ h => h.2)) (fun _ h => h.1)); have n2_ := Az (hb); have n3_ := Az (hi); clear HO365; clear HO368; clear HB; clear HI362; have HO365 := n0_; have HO368 := n1_; have HB := n2_; have HI362 := n3_; clear n0_ n1_ n2_ n3_; (try clear hb); (try clear hb2); (try clear hk); (try clear hi)))
    go_ret
    exact ⟨rt, (bB HB)⟩
  · rw [if_neg c7] at H
    have c7b0 : (t375 == 0) = false := beq_eq_false_iff_ne.mpr c7
    have c7b1 : (t375 != 0) = true := bne_iff_ne.mpr c7
    obtain rfl := Option.some.inj H
    go_enter Tryd.func28, Tryd.ntmps28
    go_wp2_with (first | ((with_reducible refine gate_callee (f := 38) rfl ?_); refine goesL_ (some 6) rfl rfl Tryd.func38 (by kernel_rfl) rfl #[.slice A0 l0.length c0] rfl gf ?_; (with_reducible refine (spec_l20Open.calls _ _ l0 t360 t361 w _ ?side1 ?side2 ?side3 A2.out).mono ?_); (case side1 => exact (bB HB)); (case side2 => exact HR0.out); (case side3 => exact HC0.out); rintro e w17 ⟨g362, rfl, hi, hb, hb2⟩; refine ⟨_, rfl, ?_⟩; have n0_ := Az (hb); have n1_ := Az (hi); clear HB; have HB := n0_; have HI362 := n1_; clear n0_ n1_; (try clear hb); (try clear hb2); (try clear hk); (try clear hi)) | ((with_reducible refine gate_callee (f := 40) rfl ?_); refine goesL_ (some 9) rfl rfl Tryd.func40 (by kernel_rfl) rfl #[.pointer (some ⟨g362, 0, none⟩), .int .i64 0] rfl gf ?_; (with_reducible refine (spec_l20Desk.calls k g362 t360 t361 0 t363 t366 t369 w _ ?side1 ?side2 A3.out).mono ?_); (case side1 => exact (bI67 HI362)); (case side2 => exact (bB HB)); rintro e w18 ⟨v364, v367, rfl, ho0, ho1, hi, hb, hk⟩; refine ⟨_, rfl, ?_⟩; have n0_ := Az (Kd.R_lower ho0 (below_size (bB HB))); have n1_ := Az (Kd.Q_lower ho1 (below_size (bB HB))); have n2_ := Az (hb); have n3_ := Az (hi); clear HB; clear HI362; have HO365 := n0_; have HO368 := n1_; have HB := n2_; have HI362 := n3_; clear n0_ n1_ n2_ n3_; (try clear hb); (try clear hb2); (try clear hk); (try clear hi); (try clear ho0); (try clear ho1); obtain ⟨Ao19, co19, eo19⟩ := Kd.R_slice HO365.out; subst eo19; obtain ⟨Ao20, co20, eo20, _⟩ := Kd.Q_slice HO368.out; subst eo20) | ((with_reducible refine gate_callee (f := 39) rfl ?_); refine goesL_ (some 10) rfl rfl Tryd.func39 (by kernel_rfl) rfl #[.pointer (some ⟨g362, 0, none⟩), .agg #[.slice Ao19 t363.length co19, .slice Ao20 t366.length co20]] rfl gf ?_; (with_reducible refine (spec_l20Deed.calls k g362 t360 t369 _ _ t363 _ _ t366 t370 t371 t372 t373 w _ ?side1 ?side2 ?side3 ?side4 ?side5 ?side6 A4.out).mono ?_); (case side1 => exact (bI67 HI362)); (case side2 => exact (bB HB)); (case side3 => exact Kd.C_foot_own (IsS67.apart (show IsS67 w _ g362 t360 t369 from (bI67 HI362)) (dR (HO365.out)) (by decide)) (fun _ h_ => h_.2)); (case side4 => exact (Kd.R_reads' HO365.out).2.1); (case side5 => exact Kd.C_foot_ownQ (IsS67.apartQ (show IsS67 w _ g362 t360 t369 from (bI67 HI362)) (dQ (HO368.out)) (by decide)) (fun _ h_ => h_.2)); (case side6 => exact (Kd.Q_reads' HO368.out).2.1); rintro e w21 ⟨rfl, hi, hb, hk⟩; refine ⟨_, rfl, ?_⟩; have n0_ := Az (Kd.R_mono (Kd.R_keep (IsS67.apart (show IsS67 w _ g362 t360 t369 from (bI67 HI362)) (dR (HO365.out)) (by decide)) hk (fun _ h => h.2)) (fun _ h => h.1)); have n1_ := Az (Kd.Q_mono (Kd.Q_keep (IsS67.apartQ (show IsS67 w _ g362 t360 t369 from (bI67 HI362)) (dQ (HO368.out)) (by decide)) hk (fun _ h => h.2)) (fun _ h => h.1)); have n2_ := Az (hb); have n3_ := Az (hi); clear HO365; clear HO368; clear HB; clear HI362; have HO365 := n0_; have HO368 := n1_; have HB := n2_; have HI362 := n3_; clear n0_ n1_ n2_ n3_; (try clear hb); (try clear hb2); (try clear hk); (try clear hi)) | ((with_reducible refine gate_callee (f := 11) rfl ?_); refine goesL_ (some 11) rfl rfl Tryd.func11 (by kernel_rfl) rfl #[.agg #[.int .i64 t370, .int .i64 t371, .string t372]] rfl gf ?_; (with_reducible refine (spec_DeedText.calls k t370 t371 t372 t374 _ A5.out).mono ?_); rintro e w22 ⟨rfl, hb⟩; refine ⟨_, rfl, ?_⟩; have n0_ := Az (Kd.R_below (dR (HO365.out)) hb); have n1_ := Az (Kd.Q_below (dQ (HO368.out)) hb); have n2_ := Az (IsS67.below (bI67 HI362) hb); have n3_ := Az (below_step (bB HB) hb); clear HO365; clear HO368; clear HI362; clear HB; have HO365 := n0_; have HO368 := n1_; have HI362 := n2_; have HB := n3_; clear n0_ n1_ n2_ n3_; (try clear hb); (try clear hb2); (try clear hk); (try clear hi)) | ((with_reducible refine gate_callee (f := 42) rfl ?_); refine goesL_ (some 13) rfl rfl Tryd.func42 (by kernel_rfl) rfl #[.pointer (some ⟨g362, 0, none⟩), .int .i64 3] rfl gf ?_; (with_reducible refine (spec_l20Rd_pick.calls k g362 t360 t373 3 t375 t376 w _ ?side1 ?side2 A6.out).mono ?_); (case side1 => exact (bI67 HI362)); (case side2 => exact (bB HB)); rintro e w23 ⟨rfl, hi, hb, hk⟩; refine ⟨_, rfl, ?_⟩; have n0_ := Az (Kd.R_mono (Kd.R_keep (IsS67.apart (show IsS67 w _ g362 t360 t373 from (bI67 HI362)) (dR (HO365.out)) (by decide)) hk (fun _ h => h.2)) (fun _ h => h.1)); have n1_ := Az (Kd.Q_mono (Kd.Q_keep (IsS67.apartQ (show IsS67 w _ g362 t360 t373 from (bI67 HI362)) (dQ (HO368.out)) (by decide)) hk (fun _ h => h.2)) (fun _ h => h.1)); have n2_ := Az (hb); have n3_ := Az (hi); clear HO365; clear HO368; clear HB; clear HI362; have HO365 := n0_; have HO368 := n1_; have HB := n2_; have HI362 := n3_; clear n0_ n1_ n2_ n3_; (try clear hb); (try clear hb2); (try clear hk); (try clear hi)))
    go_ret
    exact ⟨rt, (bB HB)⟩

/-! ### laws_FnReadDeed: function 8 -/
def laws_FnReadDeed.j0 : Nat → ByteArray → Bool → Bool → Int → Int → ByteArray → Option (Bool)
  | 0, _, _, _, _, _, _ => none
  | k + 1, x3, x5, x32, x385000, x385001, x385002 => if x32 = true then (some false) else (if x5 = true then (if x3.size + 1 ≤ 9223372036854775807 then ((impl_ReadDeed.f k (x3 ++ (⟨#[10]⟩ : ByteArray))).bind fun bt390 => ((impl_DeedText.f k x385000 x385001 x385002).bind fun t395 => (if t395.toList = x3.toList then (some (!bt390.2.2.2)) else (some false)))) else (none)) else (if (x385000 == 0 && (x385001 == 0 && (x385002.toList == ([] : List UInt8)))) = true then ((laws_alive.f).bind fun t396 => (some t396)) else (some false)))
def laws_FnReadDeed.f (k : Nat) (l0 : List Int) : Option (Bool) := if (l0.length : Int) > 1048576 then (some true) else ((spec_DrawReadDeed.f k l0).bind fun t379 => ((impl_ReadDeed.f k t379).bind fun bt380 => ((spec_ReadDeed.f k t379).bind fun bt385 => (if (!(bt380.1 == bt385.1) || (!(bt380.2.1 == bt385.2.1) || (!(bt380.2.2.1.toList == bt385.2.2.1.toList)))) = true then (laws_FnReadDeed.j0 k t379 bt380.2.2.2 true bt380.1 bt380.2.1 bt380.2.2.1) else (laws_FnReadDeed.j0 k t379 bt380.2.2.2 (bt380.2.2.2 != bt385.2.2.2) bt380.1 bt380.2.1 bt380.2.2.1)))))
theorem laws_FnReadDeed.mono_l : ∀ k, (∀ y0 y1 y2 y3 y4 y5, LeO (laws_FnReadDeed.j0 k y0 y1 y2 y3 y4 y5) (laws_FnReadDeed.j0 (k + 1) y0 y1 y2 y3 y4 y5))
  | 0 => fun _ _ _ _ _ _ r h => by simp [laws_FnReadDeed.j0] at h
  | k + 1 => by
    have ih0 := laws_FnReadDeed.mono_l k
    · intro y0 y1 y2 y3 y4 y5
      unfold laws_FnReadDeed.j0
      repeat' first
      | (with_reducible exact ih0 _ _ _ _ _ _)
      | (with_reducible exact impl_DeedText.mono _ _ _ _)
      | (with_reducible exact impl_ReadDeed.mono _ _)
      | (with_reducible exact spec_DrawReadDeed.mono _ _)
      | (with_reducible exact spec_ReadDeed.mono _ _)
      | (with_reducible exact LeO.refl _)
      | (with_reducible exact LeO.none _)
      | (with_reducible refine LeO.ite ?_ ?_)
      | (with_reducible refine LeO.bind ?_ (fun _ => ?_))
      | exact ih0 _ _ _ _ _ _
      | exact impl_DeedText.mono _ _ _ _
      | exact impl_ReadDeed.mono _ _
      | exact spec_DrawReadDeed.mono _ _
      | exact spec_ReadDeed.mono _ _
      | exact LeO.none _
      | refine LeO.ite ?_ ?_
      | refine LeO.bind ?_ (fun _ => ?_)
theorem laws_FnReadDeed.mono : ∀ a0 k, LeO (laws_FnReadDeed.f k a0) (laws_FnReadDeed.f (k + 1) a0) := by
  intro a0 k
  have ih0 := laws_FnReadDeed.mono_l k
  unfold laws_FnReadDeed.f
  repeat' first
      | (with_reducible exact ih0 _ _ _ _ _ _)
      | (with_reducible exact impl_DeedText.mono _ _ _ _)
      | (with_reducible exact impl_ReadDeed.mono _ _)
      | (with_reducible exact spec_DrawReadDeed.mono _ _)
      | (with_reducible exact spec_ReadDeed.mono _ _)
      | (with_reducible exact LeO.refl _)
      | (with_reducible exact LeO.none _)
      | (with_reducible refine LeO.ite ?_ ?_)
      | (with_reducible refine LeO.bind ?_ (fun _ => ?_))
      | exact ih0 _ _ _ _ _ _
      | exact impl_DeedText.mono _ _ _ _
      | exact impl_ReadDeed.mono _ _
      | exact spec_DrawReadDeed.mono _ _
      | exact spec_ReadDeed.mono _ _
      | exact LeO.none _
      | refine LeO.ite ?_ ?_
      | refine LeO.bind ?_ (fun _ => ?_)
set_option maxHeartbeats 8000000 in
set_option maxRecDepth 100000 in
theorem laws_FnReadDeed.calls (k : Nat) (A0 : Option Addr) (c0 : Nat) (l0 : List Int) (r : Bool) (w : World) (hr0 : Kd.C (Kd.int .u8) w A0 l0.length l0) (hc0 : l0.length ≤ c0) (h : laws_FnReadDeed.f k l0 = some r) (hT_ : r = true) :
    Calls Tryd.prog 8 #[.slice A0 l0.length c0] w fun e w' => e = .returned (.bool r) ∧ Below w.heap.size w w' := by
  have HT_ := Aside0.mk hT_
  clear hT_
  have hu26 := Tryd.underlying26
  have HR0 := Aside0.mk hr0
  have HC0 := Aside0.mk hc0
  clear hr0 hc0
  have HB := Az (Below.refl w.heap.size w)
  have H : (if (l0.length : Int) > 1048576 then (some true) else ((spec_DrawReadDeed.f k l0).bind fun t379 => ((impl_ReadDeed.f k t379).bind fun bt380 => ((spec_ReadDeed.f k t379).bind fun bt385 => (if (!(bt380.1 == bt385.1) || (!(bt380.2.1 == bt385.2.1) || (!(bt380.2.2.1.toList == bt385.2.2.1.toList)))) = true then (laws_FnReadDeed.j0 k t379 bt380.2.2.2 true bt380.1 bt380.2.1 bt380.2.2.1) else (laws_FnReadDeed.j0 k t379 bt380.2.2.2 (bt380.2.2.2 != bt385.2.2.2) bt380.1 bt380.2.1 bt380.2.2.1)))))) = some r := h
  clear h
  by_cases c2 : (l0.length : Int) > 1048576
  · rw [if_pos c2] at H
    have c2b0 : decide (1048576 < (l0.length : Int)) = true := decide_eq_true c2
    have c2b1 : decide (1048576 < l0.length) = true := decide_eq_true (by omega)
    clear c2
    obtain rfl := Option.some.inj H
    go_enter Tryd.func8, Tryd.ntmps8
    go_wp2
    go_ret
    exact ⟨rt, (bB HB)⟩
  · rw [if_neg c2] at H
    have c2b0 : decide (1048576 < (l0.length : Int)) = false := decide_eq_false c2
    have c2b1 : decide (1048576 < l0.length) = false := decide_eq_false (by omega)
    clear c2
    replace H := Option.bind_eq_some_iff.mp H
    obtain ⟨t379, A30, H⟩ := H
    replace H : ((impl_ReadDeed.f k t379).bind fun bt380 => ((spec_ReadDeed.f k t379).bind fun bt385 => (if (!(bt380.1 == bt385.1) || (!(bt380.2.1 == bt385.2.1) || (!(bt380.2.2.1.toList == bt385.2.2.1.toList)))) = true then (laws_FnReadDeed.j0 k t379 bt380.2.2.2 true bt380.1 bt380.2.1 bt380.2.2.1) else (laws_FnReadDeed.j0 k t379 bt380.2.2.2 (bt380.2.2.2 != bt385.2.2.2) bt380.1 bt380.2.1 bt380.2.2.1)))) = some r := H
    have A3 := Aside0.mk A30
    clear A30
    replace H := Option.bind_eq_some_iff.mp H
    obtain ⟨⟨t380, t381, t382, t383⟩, A40, H⟩ := H
    replace H : ((spec_ReadDeed.f k t379).bind fun bt385 => (if (!(t380 == bt385.1) || (!(t381 == bt385.2.1) || (!(t382.toList == bt385.2.2.1.toList)))) = true then (laws_FnReadDeed.j0 k t379 t383 true t380 t381 t382) else (laws_FnReadDeed.j0 k t379 t383 (t383 != bt385.2.2.2) t380 t381 t382))) = some r := H
    have A4 := Aside0.mk A40
    clear A40
    replace H := Option.bind_eq_some_iff.mp H
    obtain ⟨⟨t385, t386, t387, t388⟩, A50, H⟩ := H
    replace H : (if (!(t380 == t385) || (!(t381 == t386) || (!(t382.toList == t387.toList)))) = true then (laws_FnReadDeed.j0 k t379 t383 true t380 t381 t382) else (laws_FnReadDeed.j0 k t379 t383 (t383 != t388) t380 t381 t382)) = some r := H
    have A5 := Aside0.mk A50
    clear A50
    have HC6 := Aside0.mk H
    clear H
    go_enter Tryd.func8, Tryd.ntmps8
    go_upto_region 6 with (first | ((with_reducible refine gate_callee (f := 28) rfl ?_); refine goesL_ (some 14) rfl rfl Tryd.func28 (by kernel_rfl) rfl #[.slice A0 l0.length c0] rfl gf ?_; (with_reducible refine (spec_DrawReadDeed.calls k _ _ l0 t379 _ ?side1 ?side2 A3.out).mono ?_); (case side1 => repeat (first | exact HR0.out | (with_reducible refine Kd.C_alloc ?_ _) | (with_reducible refine Kd.C_drewN ?_ _) | (with_reducible refine Kd.C_drew ?_))); (case side2 => exact HC0.out); rintro e w7 ⟨rfl, hb⟩; refine ⟨_, rfl, ?_⟩; have n0_ := Az (below_step (bB HB) hb); clear HB; have HB := n0_; clear n0_; (try clear hb); (try clear hb2); (try clear hk); (try clear hi)) | ((with_reducible refine gate_callee (f := 20) rfl ?_); refine goesL_ (some 17) rfl rfl Tryd.func20 (by kernel_rfl) rfl #[.string t379] rfl gf ?_; (with_reducible refine (impl_ReadDeed.calls k t379 t380 t381 t382 t383 _ A4.out).mono ?_); rintro e w8 ⟨rfl, hb⟩; refine ⟨_, rfl, ?_⟩; have n0_ := Az (below_step (bB HB) hb); clear HB; have HB := n0_; clear n0_; (try clear hb); (try clear hb2); (try clear hk); (try clear hi)) | ((with_reducible refine gate_dst (N := 4) rfl ?_); refine box_event ?hg (N := 4) ?hd (cs := #[.int .i64 0, .int .i64 0, .string (⟨#[]⟩ : ByteArray)]) (t := 26) ?hr ?_; (case hd => rfl); (case hg => rfl); (case hr => first | (go_simp; done) | (go_simp; rfl)); intro gb384 hg w9 hbox hb; have n0_ := Az (below_step (bB HB) hb); have n1_ := Az (hbox); have n2_ := Az ((by rw [hg]; exact (below_size (bB HB)) : w.heap.size ≤ gb384)); have n3_ := Az ((by rw [hg]; exact (below_size (bB HB)) : w.heap.size ≤ gb384)); clear HB; have HB := n0_; have BK384 := n1_; have GW384 := n2_; have GE384 := n3_; clear n0_ n1_ n2_ n3_; clear hb hbox hg; have hcz10_0 : w9.cell? ⟨gb384, 0, none⟩ = some (.int .i64 0) := (blk_cell BK384.out 0).trans rfl; have hcz10_1 : w9.cell? ⟨gb384, 1, none⟩ = some (.int .i64 0) := (blk_cell BK384.out 1).trans rfl; have hcz10_2 : w9.cell? ⟨gb384, 2, none⟩ = some (.string (⟨#[]⟩ : ByteArray)) := (blk_cell BK384.out 2).trans rfl; have hfz10_0 := blk_frozen BK384.out 0; have hfz10_1 := blk_frozen BK384.out 1; have hfz10_2 := blk_frozen BK384.out 2) | ((with_reducible refine gate_callee (f := 19) rfl ?_); refine goesL_ (some 22) rfl rfl Tryd.func19 (by kernel_rfl) rfl #[.string t379] rfl gf ?_; (with_reducible refine (spec_ReadDeed.calls k t379 t385 t386 t387 t388 _ A5.out).mono ?_); rintro e w11 ⟨rfl, hb⟩; refine ⟨_, rfl, ?_⟩; have n0_ := Az (blk_below (g := gb384) (o := .cells #[.int .i64 t380, .int .i64 t381, .string t382] 26 (0, 0)) (by (with_reducible repeat (first | refine blk_drewN ?_ _ | refine blk_drew ?_ | refine blk_alloc ?_ _)); refine blk_put (cs := #[.int .i64 t380, .int .i64 t381, .string (⟨#[]⟩ : ByteArray)]) ?_ 2 _ rfl; (with_reducible repeat (first | refine blk_drewN ?_ _ | refine blk_drew ?_ | refine blk_alloc ?_ _)); refine blk_put (cs := #[.int .i64 t380, .int .i64 0, .string (⟨#[]⟩ : ByteArray)]) ?_ 1 _ rfl; (with_reducible repeat (first | refine blk_drewN ?_ _ | refine blk_drew ?_ | refine blk_alloc ?_ _)); refine blk_put (cs := #[.int .i64 0, .int .i64 0, .string (⟨#[]⟩ : ByteArray)]) ?_ 0 _ rfl; (with_reducible repeat (first | refine blk_drewN ?_ _ | refine blk_drew ?_ | refine blk_alloc ?_ _)); exact BK384.out) hb); have n1_ := Az (below_step (bB HB) hb); clear BK384; clear HB; have BK384 := n0_; have HB := n1_; clear n0_ n1_; (try clear hb); (try clear hb2); (try clear hk); (try clear hi)) | ((with_reducible refine gate_dst (N := 6) rfl ?_); refine box_event ?hg (N := 6) ?hd (cs := #[.int .i64 0, .int .i64 0, .string (⟨#[]⟩ : ByteArray)]) (t := 26) ?hr ?_; (case hd => rfl); (case hg => rfl); (case hr => first | (go_simp; done) | (go_simp; rfl)); intro gb389 hg w12 hbox hb; have n0_ := Az (blk_below (g := gb384) (o := .cells #[.int .i64 t380, .int .i64 t381, .string t382] 26 (0, 0)) (bA BK384) hb); have n1_ := Az (below_step (bB HB) hb); have n2_ := Az (hbox); have n3_ := Az ((by rw [hg]; exact (below_size (bB HB)) : w.heap.size ≤ gb389)); have n4_ := Az ((by rw [hg]; exact (below_size (bB HB)) : w.heap.size ≤ gb389)); have n5_ := Az ((by rw [hg]; exact Nat.ne_of_lt (blk_lt (g := gb384) (o := .cells #[.int .i64 t380, .int .i64 t381, .string t382] 26 (0, 0)) (bA BK384)) : gb384 ≠ gb389)); have n6_ := Az ((by rw [hg]; exact Nat.ne_of_gt (blk_lt (g := gb384) (o := .cells #[.int .i64 t380, .int .i64 t381, .string t382] 26 (0, 0)) (bA BK384)) : gb389 ≠ gb384)); clear BK384; clear HB; have BK384 := n0_; have HB := n1_; have BK389 := n2_; have GW389 := n3_; have GE389 := n4_; have NB384_389 := n5_; have NB389_384 := n6_; clear n0_ n1_ n2_ n3_ n4_ n5_ n6_; clear hb hbox hg; have hnb13 := NB389_384.out; have hnc13 := NB384_389.out; have hcz14_0 : w12.cell? ⟨gb389, 0, none⟩ = some (.int .i64 0) := (blk_cell BK389.out 0).trans rfl; have hcz14_1 : w12.cell? ⟨gb389, 1, none⟩ = some (.int .i64 0) := (blk_cell BK389.out 1).trans rfl; have hcz14_2 : w12.cell? ⟨gb389, 2, none⟩ = some (.string (⟨#[]⟩ : ByteArray)) := (blk_cell BK389.out 2).trans rfl; have hfz14_0 := blk_frozen BK389.out 0; have hfz14_1 := blk_frozen BK389.out 1; have hfz14_2 := blk_frozen BK389.out 2))
    (try simp only [Act.put, List.setIfInBounds_toArray, List.set_cons_zero, List.set_cons_succ])
    go_cut [32] (fun v32 wc => ∃ (kq : Nat) (x32_5 : Bool), v32 = .bool x32_5 ∧ Aside0 (laws_FnReadDeed.j0 kq t379 t383 x32_5 t380 t381 t382 = some r) ∧ Aside0 (kq ≤ k) ∧ Aside0 (wc.heap[gb384]? = some (.cells #[.int .i64 t380, .int .i64 t381, .string t382] 26 (0, 0))) ∧ Aside0 (wc.heap[gb389]? = some (.cells #[.int .i64 t385, .int .i64 t386, .string t387] 26 (0, 0))) ∧ Aside0 (Below w.heap.size w wc))
    case first =>
      have H := HC6.out
      clear HC6
      by_cases c15 : (!(t380 == t385) || (!(t381 == t386) || (!(t382.toList == t387.toList)))) = true
      · rw [if_pos c15] at H
        have c15b0 : (!(t380 == t385) || (!(t381 == t386) || (!(t382.toList == t387.toList)))) = true := c15
        clear c15
        (first | rw [c15b0] | (simp only [i64_w, i32_w]; rw [c15b0]) | skip)
        have H' := Aside0.mk H
        clear H
        have hnb16 := NB384_389.out
        have hnc16 := NB389_384.out
        have hcz17_0 : w12.cell? ⟨gb384, 0, none⟩ = some (.int .i64 t380) := (blk_cell BK384.out 0).trans rfl
        have hcz17_1 : w12.cell? ⟨gb384, 1, none⟩ = some (.int .i64 t381) := (blk_cell BK384.out 1).trans rfl
        have hcz17_2 : w12.cell? ⟨gb384, 2, none⟩ = some (.string t382) := (blk_cell BK384.out 2).trans rfl
        have hfz17_0 := blk_frozen BK384.out 0
        have hfz17_1 := blk_frozen BK384.out 1
        have hfz17_2 := blk_frozen BK384.out 2
        have hcz18_0 : w12.cell? ⟨gb389, 0, none⟩ = some (.int .i64 0) := (blk_cell BK389.out 0).trans rfl
        have hcz18_1 : w12.cell? ⟨gb389, 1, none⟩ = some (.int .i64 0) := (blk_cell BK389.out 1).trans rfl
        have hcz18_2 : w12.cell? ⟨gb389, 2, none⟩ = some (.string (⟨#[]⟩ : ByteArray)) := (blk_cell BK389.out 2).trans rfl
        have hfz18_0 := blk_frozen BK389.out 0
        have hfz18_1 := blk_frozen BK389.out 1
        have hfz18_2 := blk_frozen BK389.out 2
        go_wp2
        go_meet
        case rel => exact ⟨_, (true), mr, H', ⟨by first | omega | exact Nat.le_refl _⟩, ⟨by (with_reducible repeat (first | refine blk_drewN ?_ _ | refine blk_drew ?_ | refine blk_alloc ?_ _)); refine blk_far ?_ NB384_389.out _; (with_reducible repeat (first | refine blk_drewN ?_ _ | refine blk_drew ?_ | refine blk_alloc ?_ _)); refine blk_far ?_ NB384_389.out _; (with_reducible repeat (first | refine blk_drewN ?_ _ | refine blk_drew ?_ | refine blk_alloc ?_ _)); refine blk_far ?_ NB384_389.out _; (with_reducible repeat (first | refine blk_drewN ?_ _ | refine blk_drew ?_ | refine blk_alloc ?_ _)); exact BK384.out⟩, ⟨by (with_reducible repeat (first | refine blk_drewN ?_ _ | refine blk_drew ?_ | refine blk_alloc ?_ _)); refine blk_put (cs := #[.int .i64 t385, .int .i64 t386, .string (⟨#[]⟩ : ByteArray)]) ?_ 2 _ rfl; (with_reducible repeat (first | refine blk_drewN ?_ _ | refine blk_drew ?_ | refine blk_alloc ?_ _)); refine blk_put (cs := #[.int .i64 t385, .int .i64 0, .string (⟨#[]⟩ : ByteArray)]) ?_ 1 _ rfl; (with_reducible repeat (first | refine blk_drewN ?_ _ | refine blk_drew ?_ | refine blk_alloc ?_ _)); refine blk_put (cs := #[.int .i64 0, .int .i64 0, .string (⟨#[]⟩ : ByteArray)]) ?_ 0 _ rfl; (with_reducible repeat (first | refine blk_drewN ?_ _ | refine blk_drew ?_ | refine blk_alloc ?_ _)); exact BK389.out⟩, ⟨(bB HB)⟩⟩
      · rw [if_neg c15] at H
        have c15b0 : (!(t380 == t385) || (!(t381 == t386) || (!(t382.toList == t387.toList)))) = false := by simpa using c15
        clear c15
        (first | rw [c15b0] | (simp only [i64_w, i32_w]; rw [c15b0]) | skip)
        have H' := Aside0.mk H
        clear H
        have hnb19 := NB384_389.out
        have hnc19 := NB389_384.out
        have hcz20_0 : w12.cell? ⟨gb384, 0, none⟩ = some (.int .i64 t380) := (blk_cell BK384.out 0).trans rfl
        have hcz20_1 : w12.cell? ⟨gb384, 1, none⟩ = some (.int .i64 t381) := (blk_cell BK384.out 1).trans rfl
        have hcz20_2 : w12.cell? ⟨gb384, 2, none⟩ = some (.string t382) := (blk_cell BK384.out 2).trans rfl
        have hfz20_0 := blk_frozen BK384.out 0
        have hfz20_1 := blk_frozen BK384.out 1
        have hfz20_2 := blk_frozen BK384.out 2
        have hcz21_0 : w12.cell? ⟨gb389, 0, none⟩ = some (.int .i64 0) := (blk_cell BK389.out 0).trans rfl
        have hcz21_1 : w12.cell? ⟨gb389, 1, none⟩ = some (.int .i64 0) := (blk_cell BK389.out 1).trans rfl
        have hcz21_2 : w12.cell? ⟨gb389, 2, none⟩ = some (.string (⟨#[]⟩ : ByteArray)) := (blk_cell BK389.out 2).trans rfl
        have hfz21_0 := blk_frozen BK389.out 0
        have hfz21_1 := blk_frozen BK389.out 1
        have hfz21_2 := blk_frozen BK389.out 2
        go_wp2
        go_meet
        case rel => exact ⟨_, ((t383 != t388)), mr, H', ⟨by first | omega | exact Nat.le_refl _⟩, ⟨by (with_reducible repeat (first | refine blk_drewN ?_ _ | refine blk_drew ?_ | refine blk_alloc ?_ _)); refine blk_far ?_ NB384_389.out _; (with_reducible repeat (first | refine blk_drewN ?_ _ | refine blk_drew ?_ | refine blk_alloc ?_ _)); refine blk_far ?_ NB384_389.out _; (with_reducible repeat (first | refine blk_drewN ?_ _ | refine blk_drew ?_ | refine blk_alloc ?_ _)); refine blk_far ?_ NB384_389.out _; (with_reducible repeat (first | refine blk_drewN ?_ _ | refine blk_drew ?_ | refine blk_alloc ?_ _)); exact BK384.out⟩, ⟨by (with_reducible repeat (first | refine blk_drewN ?_ _ | refine blk_drew ?_ | refine blk_alloc ?_ _)); refine blk_put (cs := #[.int .i64 t385, .int .i64 t386, .string (⟨#[]⟩ : ByteArray)]) ?_ 2 _ rfl; (with_reducible repeat (first | refine blk_drewN ?_ _ | refine blk_drew ?_ | refine blk_alloc ?_ _)); refine blk_put (cs := #[.int .i64 t385, .int .i64 0, .string (⟨#[]⟩ : ByteArray)]) ?_ 1 _ rfl; (with_reducible repeat (first | refine blk_drewN ?_ _ | refine blk_drew ?_ | refine blk_alloc ?_ _)); refine blk_put (cs := #[.int .i64 0, .int .i64 0, .string (⟨#[]⟩ : ByteArray)]) ?_ 0 _ rfl; (with_reducible repeat (first | refine blk_drewN ?_ _ | refine blk_drew ?_ | refine blk_alloc ?_ _)); exact BK389.out⟩, ⟨(bB HB)⟩⟩
    case rest =>
      clear HC6
      try clear c2
      try clear c2b0
      try clear c2b1
      try clear hcz10_0
      try clear hcz10_1
      try clear hcz10_2
      try clear hcz14_0
      try clear hcz14_1
      try clear hcz14_2
      try clear hfz10_0
      try clear hfz10_1
      try clear hfz10_2
      try clear hfz14_0
      try clear hfz14_1
      try clear hfz14_2
      obtain ⟨kq, x32_5, rfl, HA, HJ5, BK384, BK389, HB⟩ := hcut
      cases kq with
      | zero => exact absurd HA.out (by simp [laws_FnReadDeed.j0])
      | succ kj5 =>
        have H := HA.out
        clear HA
        simp only [laws_FnReadDeed.j0] at H
        by_cases c22 : x32_5 = true
        · subst c22
          have H1 : (some false) = some r := by rw [if_pos rfl] at H; exact H
          clear H
          have H := H1
          clear H1
          exact absurd ((Option.some.inj H).trans HT_.out) (by simp)
        · replace c22 := Bool.eq_false_iff.mpr c22
          subst c22
          have H1 : (if t383 = true then (if t379.size + 1 ≤ 9223372036854775807 then ((impl_ReadDeed.f kj5 (t379 ++ (⟨#[10]⟩ : ByteArray))).bind fun bt390 => ((impl_DeedText.f kj5 t380 t381 t382).bind fun t395 => (if t395.toList = t379.toList then (some (!bt390.2.2.2)) else (some false)))) else (none)) else (if (t380 == 0 && (t381 == 0 && (t382.toList == ([] : List UInt8)))) = true then ((laws_alive.f).bind fun t396 => (some t396)) else (some false))) = some r := by rw [if_neg (show ¬ (false = true) by decide)] at H; exact H
          clear H
          have H := H1
          clear H1
          by_cases c23 : t383 = true
          · subst c23
            have H1 : (if t379.size + 1 ≤ 9223372036854775807 then ((impl_ReadDeed.f kj5 (t379 ++ (⟨#[10]⟩ : ByteArray))).bind fun bt390 => ((impl_DeedText.f kj5 t380 t381 t382).bind fun t395 => (if t395.toList = t379.toList then (some (!bt390.2.2.2)) else (some false)))) else (none)) = some r := by rw [if_pos rfl] at H; exact H
            clear H
            have H := H1
            clear H1
            by_cases c24 : t379.size + 1 ≤ 9223372036854775807
            · rw [if_pos c24] at H
              have c24b0 := eq_true c24
              have c24b1 : decide (t379.size + 1 ≤ 9223372036854775807) = true := decide_eq_true c24
              try have c24b2 : (9223372036854775807 < t379.size + 1) = False := eq_false (Nat.not_lt.2 c24)
              replace H := Option.bind_eq_some_iff.mp H
              obtain ⟨⟨t390, t391, t392, t393⟩, A250, H⟩ := H
              replace H : ((impl_DeedText.f kj5 t380 t381 t382).bind fun t395 => (if t395.toList = t379.toList then (some (!t393)) else (some false))) = some r := H
              have A25 := Aside0.mk A250
              clear A250
              replace H := Option.bind_eq_some_iff.mp H
              obtain ⟨t395, A260, H⟩ := H
              replace H : (if t395.toList = t379.toList then (some (!t393)) else (some false)) = some r := H
              have A26 := Aside0.mk A260
              clear A260
              by_cases c27 : t395.toList = t379.toList
              · rw [if_pos c27] at H
                have c27b0 : (t395.toList == t379.toList) = true := beq_iff_eq.mpr c27
                have c27b1 : (t395.toList != t379.toList) = false := bne_eq_false_iff_eq.mpr c27
                clear c27
                obtain rfl := Option.some.inj H
                go_wp2_with (first | ((with_reducible refine gate_callee (f := 20) rfl ?_); refine goesL_ (some 44) rfl rfl Tryd.func20 (by kernel_rfl) rfl #[.string (t379 ++ (⟨#[10]⟩ : ByteArray))] rfl gf ?_; (with_reducible refine (impl_ReadDeed.calls kj5 (t379 ++ (⟨#[10]⟩ : ByteArray)) t390 t391 t392 t393 _ A25.out).mono ?_); rintro e w28 ⟨rfl, hb⟩; refine ⟨_, rfl, ?_⟩; have n0_ := Az (blk_below (g := gb384) (o := .cells #[.int .i64 t380, .int .i64 t381, .string t382] 26 (0, 0)) (bA BK384) hb); have n1_ := Az (blk_below (g := gb389) (o := .cells #[.int .i64 t385, .int .i64 t386, .string t387] 26 (0, 0)) (bA BK389) hb); have n2_ := Az (below_step (bB HB) hb); clear BK384; clear BK389; clear HB; have BK384 := n0_; have BK389 := n1_; have HB := n2_; clear n0_ n1_ n2_; (try clear hb); (try clear hb2); (try clear hk); (try clear hi)) | ((with_reducible refine gate_dst (N := 8) rfl ?_); refine box_event ?hg (N := 8) ?hd (cs := #[.int .i64 0, .int .i64 0, .string (⟨#[]⟩ : ByteArray)]) (t := 26) ?hr ?_; (case hd => rfl); (case hg => rfl); (case hr => first | (go_simp; done) | (go_simp; rfl)); intro gb394 hg w29 hbox hb; have n0_ := Az (blk_below (g := gb384) (o := .cells #[.int .i64 t380, .int .i64 t381, .string t382] 26 (0, 0)) (bA BK384) hb); have n1_ := Az (blk_below (g := gb389) (o := .cells #[.int .i64 t385, .int .i64 t386, .string t387] 26 (0, 0)) (bA BK389) hb); have n2_ := Az (below_step (bB HB) hb); have n3_ := Az (hbox); have n4_ := Az ((by rw [hg]; exact (below_size (bB HB)) : w.heap.size ≤ gb394)); have n5_ := Az ((by rw [hg]; exact (below_size (bB HB)) : w.heap.size ≤ gb394)); have n6_ := Az ((by rw [hg]; exact Nat.ne_of_lt (blk_lt (g := gb384) (o := .cells #[.int .i64 t380, .int .i64 t381, .string t382] 26 (0, 0)) (bA BK384)) : gb384 ≠ gb394)); have n7_ := Az ((by rw [hg]; exact Nat.ne_of_gt (blk_lt (g := gb384) (o := .cells #[.int .i64 t380, .int .i64 t381, .string t382] 26 (0, 0)) (bA BK384)) : gb394 ≠ gb384)); have n8_ := Az ((by rw [hg]; exact Nat.ne_of_lt (blk_lt (g := gb389) (o := .cells #[.int .i64 t385, .int .i64 t386, .string t387] 26 (0, 0)) (bA BK389)) : gb389 ≠ gb394)); have n9_ := Az ((by rw [hg]; exact Nat.ne_of_gt (blk_lt (g := gb389) (o := .cells #[.int .i64 t385, .int .i64 t386, .string t387] 26 (0, 0)) (bA BK389)) : gb394 ≠ gb389)); clear BK384; clear BK389; clear HB; have BK384 := n0_; have BK389 := n1_; have HB := n2_; have BK394 := n3_; have GW394 := n4_; have GE394 := n5_; have NB384_394 := n6_; have NB394_384 := n7_; have NB389_394 := n8_; have NB394_389 := n9_; clear n0_ n1_ n2_ n3_ n4_ n5_ n6_ n7_ n8_ n9_; clear hb hbox hg; have hnb30 := NB394_384.out; have hnc30 := NB384_394.out; have hnb31 := NB394_389.out; have hnc31 := NB389_394.out; have hcz32_0 : w29.cell? ⟨gb394, 0, none⟩ = some (.int .i64 0) := (blk_cell BK394.out 0).trans rfl; have hcz32_1 : w29.cell? ⟨gb394, 1, none⟩ = some (.int .i64 0) := (blk_cell BK394.out 1).trans rfl; have hcz32_2 : w29.cell? ⟨gb394, 2, none⟩ = some (.string (⟨#[]⟩ : ByteArray)) := (blk_cell BK394.out 2).trans rfl; have hfz32_0 := blk_frozen BK394.out 0; have hfz32_1 := blk_frozen BK394.out 1; have hfz32_2 := blk_frozen BK394.out 2; have hnb33 := NB384_389.out; have hnc33 := NB389_384.out; have hcz34_0 : w29.cell? ⟨gb384, 0, none⟩ = some (.int .i64 t380) := (blk_cell BK384.out 0).trans rfl; have hcz34_1 : w29.cell? ⟨gb384, 1, none⟩ = some (.int .i64 t381) := (blk_cell BK384.out 1).trans rfl; have hcz34_2 : w29.cell? ⟨gb384, 2, none⟩ = some (.string t382) := (blk_cell BK384.out 2).trans rfl; have hfz34_0 := blk_frozen BK384.out 0; have hfz34_1 := blk_frozen BK384.out 1; have hfz34_2 := blk_frozen BK384.out 2) | ((with_reducible refine gate_callee (f := 13) rfl ?_); refine goesL_ (some 48) rfl rfl Tryd.func13 (by kernel_rfl) rfl #[.agg #[.int .i64 t380, .int .i64 t381, .string t382]] rfl gf ?_; (with_reducible refine (impl_DeedText.calls kj5 t380 t381 t382 t395 _ A26.out).mono ?_); rintro e w35 ⟨rfl, hb⟩; refine ⟨_, rfl, ?_⟩; have n0_ := Az (blk_below (g := gb384) (o := .cells #[.int .i64 t380, .int .i64 t381, .string t382] 26 (0, 0)) (by (with_reducible repeat (first | refine blk_drewN ?_ _ | refine blk_drew ?_ | refine blk_alloc ?_ _)); refine blk_far ?_ NB384_394.out _; (with_reducible repeat (first | refine blk_drewN ?_ _ | refine blk_drew ?_ | refine blk_alloc ?_ _)); refine blk_far ?_ NB384_394.out _; (with_reducible repeat (first | refine blk_drewN ?_ _ | refine blk_drew ?_ | refine blk_alloc ?_ _)); refine blk_far ?_ NB384_394.out _; (with_reducible repeat (first | refine blk_drewN ?_ _ | refine blk_drew ?_ | refine blk_alloc ?_ _)); exact BK384.out) hb); have n1_ := Az (blk_below (g := gb389) (o := .cells #[.int .i64 t385, .int .i64 t386, .string t387] 26 (0, 0)) (by (with_reducible repeat (first | refine blk_drewN ?_ _ | refine blk_drew ?_ | refine blk_alloc ?_ _)); refine blk_far ?_ NB389_394.out _; (with_reducible repeat (first | refine blk_drewN ?_ _ | refine blk_drew ?_ | refine blk_alloc ?_ _)); refine blk_far ?_ NB389_394.out _; (with_reducible repeat (first | refine blk_drewN ?_ _ | refine blk_drew ?_ | refine blk_alloc ?_ _)); refine blk_far ?_ NB389_394.out _; (with_reducible repeat (first | refine blk_drewN ?_ _ | refine blk_drew ?_ | refine blk_alloc ?_ _)); exact BK389.out) hb); have n2_ := Az (blk_below (g := gb394) (o := .cells #[.int .i64 t390, .int .i64 t391, .string t392] 26 (0, 0)) (by (with_reducible repeat (first | refine blk_drewN ?_ _ | refine blk_drew ?_ | refine blk_alloc ?_ _)); refine blk_put (cs := #[.int .i64 t390, .int .i64 t391, .string (⟨#[]⟩ : ByteArray)]) ?_ 2 _ rfl; (with_reducible repeat (first | refine blk_drewN ?_ _ | refine blk_drew ?_ | refine blk_alloc ?_ _)); refine blk_put (cs := #[.int .i64 t390, .int .i64 0, .string (⟨#[]⟩ : ByteArray)]) ?_ 1 _ rfl; (with_reducible repeat (first | refine blk_drewN ?_ _ | refine blk_drew ?_ | refine blk_alloc ?_ _)); refine blk_put (cs := #[.int .i64 0, .int .i64 0, .string (⟨#[]⟩ : ByteArray)]) ?_ 0 _ rfl; (with_reducible repeat (first | refine blk_drewN ?_ _ | refine blk_drew ?_ | refine blk_alloc ?_ _)); exact BK394.out) hb); have n3_ := Az (below_step (bB HB) hb); clear BK384; clear BK389; clear BK394; clear HB; have BK384 := n0_; have BK389 := n1_; have BK394 := n2_; have HB := n3_; clear n0_ n1_ n2_ n3_; (try clear hb); (try clear hb2); (try clear hk); (try clear hi)))
                go_ret
                exact ⟨rt, (bB HB)⟩
              · rw [if_neg c27] at H
                have c27b0 : (t395.toList == t379.toList) = false := beq_eq_false_iff_ne.mpr c27
                have c27b1 : (t395.toList != t379.toList) = true := bne_iff_ne.mpr c27
                obtain rfl := Option.some.inj H
                go_wp2_with (first | ((with_reducible refine gate_callee (f := 20) rfl ?_); refine goesL_ (some 44) rfl rfl Tryd.func20 (by kernel_rfl) rfl #[.string (t379 ++ (⟨#[10]⟩ : ByteArray))] rfl gf ?_; (with_reducible refine (impl_ReadDeed.calls kj5 (t379 ++ (⟨#[10]⟩ : ByteArray)) t390 t391 t392 t393 _ A25.out).mono ?_); rintro e w36 ⟨rfl, hb⟩; refine ⟨_, rfl, ?_⟩; have n0_ := Az (blk_below (g := gb384) (o := .cells #[.int .i64 t380, .int .i64 t381, .string t382] 26 (0, 0)) (bA BK384) hb); have n1_ := Az (blk_below (g := gb389) (o := .cells #[.int .i64 t385, .int .i64 t386, .string t387] 26 (0, 0)) (bA BK389) hb); have n2_ := Az (below_step (bB HB) hb); clear BK384; clear BK389; clear HB; have BK384 := n0_; have BK389 := n1_; have HB := n2_; clear n0_ n1_ n2_; (try clear hb); (try clear hb2); (try clear hk); (try clear hi)) | ((with_reducible refine gate_dst (N := 8) rfl ?_); refine box_event ?hg (N := 8) ?hd (cs := #[.int .i64 0, .int .i64 0, .string (⟨#[]⟩ : ByteArray)]) (t := 26) ?hr ?_; (case hd => rfl); (case hg => rfl); (case hr => first | (go_simp; done) | (go_simp; rfl)); intro gb394 hg w37 hbox hb; have n0_ := Az (blk_below (g := gb384) (o := .cells #[.int .i64 t380, .int .i64 t381, .string t382] 26 (0, 0)) (bA BK384) hb); have n1_ := Az (blk_below (g := gb389) (o := .cells #[.int .i64 t385, .int .i64 t386, .string t387] 26 (0, 0)) (bA BK389) hb); have n2_ := Az (below_step (bB HB) hb); have n3_ := Az (hbox); have n4_ := Az ((by rw [hg]; exact (below_size (bB HB)) : w.heap.size ≤ gb394)); have n5_ := Az ((by rw [hg]; exact (below_size (bB HB)) : w.heap.size ≤ gb394)); have n6_ := Az ((by rw [hg]; exact Nat.ne_of_lt (blk_lt (g := gb384) (o := .cells #[.int .i64 t380, .int .i64 t381, .string t382] 26 (0, 0)) (bA BK384)) : gb384 ≠ gb394)); have n7_ := Az ((by rw [hg]; exact Nat.ne_of_gt (blk_lt (g := gb384) (o := .cells #[.int .i64 t380, .int .i64 t381, .string t382] 26 (0, 0)) (bA BK384)) : gb394 ≠ gb384)); have n8_ := Az ((by rw [hg]; exact Nat.ne_of_lt (blk_lt (g := gb389) (o := .cells #[.int .i64 t385, .int .i64 t386, .string t387] 26 (0, 0)) (bA BK389)) : gb389 ≠ gb394)); have n9_ := Az ((by rw [hg]; exact Nat.ne_of_gt (blk_lt (g := gb389) (o := .cells #[.int .i64 t385, .int .i64 t386, .string t387] 26 (0, 0)) (bA BK389)) : gb394 ≠ gb389)); clear BK384; clear BK389; clear HB; have BK384 := n0_; have BK389 := n1_; have HB := n2_; have BK394 := n3_; have GW394 := n4_; have GE394 := n5_; have NB384_394 := n6_; have NB394_384 := n7_; have NB389_394 := n8_; have NB394_389 := n9_; clear n0_ n1_ n2_ n3_ n4_ n5_ n6_ n7_ n8_ n9_; clear hb hbox hg; have hnb38 := NB394_384.out; have hnc38 := NB384_394.out; have hnb39 := NB394_389.out; have hnc39 := NB389_394.out; have hcz40_0 : w37.cell? ⟨gb394, 0, none⟩ = some (.int .i64 0) := (blk_cell BK394.out 0).trans rfl; have hcz40_1 : w37.cell? ⟨gb394, 1, none⟩ = some (.int .i64 0) := (blk_cell BK394.out 1).trans rfl; have hcz40_2 : w37.cell? ⟨gb394, 2, none⟩ = some (.string (⟨#[]⟩ : ByteArray)) := (blk_cell BK394.out 2).trans rfl; have hfz40_0 := blk_frozen BK394.out 0; have hfz40_1 := blk_frozen BK394.out 1; have hfz40_2 := blk_frozen BK394.out 2; have hnb41 := NB384_389.out; have hnc41 := NB389_384.out; have hcz42_0 : w37.cell? ⟨gb384, 0, none⟩ = some (.int .i64 t380) := (blk_cell BK384.out 0).trans rfl; have hcz42_1 : w37.cell? ⟨gb384, 1, none⟩ = some (.int .i64 t381) := (blk_cell BK384.out 1).trans rfl; have hcz42_2 : w37.cell? ⟨gb384, 2, none⟩ = some (.string t382) := (blk_cell BK384.out 2).trans rfl; have hfz42_0 := blk_frozen BK384.out 0; have hfz42_1 := blk_frozen BK384.out 1; have hfz42_2 := blk_frozen BK384.out 2) | ((with_reducible refine gate_callee (f := 13) rfl ?_); refine goesL_ (some 48) rfl rfl Tryd.func13 (by kernel_rfl) rfl #[.agg #[.int .i64 t380, .int .i64 t381, .string t382]] rfl gf ?_; (with_reducible refine (impl_DeedText.calls kj5 t380 t381 t382 t395 _ A26.out).mono ?_); rintro e w43 ⟨rfl, hb⟩; refine ⟨_, rfl, ?_⟩; have n0_ := Az (blk_below (g := gb384) (o := .cells #[.int .i64 t380, .int .i64 t381, .string t382] 26 (0, 0)) (by (with_reducible repeat (first | refine blk_drewN ?_ _ | refine blk_drew ?_ | refine blk_alloc ?_ _)); refine blk_far ?_ NB384_394.out _; (with_reducible repeat (first | refine blk_drewN ?_ _ | refine blk_drew ?_ | refine blk_alloc ?_ _)); refine blk_far ?_ NB384_394.out _; (with_reducible repeat (first | refine blk_drewN ?_ _ | refine blk_drew ?_ | refine blk_alloc ?_ _)); refine blk_far ?_ NB384_394.out _; (with_reducible repeat (first | refine blk_drewN ?_ _ | refine blk_drew ?_ | refine blk_alloc ?_ _)); exact BK384.out) hb); have n1_ := Az (blk_below (g := gb389) (o := .cells #[.int .i64 t385, .int .i64 t386, .string t387] 26 (0, 0)) (by (with_reducible repeat (first | refine blk_drewN ?_ _ | refine blk_drew ?_ | refine blk_alloc ?_ _)); refine blk_far ?_ NB389_394.out _; (with_reducible repeat (first | refine blk_drewN ?_ _ | refine blk_drew ?_ | refine blk_alloc ?_ _)); refine blk_far ?_ NB389_394.out _; (with_reducible repeat (first | refine blk_drewN ?_ _ | refine blk_drew ?_ | refine blk_alloc ?_ _)); refine blk_far ?_ NB389_394.out _; (with_reducible repeat (first | refine blk_drewN ?_ _ | refine blk_drew ?_ | refine blk_alloc ?_ _)); exact BK389.out) hb); have n2_ := Az (blk_below (g := gb394) (o := .cells #[.int .i64 t390, .int .i64 t391, .string t392] 26 (0, 0)) (by (with_reducible repeat (first | refine blk_drewN ?_ _ | refine blk_drew ?_ | refine blk_alloc ?_ _)); refine blk_put (cs := #[.int .i64 t390, .int .i64 t391, .string (⟨#[]⟩ : ByteArray)]) ?_ 2 _ rfl; (with_reducible repeat (first | refine blk_drewN ?_ _ | refine blk_drew ?_ | refine blk_alloc ?_ _)); refine blk_put (cs := #[.int .i64 t390, .int .i64 0, .string (⟨#[]⟩ : ByteArray)]) ?_ 1 _ rfl; (with_reducible repeat (first | refine blk_drewN ?_ _ | refine blk_drew ?_ | refine blk_alloc ?_ _)); refine blk_put (cs := #[.int .i64 0, .int .i64 0, .string (⟨#[]⟩ : ByteArray)]) ?_ 0 _ rfl; (with_reducible repeat (first | refine blk_drewN ?_ _ | refine blk_drew ?_ | refine blk_alloc ?_ _)); exact BK394.out) hb); have n3_ := Az (below_step (bB HB) hb); clear BK384; clear BK389; clear BK394; clear HB; have BK384 := n0_; have BK389 := n1_; have BK394 := n2_; have HB := n3_; clear n0_ n1_ n2_ n3_; (try clear hb); (try clear hb2); (try clear hk); (try clear hi)))
                go_ret
                exact ⟨rt, (bB HB)⟩
            · rw [if_neg c24] at H
              exact absurd H (by simp)
          · replace c23 := Bool.eq_false_iff.mpr c23
            subst c23
            have H1 : (if (t380 == 0 && (t381 == 0 && (t382.toList == ([] : List UInt8)))) = true then ((laws_alive.f).bind fun t396 => (some t396)) else (some false)) = some r := by rw [if_neg (show ¬ (false = true) by decide)] at H; exact H
            clear H
            have H := H1
            clear H1
            by_cases c44 : (t380 == 0 && (t381 == 0 && (t382.toList == ([] : List UInt8)))) = true
            · rw [if_pos c44] at H
              have c44b0 : (t380 == 0 && (t381 == 0 && (t382.toList == ([] : List UInt8)))) = true := c44
              (try (have c44b9 : (t380 == 0 && (t381 == 0 && t382.toList.isEmpty)) = true := by have h_ := c44b0; simpa using h_))
              (try (have c44b1 : decide (t380 = 0 && (t381 == 0 && (t382.toList == ([] : List UInt8)))) = true := by simpa using c44))
              (try (have c44b2 : (t380 == 0 && (t381 == 0 && (t382.toList == ([] : List UInt8)))) = true := by simpa using c44))
              clear c44
              replace H := Option.bind_eq_some_iff.mp H
              obtain ⟨t396, A450, H⟩ := H
              replace H : (some t396) = some r := H
              have A45 := Aside0.mk A450
              clear A450
              obtain rfl := Option.some.inj H
              have hnb46 := NB384_389.out
              have hnc46 := NB389_384.out
              have hcz47_0 : wc.cell? ⟨gb384, 0, none⟩ = some (.int .i64 t380) := (blk_cell BK384.out 0).trans rfl
              have hcz47_1 : wc.cell? ⟨gb384, 1, none⟩ = some (.int .i64 t381) := (blk_cell BK384.out 1).trans rfl
              have hcz47_2 : wc.cell? ⟨gb384, 2, none⟩ = some (.string t382) := (blk_cell BK384.out 2).trans rfl
              have hfz47_0 := blk_frozen BK384.out 0
              have hfz47_1 := blk_frozen BK384.out 1
              have hfz47_2 := blk_frozen BK384.out 2
              go_wp2_with (first | (go_at_call 27; (with_reducible refine (laws_alive.calls  t396 _ A45.out).mono ?_); rintro e w' ⟨rfl, ⟨nd, rfl⟩⟩))
              go_ret
              exact ⟨rt, (bB HB)⟩
            · rw [if_neg c44] at H
              have c44b0 : (t380 == 0 && (t381 == 0 && (t382.toList == ([] : List UInt8)))) = false := by simpa using c44
              (try (have c44b9 : (t380 == 0 && (t381 == 0 && t382.toList.isEmpty)) = false := by have h_ := c44b0; simpa using h_))
              (try (have c44b1 : decide (t380 = 0 && (t381 == 0 && (t382.toList == ([] : List UInt8)))) = false := by simpa using c44))
              (try (have c44b2 : (t380 == 0 && (t381 == 0 && (t382.toList == ([] : List UInt8)))) = false := by simpa using c44))
              (try (have c44b3 : ¬ (t380 = 0 && (t381 == 0 && (t382.toList == ([] : List UInt8)))) := by simpa using c44))
              clear c44
              obtain rfl := Option.some.inj H
              have hnb48 := NB384_389.out
              have hnc48 := NB389_384.out
              have hcz49_0 : wc.cell? ⟨gb384, 0, none⟩ = some (.int .i64 t380) := (blk_cell BK384.out 0).trans rfl
              have hcz49_1 : wc.cell? ⟨gb384, 1, none⟩ = some (.int .i64 t381) := (blk_cell BK384.out 1).trans rfl
              have hcz49_2 : wc.cell? ⟨gb384, 2, none⟩ = some (.string t382) := (blk_cell BK384.out 2).trans rfl
              have hfz49_0 := blk_frozen BK384.out 0
              have hfz49_1 := blk_frozen BK384.out 1
              have hfz49_2 := blk_frozen BK384.out 2
              go_wp2
              go_ret
              exact ⟨rt, (bB HB)⟩

def laws_FnReadDeed.Pure : Prop := ∀ (l0 : List Int), l0.length ≤ maxLen → l0.length * 1 ≤ 140737488351232 → (∀ x ∈ l0, (Lit.int .u8 x).wf = true) → ∃ k, laws_FnReadDeed.f k l0 = some true
theorem laws_FnReadDeed.walk (P : laws_FnReadDeed.Pure) (a0 : Option Addr) (len0 cap0 : Nat) (z0 : List Int) (w : World) (w0 : (a0 = none ∧ len0 = 0 ∧ cap0 = 0 ∧ z0 = []) ∨ ∃ x, a0 = some x ∧ len0 ≤ cap0 ∧ cap0 ≤ maxLen ∧ z0.length = cap0 ∧ (∀ i, i < z0.length → w.cell? (x.add i) = some (.int .u8 (z0.getD i 0))) ∧ ∀ n ∈ z0, (Lit.int .u8 n).wf = true) (y0 : len0 * 1 ≤ 140737488351232) :
    Calls Tryd.prog 8 #[.slice a0 len0 cap0] w fun e w' => e = .returned (.bool true) ∧ Below w.heap.size w w' := by
  obtain ⟨l0, rfl, hr0, hm0, hw0, hc0⟩ := ReadsInt.ofRowC w0
  obtain ⟨k, h⟩ := P l0 hm0 y0 hw0
  refine (laws_FnReadDeed.calls k _ _ l0 true w (Kd.C_of_reads (d := (0 : Int)) (h1 := fun _ => rfl) hr0) hc0 h rfl).mono ?_
  rintro e w' ⟨rfl, hd⟩
  exact ⟨rfl, hd⟩

end Go.Proofs.YtnnaiaiddjkjnaaDoor.PFnReadDeed
