-- Written by a program of this session (wip/patch_print.py, over the kit's print) and not by hand; Lean checks every word.
import Derived.Test.YtfjfdnododnepaaPFnReplacedInxb
import Derived.Test.YtfjfdnododnepaaPFnReplacedInx0
import Derived.Test.YtfjfdnododnepaaPFnReplacedInx3
import Derived.Test.YtfjfdnododnepaaPFnReplacedInx4
namespace Go.Proofs.Ytfjfdnododnepaa.PFnReplacedIn
open Go.RowKit Go.Proofs.YtfjfdnododnepaaW.PrintWords Go.Proofs.YtfjfdnododnepaaW.PrintLast Go.Proofs.YtfjfdnododnepaaW.PrintMore
attribute [local go_sem] max2_int min2_int max_two min_two max_three min_three max_four min_four   -- for this text's walks alone
set_option linter.unusedVariables false
set_option linter.unusedSimpArgs false

/-! ### spec_NamedTriangle: function 46 -/
mutual
def spec_NamedTriangle.l0 : Nat → ByteArray → List ByteArray → Int → Option (List Int × Bool)
  | 0, _, _, _ => none
  | k + 1, x0, x4, x5 => if x5 < (x4.length : Int) then (if 0 ≤ x5 then (if x0.toList = (rdOf ByteArray.empty x4 x5).toList then ((some (([0, 1, 2, 3, 4] : List Int) : List Int)).bind fun y160 => (if x5 < (y160.length : Int) then ((some (([0, 1, 0, 0, 0] : List Int) : List Int)).bind fun y164 => (if x5 < (y164.length : Int) then ((spec_l1Made.f k (rd y160 x5) (rd y164 x5)).bind fun t168 => (some (t168, true))) else (none))) else (none))) else (spec_NamedTriangle.l0 k x0 x4 (wrap64 (x5 + 1)))) else (none)) else (spec_NamedTriangle.l1 k x0 0)
def spec_NamedTriangle.l1 : Nat → ByteArray → Int → Option (List Int × Bool)
  | 0, _, _ => none
  | k + 1, x0, x6 => if x6 ≤ 5 then ((spec_l1Number.f k x6).bind fun t174 => (if 7 + t174.size ≤ 9223372036854775807 then (if x0.toList = ((⟨#[97, 116, 108, 101, 97, 115, 116]⟩ : ByteArray) ++ t174).toList then (spec_NamedTriangle.j2 k x0 x6 t174 (decide (x6 > 0))) else (spec_NamedTriangle.j2 k x0 x6 t174 false)) else (none))) else (some ((([] : List Int)), false))
def spec_NamedTriangle.j2 : Nat → ByteArray → Int → ByteArray → Bool → Option (List Int × Bool)
  | 0, _, _, _, _ => none
  | k + 1, x0, x6, x7, x36 => if x36 = true then ((spec_l1Made.f k 1 x6).bind fun t175 => (some (t175, true))) else (if 4 + x7.size ≤ 9223372036854775807 then (if x0.toList = ((⟨#[106, 117, 115, 116]⟩ : ByteArray) ++ x7).toList then ((spec_l1Made.f k 2 x6).bind fun t178 => (some (t178, true))) else (if 6 + x7.size ≤ 9223372036854775807 then (if x0.toList = ((⟨#[97, 108, 108, 98, 117, 116]⟩ : ByteArray) ++ x7).toList then ((spec_l1Made.f k 5 x6).bind fun t181 => (some (t181, true))) else (spec_NamedTriangle.l1 k x0 (wrap64 (x6 + 1)))) else (none))) else (none))
end
def spec_NamedTriangle.f (k : Nat) (a0 : ByteArray) : Option (List Int × Bool) := spec_NamedTriangle.l0 k a0 (([(⟨#[101, 118, 101, 114, 121]⟩ : ByteArray), (⟨#[115, 111, 109, 101]⟩ : ByteArray), (⟨#[110, 111]⟩ : ByteArray), (⟨#[109, 111, 115, 116]⟩ : ByteArray), (⟨#[101, 118, 101, 110]⟩ : ByteArray)] : List ByteArray)) 0
theorem spec_NamedTriangle.mono_l : ∀ k, (∀ y0 y1 y2, LeO (spec_NamedTriangle.l0 k y0 y1 y2) (spec_NamedTriangle.l0 (k + 1) y0 y1 y2)) ∧ (∀ y0 y1, LeO (spec_NamedTriangle.l1 k y0 y1) (spec_NamedTriangle.l1 (k + 1) y0 y1)) ∧ (∀ y0 y1 y2 y3, LeO (spec_NamedTriangle.j2 k y0 y1 y2 y3) (spec_NamedTriangle.j2 (k + 1) y0 y1 y2 y3))
  | 0 => ⟨fun _ _ _ r h => by simp [spec_NamedTriangle.l0] at h, fun _ _ r h => by simp [spec_NamedTriangle.l1] at h, fun _ _ _ _ r h => by simp [spec_NamedTriangle.j2] at h⟩
  | k + 1 => by
    obtain ⟨ih0, ih1, ih2⟩ := spec_NamedTriangle.mono_l k
    refine ⟨?_, ?_, ?_⟩
    · intro y0 y1 y2
      unfold spec_NamedTriangle.l0
      repeat' first
      | (with_reducible exact ih0 _ _ _)
      | (with_reducible exact ih1 _ _)
      | (with_reducible exact ih2 _ _ _ _)
      | (with_reducible exact spec_l1Made.mono _ _ _)
      | (with_reducible exact spec_l1Number.mono _ _)
      | (with_reducible exact LeO.refl _)
      | (with_reducible exact LeO.none _)
      | (with_reducible refine LeO.ite ?_ ?_)
      | (with_reducible refine LeO.bind ?_ (fun _ => ?_))
      | exact ih0 _ _ _
      | exact ih1 _ _
      | exact ih2 _ _ _ _
      | exact spec_l1Made.mono _ _ _
      | exact spec_l1Number.mono _ _
      | exact LeO.none _
      | refine LeO.ite ?_ ?_
      | refine LeO.bind ?_ (fun _ => ?_)
    · intro y0 y1
      unfold spec_NamedTriangle.l1
      repeat' first
      | (with_reducible exact ih0 _ _ _)
      | (with_reducible exact ih1 _ _)
      | (with_reducible exact ih2 _ _ _ _)
      | (with_reducible exact spec_l1Made.mono _ _ _)
      | (with_reducible exact spec_l1Number.mono _ _)
      | (with_reducible exact LeO.refl _)
      | (with_reducible exact LeO.none _)
      | (with_reducible refine LeO.ite ?_ ?_)
      | (with_reducible refine LeO.bind ?_ (fun _ => ?_))
      | exact ih0 _ _ _
      | exact ih1 _ _
      | exact ih2 _ _ _ _
      | exact spec_l1Made.mono _ _ _
      | exact spec_l1Number.mono _ _
      | exact LeO.none _
      | refine LeO.ite ?_ ?_
      | refine LeO.bind ?_ (fun _ => ?_)
    · intro y0 y1 y2 y3
      unfold spec_NamedTriangle.j2
      repeat' first
      | (with_reducible exact ih0 _ _ _)
      | (with_reducible exact ih1 _ _)
      | (with_reducible exact ih2 _ _ _ _)
      | (with_reducible exact spec_l1Made.mono _ _ _)
      | (with_reducible exact spec_l1Number.mono _ _)
      | (with_reducible exact LeO.refl _)
      | (with_reducible exact LeO.none _)
      | (with_reducible refine LeO.ite ?_ ?_)
      | (with_reducible refine LeO.bind ?_ (fun _ => ?_))
      | exact ih0 _ _ _
      | exact ih1 _ _
      | exact ih2 _ _ _ _
      | exact spec_l1Made.mono _ _ _
      | exact spec_l1Number.mono _ _
      | exact LeO.none _
      | refine LeO.ite ?_ ?_
      | refine LeO.bind ?_ (fun _ => ?_)
theorem spec_NamedTriangle.mono : ∀ a0 k, LeO (spec_NamedTriangle.f k a0) (spec_NamedTriangle.f (k + 1) a0) := by
  intro a0 k
  obtain ⟨ih0, ih1, ih2⟩ := spec_NamedTriangle.mono_l k
  unfold spec_NamedTriangle.f
  repeat' first
      | (with_reducible exact ih0 _ _ _)
      | (with_reducible exact ih1 _ _)
      | (with_reducible exact ih2 _ _ _ _)
      | (with_reducible exact spec_l1Made.mono _ _ _)
      | (with_reducible exact spec_l1Number.mono _ _)
      | (with_reducible exact LeO.refl _)
      | (with_reducible exact LeO.none _)
      | (with_reducible refine LeO.ite ?_ ?_)
      | (with_reducible refine LeO.bind ?_ (fun _ => ?_))
      | exact ih0 _ _ _
      | exact ih1 _ _
      | exact ih2 _ _ _ _
      | exact spec_l1Made.mono _ _ _
      | exact spec_l1Number.mono _ _
      | exact LeO.none _
      | refine LeO.ite ?_ ?_
      | refine LeO.bind ?_ (fun _ => ?_)
def spec_NamedTriangle.T6 : Bool × List (List Nat × List Nat) := (true, [([], []), ([], []), ([0, 1], [0, 1]), ([2], [2]), ([], []), ([], []), ([4, 5], [4, 5]), ([6], [6]), ([3, 7], [3, 7]), ([8, 8, 0, 1, 2, 3, 4, 5, 6, 7, 8], [8]), ([9, 0, 1, 2, 3, 4, 5, 6, 7, 8, 9], [])])
def spec_NamedTriangle.B6 : List Nat := [0, 0, 3, 7, 0, 0, 48, 112, 255, 511, 1023]
theorem spec_NamedTriangle.tab6 : rtab .any (opsOf Try.f46 6) = spec_NamedTriangle.T6 := by kernel_rfl
theorem spec_NamedTriangle.bits6 : waitsOk spec_NamedTriangle.T6.2 spec_NamedTriangle.B6 = true := by kernel_rfl
set_option maxHeartbeats 8000000 in
set_option maxRecDepth 100000 in
theorem spec_NamedTriangle.calls (k : Nat) (a0 : ByteArray) (r1 : List Int) (r2 : Bool) (w : World) (h : spec_NamedTriangle.f k a0 = some (r1, r2)) :
    Calls Try.prog 46 #[.string a0] w fun e w' => ∃ v0_ : Value, e = .returned (.tuple #[v0_, .bool r2]) ∧ Kd.R (Kd.int .i64) 3 w' w.heap.size (fun _ => True) v0_ r1 ∧ Below w.heap.size w w' := by
  have HB := Az (Below.refl w.heap.size w)
  have H : (spec_NamedTriangle.l0 k a0 (([(⟨#[101, 118, 101, 114, 121]⟩ : ByteArray), (⟨#[115, 111, 109, 101]⟩ : ByteArray), (⟨#[110, 111]⟩ : ByteArray), (⟨#[109, 111, 115, 116]⟩ : ByteArray), (⟨#[101, 118, 101, 110]⟩ : ByteArray)] : List ByteArray)) 0) = some (r1, r2) := h
  clear h
  obtain ⟨y156, hy156⟩ : ∃ y_ : List ByteArray, y_ = (([(⟨#[101, 118, 101, 114, 121]⟩ : ByteArray), (⟨#[115, 111, 109, 101]⟩ : ByteArray), (⟨#[110, 111]⟩ : ByteArray), (⟨#[109, 111, 115, 116]⟩ : ByteArray), (⟨#[101, 118, 101, 110]⟩ : ByteArray)] : List ByteArray)) := ⟨_, rfl⟩
  replace H : (spec_NamedTriangle.l0 k a0 y156 0) = some (r1, r2) := by first | (rw [hy156]; with_reducible exact H) | (have H2_ := (Option.bind_some _ _).symm.trans H; rw [hy156]; with_reducible exact H2_) | (have H2_ := (Option.bind_some _ _).symm.trans H; with_reducible exact H2_) | with_reducible exact H | (rw [hy156]; exact H) | exact H
  have Ny156 := Aside0.mk hy156
  clear hy156
  have H' := Aside0.mk H
  clear H
  go_enter Try.func46, Try.ntmps46
  go_wp2_with (first | ((with_reducible refine gate_dst (N := 8) rfl ?_); refine Kd.R_lit Kd.string _ 9 ?hg (N := 8) ?hd (xs := ([(⟨#[101, 118, 101, 114, 121]⟩ : ByteArray), (⟨#[115, 111, 109, 101]⟩ : ByteArray), (⟨#[110, 111]⟩ : ByteArray), (⟨#[109, 111, 115, 116]⟩ : ByteArray), (⟨#[101, 118, 101, 110]⟩ : ByteArray)] : List ByteArray)) (inner := [.string (⟨#[101, 118, 101, 114, 121]⟩ : ByteArray), .string (⟨#[115, 111, 109, 101]⟩ : ByteArray), .string (⟨#[110, 111]⟩ : ByteArray), .string (⟨#[109, 111, 115, 116]⟩ : ByteArray), .string (⟨#[101, 118, 101, 110]⟩ : ByteArray)]) (ok := fun _ => True) (okp := fun _ => True) ?hr ?hp (fun _ hk => hk) trivial (Below.refl _ _) (Nat.le_refl _) (by simp) ?_; (case hd => rfl); (case hg => rfl); (case hr => first | (go_simp; done) | (go_simp; rfl)); (case hp => exact (Reps.one (show Kd.M Kd.string _ _ _ (⟨#[101, 118, 101, 114, 121]⟩ : ByteArray) [.string (⟨#[101, 118, 101, 114, 121]⟩ : ByteArray)] from rfl) (Reps.one (show Kd.M Kd.string _ _ _ (⟨#[115, 111, 109, 101]⟩ : ByteArray) [.string (⟨#[115, 111, 109, 101]⟩ : ByteArray)] from rfl) (Reps.one (show Kd.M Kd.string _ _ _ (⟨#[110, 111]⟩ : ByteArray) [.string (⟨#[110, 111]⟩ : ByteArray)] from rfl) (Reps.one (show Kd.M Kd.string _ _ _ (⟨#[109, 111, 115, 116]⟩ : ByteArray) [.string (⟨#[109, 111, 115, 116]⟩ : ByteArray)] from rfl) (Reps.one (show Kd.M Kd.string _ _ _ (⟨#[101, 118, 101, 110]⟩ : ByteArray) [.string (⟨#[101, 118, 101, 110]⟩ : ByteArray)] from rfl) (Reps.none _ _))))))); intro v157 w2 ho3 hb hg_ hnew_; clear hg_ hnew_; (first | rw [← Ny156.out] at ho3 | (simp only [Int.reduceToNat] at ho3; rw [← Ny156.out] at ho3)); have n0_ := Az (Kd.R_lower ho3 (below_size (cB HB))); have n1_ := Az (below_step (cB HB) hb); clear HB; have HO158 := n0_; have HB := n1_; clear n0_ n1_; clear hb ho3))
  go_loopg [5] k (fun kq v5 w' => ∃ (x5_1 : Int), v5 = .int .i64 x5_1 ∧ Aside0 (spec_NamedTriangle.l0 kq a0 y156 x5_1 = some (r1, r2)) ∧ Aside0 (kq ≤ k) ∧ Aside0 (Kd.R Kd.string 9 w' w.heap.size (fun _ => True) v157 y156) ∧ Aside0 (Below w.heap.size w w'))
  case atStart => exact ⟨(0), mr, H', ⟨Nat.le_refl _⟩, ⟨by (with_reducible repeat (first | apply Kd.R_alloc | apply Kd.R_drewN | apply Kd.R_drew)); exact HO158.out⟩, ⟨(cB HB)⟩⟩
  case round =>
    clear H'
    obtain ⟨x5_1, rfl, HA, HK1, HO_4, HB⟩ := hrel
    cases gk with
    | zero => exact absurd HA.out (by simp [spec_NamedTriangle.l0])
    | succ k1 =>
      have H := HA.out
      clear HA
      simp only [spec_NamedTriangle.l0] at H
      by_cases c4 : x5_1 < (y156.length : Int)
      · rw [if_pos c4] at H
        have c4b0 : decide (x5_1 < (y156.length : Int)) = true := decide_eq_true c4
        clear c4
        by_cases c5 : 0 ≤ x5_1
        · rw [if_pos c5] at H
          have c5b0 : decide (0 ≤ x5_1) = true := decide_eq_true c5
          clear c5
          by_cases c6 : a0.toList = (rdOf ByteArray.empty y156 x5_1).toList
          · rw [if_pos c6] at H
            have c6b0 : (a0.toList == (rdOf ByteArray.empty y156 x5_1).toList) = true := beq_iff_eq.mpr c6
            have c6b1 : (a0.toList != (rdOf ByteArray.empty y156 x5_1).toList) = false := bne_eq_false_iff_eq.mpr c6
            clear c6
            obtain ⟨y160, hy160⟩ : ∃ y_ : List Int, y_ = (([0, 1, 2, 3, 4] : List Int)) := ⟨_, rfl⟩
            replace H : (if x5_1 < (y160.length : Int) then ((some (([0, 1, 0, 0, 0] : List Int) : List Int)).bind fun y164 => (if x5_1 < (y164.length : Int) then ((spec_l1Made.f k1 (rd y160 x5_1) (rd y164 x5_1)).bind fun t168 => (some (t168, true))) else (none))) else (none)) = some (r1, r2) := by first | (rw [hy160]; with_reducible exact H) | (have H2_ := (Option.bind_some _ _).symm.trans H; rw [hy160]; with_reducible exact H2_) | (have H2_ := (Option.bind_some _ _).symm.trans H; with_reducible exact H2_) | with_reducible exact H | (rw [hy160]; exact H) | exact H
            have Ny160 := Aside0.mk hy160
            clear hy160
            by_cases c7 : x5_1 < (y160.length : Int)
            · rw [if_pos c7] at H
              have c7b0 : decide (x5_1 < (y160.length : Int)) = true := decide_eq_true c7
              clear c7
              obtain ⟨y164, hy164⟩ : ∃ y_ : List Int, y_ = (([0, 1, 0, 0, 0] : List Int)) := ⟨_, rfl⟩
              replace H : (if x5_1 < (y164.length : Int) then ((spec_l1Made.f k1 (rd y160 x5_1) (rd y164 x5_1)).bind fun t168 => (some (t168, true))) else (none)) = some (r1, r2) := by first | (rw [hy164]; with_reducible exact H) | (have H2_ := (Option.bind_some _ _).symm.trans H; rw [hy164]; with_reducible exact H2_) | (have H2_ := (Option.bind_some _ _).symm.trans H; with_reducible exact H2_) | with_reducible exact H | (rw [hy164]; exact H) | exact H
              have Ny164 := Aside0.mk hy164
              clear hy164
              by_cases c8 : x5_1 < (y164.length : Int)
              · rw [if_pos c8] at H
                have c8b0 : decide (x5_1 < (y164.length : Int)) = true := decide_eq_true c8
                clear c8
                replace H := Option.bind_eq_some_iff.mp H
                obtain ⟨t168, A90, H⟩ := H
                replace H : (some (t168, true)) = some (r1, r2) := H
                have A9 := Aside0.mk A90
                clear A90
                simp only [Option.some.injEq, Prod.mk.injEq] at H
                obtain ⟨rfl, rfl⟩ := H
                obtain ⟨Ao10, co10, eo10⟩ := Kd.R_slice HO_4.out
                subst eo10
                have p159 : 0 ≤ (x5_1 : Int) := of_decide_eq_true fa
                have q159 : x5_1 < (y156.length : Int) := of_decide_eq_true fa
                obtain ⟨ad159, e159, hx159_0⟩ := Kd.at_string (Kd.R_reads' HO_4.out).2.2 x5_1 p159 q159
                cases e159
                replace p159 := eq_true p159
                replace q159 := eq_true q159
                try go_wp2
                have pi163 : (0 ≤ (x5_1 : Int)) = True := eq_true (of_decide_eq_true fa)
                have qi163 : (x5_1 < (y160.length : Int)) = True := eq_true (of_decide_eq_true fa)
                have pi167 : (0 ≤ (x5_1 : Int)) = True := eq_true (of_decide_eq_true fa)
                have qi167 : (x5_1 < (y164.length : Int)) = True := eq_true (of_decide_eq_true fa)
                have n0_ := Az (Kd.R_drew HO_4.out)
                have n1_ := Az (below_drew1 HB.out)
                clear HO_4
                clear HB
                have HO_4 := n0_
                have HB := n1_
                clear n0_ n1_
                refine start_ (n := 11) (S := fun w' => True) (ds := []) #[false, false, false, false, false, false, false, false, false, false, false] (by kernel_rfl) rfl rfl trivial (fun hHeld => ?_); refine with_tabW spec_NamedTriangle.tab6 spec_NamedTriangle.bits6 (fun HT_ HW_ => ?_)
                generalize wr.drew = w11 at HO_4 HB hHeld ⊢
                refine pure_ (i := 1) (N := some 22) (v := ?_) (a' := ?_) #[false, true, false, false, false, false, false, false, false, false, false] rfl rfl (any_of HT_.out (by kernel_rfl)) (fun _ _ _ h => h) (Or.inl ⟨by rfl, ?_⟩) ?_ ?_
                rotate_left
                · intro w'
                  go_simp
                  with_reducible rfl
                rotate_left
                · simp only [Act.put, List.setIfInBounds_toArray, List.set_cons_zero, List.set_cons_succ, i64_w, i32_w]
                  rfl
                refine pure_ (i := 5) (N := some 26) (v := ?_) (a' := ?_) #[false, true, false, false, false, true, false, false, false, false, false] rfl rfl (any_of HT_.out (by kernel_rfl)) (fun _ _ _ h => h) (Or.inl ⟨by rfl, ?_⟩) ?_ ?_
                rotate_left
                · intro w'
                  go_simp
                  with_reducible rfl
                rotate_left
                · simp only [Act.put, List.setIfInBounds_toArray, List.set_cons_zero, List.set_cons_succ, i64_w, i32_w]
                  rfl
                refine inv_at [0, 2, 3, 4, 6, 7, 8, 9, 10] (fun a0_ b a w' => ∃ (v161 : Value) (adz_v161 : Addr) (v165 : Value) (adz_v165 : Addr) (v169 : Value) (m2_ : Value) (m6_ : Value) (m9_ : Value), a = putSel a0_ b [(0, 21, v161), (2, 23, m2_), (3, 24, .int .i64 (rd y160 x5_1)), (4, 25, v165), (6, 27, m6_), (7, 28, .int .i64 (rd y164 x5_1)), (8, 29, v169), (9, 2, m9_), (10, 3, .bool true)] ∧ (Kd.R Kd.string 9 w' w.heap.size (fun _ => True) (.slice (some ad159) y156.length co10) y156) ∧ (Below w.heap.size w w') ∧ (b 0 = true → Kd.R (Kd.int .i64) 3 w' w.heap.size (fun _ => True) v161 y160) ∧ (b 0 = true → ∃ c_, (v161 : Value) = .slice (some adz_v161) y160.length c_) ∧ (b 4 = true → Kd.R (Kd.int .i64) 3 w' w.heap.size (fun _ => True) v165 y164) ∧ (b 4 = true → ∃ c_, (v165 : Value) = .slice (some adz_v165) y164.length c_) ∧ (b 8 = true → Kd.R (Kd.int .i64) 3 w' w.heap.size (fun _ => True) v169 t168) ∧ (b 2 = true → (m2_ : Value) = .pointer (some (adz_v161.add (x5_1).toNat))) ∧ (b 6 = true → (m6_ : Value) = .pointer (some (adz_v165.add (x5_1).toNat))) ∧ (b 9 = true → (m9_ : Value) = v169)) HT_.out HW_.out (by kernel_rfl) (by kernel_rfl) ?_ ?_ ?_
                · exact ⟨.bool false, ⟨0, 0, none⟩, .bool false, ⟨0, 0, none⟩, .bool false, .bool false, .bool false, .bool false, by simp only [putSel, Bool.false_eq_true, if_false], HO_4.out, HB.out, fun h_ => absurd h_ (by decide), fun h_ => absurd h_ (by decide), fun h_ => absurd h_ (by decide), fun h_ => absurd h_ (by decide), fun h_ => absurd h_ (by decide), fun h_ => absurd h_ (by decide), fun h_ => absurd h_ (by decide), fun h_ => absurd h_ (by decide)⟩
                · skip
                  clear HB HO_4
                  refine steps_cons ?_ ?_
                  · rintro b a w' ⟨v161, adz_v161, v165, adz_v165, v169, m2_, m6_, m9_, ha, Q_HO_4, Q_HB, Q_HO162, Q_HA_HO162, Q_HO166, Q_HA_HO166, Q_HO170, Q_X2_, Q_X6_, Q_X9_⟩ hb_ hon hoff
                    refine ⟨_, rfl, fun K hK => ?_⟩
                    replace ha := Aside0.mk ha
                    have HO_4 := Aside0.mk Q_HO_4
                    have HB := Aside0.mk Q_HB
                    refine Kd.R_lit_step (Kd.int .i64) _ 3 ?hg (N := 21) ?hd (xs := ([0, 1, 2, 3, 4] : List Int)) (inner := [.int .i64 0, .int .i64 1, .int .i64 2, .int .i64 3, .int .i64 4]) (ok := fun _ => True) (okp := fun _ => True) ?hr ?hp (fun _ hk => hk) trivial (Below.refl _ _) (Nat.le_refl _) (by simp) ?_; (case hd => rfl); (case hg => rfl); (case hr => first | (go_simp; done) | (go_simp; rfl)); (case hp => exact (Reps.one (show Kd.M (Kd.int .i64) _ _ _ 0 [.int .i64 0] from rfl) (Reps.one (show Kd.M (Kd.int .i64) _ _ _ 1 [.int .i64 1] from rfl) (Reps.one (show Kd.M (Kd.int .i64) _ _ _ 2 [.int .i64 2] from rfl) (Reps.one (show Kd.M (Kd.int .i64) _ _ _ 3 [.int .i64 3] from rfl) (Reps.one (show Kd.M (Kd.int .i64) _ _ _ 4 [.int .i64 4] from rfl) (Reps.none _ _)))))))
                    intro v161 w12 ho13 hb hg_ hnew_
                    clear hg_ hnew_
                    (first | rw [← Ny160.out] at ho13 | (simp only [Int.reduceToNat] at ho13; rw [← Ny160.out] at ho13))
                    have n0_ := Az (Kd.R_below (dR (HO_4.out)) hb)
                    have n1_ := Az (Kd.R_lower ho13 (below_size (cB HB)))
                    have n2_ := Az (below_step (cB HB) hb)
                    have z_HO166 := fun (h0_ : b 4 = true) => (show Kd.R (Kd.int .i64) 3 w12 w.heap.size (fun _ => True) v165 y164 from by first | exact (Kd.R_elder' (dR ((Q_HO166 h0_))) (Kd.R_base ho13) hb) | exact Kd.R_mono (Kd.R_elder' (dR ((Q_HO166 h0_))) (Kd.R_base ho13) hb) (fun _ h_ => by first | trivial | exact h_ | exact h_.1))
                    clear HO_4
                    clear HB
                    have HO_4 := n0_
                    have HO162 := n1_
                    have HB := n2_
                    clear n0_ n1_ n2_
                    clear hb ho13
                    obtain ⟨Ao14, co14, eo14⟩ := Kd.R_slice HO162.out
                    subst eo14
                    obtain ⟨ado14, fo14, _⟩ := Kd.at_int (Kd.R_reads' HO162.out).2.2 0 (by decide) (by rw [Ny160.out]; simp)
                    cases fo14
                    refine hK.out _ _ ⟨.slice (some ado14) y160.length co14, ado14, v165, adz_v165, v169, m2_, m6_, m9_, (by rw [ha.out]; exact putSel_upk 0 hb_ rfl rfl rfl), (dR (HO_4.out)), (by repeat (first | (with_reducible first | exact HB.out | apply below_alloc | apply pw_below_drewN | apply below_drew1) | exact HB.out)), fun _ => (by (with_reducible repeat (first | apply Kd.R_alloc | apply Kd.R_drewN | apply Kd.R_drew)); (first | exact HO162.out | exact Kd.R_mono HO162.out (fun _ _ => trivial))), fun _ => ⟨_, rfl⟩, z_HO166, Q_HA_HO166, fun h0_ => absurd ((hoff 8 (by kernel_rfl)).symm.trans h0_) (by decide), fun h0_ => absurd ((hoff 2 (by kernel_rfl)).symm.trans h0_) (by decide), Q_X6_, fun h0_ => absurd ((hoff 9 (by kernel_rfl)).symm.trans h0_) (by decide)⟩
                  refine steps_cons ?_ ?_
                  · rintro b a w' ⟨v161, adz_v161, v165, adz_v165, v169, m2_, m6_, m9_, ha, Q_HO_4, Q_HB, Q_HO162, Q_HA_HO162, Q_HO166, Q_HA_HO166, Q_HO170, Q_X2_, Q_X6_, Q_X9_⟩ hb_ hon hoff
                    refine ⟨_, rfl, fun K hK => ?_⟩
                    have e21 : a.tmps[21]? = some (v161) := by rw [ha]; exact putSel_on (e := (0, 21, v161)) 0 rfl rfl (hon 0 (by kernel_rfl)) rfl
                    have e22 : a.tmps[22]? = some (.int .i64 x5_1) := by rw [ha]; exact (putSel_off rfl).trans rfl
                    replace ha := Aside0.mk ha
                    have HO_4 := Aside0.mk Q_HO_4
                    have HB := Aside0.mk Q_HB
                    have HO162 := Az (Q_HO162 (hon 0 (by kernel_rfl)))
                    have HA_HO162 := Az (Q_HA_HO162 (hon 0 (by kernel_rfl)))
                    obtain ⟨c_, hv_⟩ := HA_HO162.out
                    rw [hv_] at e21
                    refine value_ (w1 := w') (v := .pointer (some (adz_v161.add (x5_1).toNat))) (by rfl) rfl ?_ ?_
                    · go_simp
                      (try simp only [i64_w])
                      try rfl
                      try (simp only [ByteArray.size_extract, eq_iff_iff, iff_true, iff_false, decide_eq_true_eq] at *; omega)
                    refine hK.out _ _ ⟨v161, adz_v161, v165, adz_v165, v169, (.pointer (some (adz_v161.add (x5_1).toNat))), m6_, m9_, (by rw [ha.out]; exact putSel_upk 1 hb_ rfl rfl rfl), Q_HO_4, Q_HB, Q_HO162, Q_HA_HO162, Q_HO166, Q_HA_HO166, fun h0_ => absurd ((hoff 8 (by kernel_rfl)).symm.trans h0_) (by decide), fun _ => rfl, Q_X6_, fun h0_ => absurd ((hoff 9 (by kernel_rfl)).symm.trans h0_) (by decide)⟩
                  refine steps_cons ?_ ?_
                  · rintro b a w' ⟨v161, adz_v161, v165, adz_v165, v169, m2_, m6_, m9_, ha, Q_HO_4, Q_HB, Q_HO162, Q_HA_HO162, Q_HO166, Q_HA_HO166, Q_HO170, Q_X2_, Q_X6_, Q_X9_⟩ hb_ hon hoff
                    refine ⟨_, rfl, fun K hK => ?_⟩
                    have e23 : a.tmps[23]? = some (m2_) := by rw [ha]; exact putSel_on (e := (2, 23, m2_)) 1 rfl rfl (hon 2 (by kernel_rfl)) rfl
                    rw [Q_X2_ (hon 2 (by kernel_rfl))] at e23
                    replace ha := Aside0.mk ha
                    have HO_4 := Aside0.mk Q_HO_4
                    have HB := Aside0.mk Q_HB
                    have HO162 := Az (Q_HO162 (hon 0 (by kernel_rfl)))
                    have HA_HO162 := Az (Q_HA_HO162 (hon 0 (by kernel_rfl)))
                    obtain ⟨c_, hv_⟩ := HA_HO162.out
                    have hF_ := HO162.out
                    rw [hv_] at hF_
                    obtain ⟨ad_, ea_, hx_⟩ := Kd.at_int (Kd.R_reads' hF_).2.2 x5_1 (of_eq_true pi163) (of_eq_true qi163)
                    cases ea_
                    refine value_ (w1 := w') (v := .int .i64 (rd y160 x5_1)) (by rfl) rfl ?_ ?_
                    · go_simp
                      (try simp only [i64_w])
                      try rfl
                      try (simp only [ByteArray.size_extract, eq_iff_iff, iff_true, iff_false, decide_eq_true_eq] at *; omega)
                    refine hK.out _ _ ⟨v161, adz_v161, v165, adz_v165, v169, m2_, m6_, m9_, (by rw [ha.out]; exact putSel_upk 2 hb_ rfl rfl rfl), Q_HO_4, Q_HB, Q_HO162, Q_HA_HO162, Q_HO166, Q_HA_HO166, fun h0_ => absurd ((hoff 8 (by kernel_rfl)).symm.trans h0_) (by decide), Q_X2_, Q_X6_, fun h0_ => absurd ((hoff 9 (by kernel_rfl)).symm.trans h0_) (by decide)⟩
                  refine steps_cons ?_ ?_
                  · rintro b a w' ⟨v161, adz_v161, v165, adz_v165, v169, m2_, m6_, m9_, ha, Q_HO_4, Q_HB, Q_HO162, Q_HA_HO162, Q_HO166, Q_HA_HO166, Q_HO170, Q_X2_, Q_X6_, Q_X9_⟩ hb_ hon hoff
                    refine ⟨_, rfl, fun K hK => ?_⟩
                    replace ha := Aside0.mk ha
                    have HO_4 := Aside0.mk Q_HO_4
                    have HB := Aside0.mk Q_HB
                    refine Kd.R_lit_step (Kd.int .i64) _ 3 ?hg (N := 25) ?hd (xs := ([0, 1, 0, 0, 0] : List Int)) (inner := [.int .i64 0, .int .i64 1, .int .i64 0, .int .i64 0, .int .i64 0]) (ok := fun _ => True) (okp := fun _ => True) ?hr ?hp (fun _ hk => hk) trivial (Below.refl _ _) (Nat.le_refl _) (by simp) ?_; (case hd => rfl); (case hg => rfl); (case hr => first | (go_simp; done) | (go_simp; rfl)); (case hp => exact (Reps.one (show Kd.M (Kd.int .i64) _ _ _ 0 [.int .i64 0] from rfl) (Reps.one (show Kd.M (Kd.int .i64) _ _ _ 1 [.int .i64 1] from rfl) (Reps.one (show Kd.M (Kd.int .i64) _ _ _ 0 [.int .i64 0] from rfl) (Reps.one (show Kd.M (Kd.int .i64) _ _ _ 0 [.int .i64 0] from rfl) (Reps.one (show Kd.M (Kd.int .i64) _ _ _ 0 [.int .i64 0] from rfl) (Reps.none _ _)))))))
                    intro v165 w12 ho13 hb hg_ hnew_
                    clear hg_ hnew_
                    (first | rw [← Ny164.out] at ho13 | (simp only [Int.reduceToNat] at ho13; rw [← Ny164.out] at ho13))
                    have n0_ := Az (Kd.R_below (dR (HO_4.out)) hb)
                    have n1_ := Az (Kd.R_lower ho13 (below_size (cB HB)))
                    have n2_ := Az (below_step (cB HB) hb)
                    have z_HO162 := fun (h0_ : b 0 = true) => (show Kd.R (Kd.int .i64) 3 w12 w.heap.size (fun _ => True) v161 y160 from by first | exact (Kd.R_elder' (dR ((Q_HO162 h0_))) (Kd.R_base ho13) hb) | exact Kd.R_mono (Kd.R_elder' (dR ((Q_HO162 h0_))) (Kd.R_base ho13) hb) (fun _ h_ => by first | trivial | exact h_ | exact h_.1))
                    clear HO_4
                    clear HB
                    have HO_4 := n0_
                    have HO166 := n1_
                    have HB := n2_
                    clear n0_ n1_ n2_
                    clear hb ho13
                    obtain ⟨Ao14, co14, eo14⟩ := Kd.R_slice HO166.out
                    subst eo14
                    obtain ⟨ado14, fo14, _⟩ := Kd.at_int (Kd.R_reads' HO166.out).2.2 0 (by decide) (by rw [Ny164.out]; simp)
                    cases fo14
                    refine hK.out _ _ ⟨v161, adz_v161, .slice (some ado14) y164.length co14, ado14, v169, m2_, m6_, m9_, (by rw [ha.out]; exact putSel_upk 3 hb_ rfl rfl rfl), (dR (HO_4.out)), (by repeat (first | (with_reducible first | exact HB.out | apply below_alloc | apply pw_below_drewN | apply below_drew1) | exact HB.out)), z_HO162, Q_HA_HO162, fun _ => (by (with_reducible repeat (first | apply Kd.R_alloc | apply Kd.R_drewN | apply Kd.R_drew)); (first | exact HO166.out | exact Kd.R_mono HO166.out (fun _ _ => trivial))), fun _ => ⟨_, rfl⟩, fun h0_ => absurd ((hoff 8 (by kernel_rfl)).symm.trans h0_) (by decide), Q_X2_, fun h0_ => absurd ((hoff 6 (by kernel_rfl)).symm.trans h0_) (by decide), fun h0_ => absurd ((hoff 9 (by kernel_rfl)).symm.trans h0_) (by decide)⟩
                  refine steps_cons ?_ ?_
                  · rintro b a w' ⟨v161, adz_v161, v165, adz_v165, v169, m2_, m6_, m9_, ha, Q_HO_4, Q_HB, Q_HO162, Q_HA_HO162, Q_HO166, Q_HA_HO166, Q_HO170, Q_X2_, Q_X6_, Q_X9_⟩ hb_ hon hoff
                    refine ⟨_, rfl, fun K hK => ?_⟩
                    have e25 : a.tmps[25]? = some (v165) := by rw [ha]; exact putSel_on (e := (4, 25, v165)) 3 rfl rfl (hon 4 (by kernel_rfl)) rfl
                    have e26 : a.tmps[26]? = some (.int .i64 x5_1) := by rw [ha]; exact (putSel_off rfl).trans rfl
                    replace ha := Aside0.mk ha
                    have HO_4 := Aside0.mk Q_HO_4
                    have HB := Aside0.mk Q_HB
                    have HO166 := Az (Q_HO166 (hon 4 (by kernel_rfl)))
                    have HA_HO166 := Az (Q_HA_HO166 (hon 4 (by kernel_rfl)))
                    obtain ⟨c_, hv_⟩ := HA_HO166.out
                    rw [hv_] at e25
                    refine value_ (w1 := w') (v := .pointer (some (adz_v165.add (x5_1).toNat))) (by rfl) rfl ?_ ?_
                    · go_simp
                      (try simp only [i64_w])
                      try rfl
                      try (simp only [ByteArray.size_extract, eq_iff_iff, iff_true, iff_false, decide_eq_true_eq] at *; omega)
                    refine hK.out _ _ ⟨v161, adz_v161, v165, adz_v165, v169, m2_, (.pointer (some (adz_v165.add (x5_1).toNat))), m9_, (by rw [ha.out]; exact putSel_upk 4 hb_ rfl rfl rfl), Q_HO_4, Q_HB, Q_HO162, Q_HA_HO162, Q_HO166, Q_HA_HO166, fun h0_ => absurd ((hoff 8 (by kernel_rfl)).symm.trans h0_) (by decide), Q_X2_, fun _ => rfl, fun h0_ => absurd ((hoff 9 (by kernel_rfl)).symm.trans h0_) (by decide)⟩
                  refine steps_cons ?_ ?_
                  · rintro b a w' ⟨v161, adz_v161, v165, adz_v165, v169, m2_, m6_, m9_, ha, Q_HO_4, Q_HB, Q_HO162, Q_HA_HO162, Q_HO166, Q_HA_HO166, Q_HO170, Q_X2_, Q_X6_, Q_X9_⟩ hb_ hon hoff
                    refine ⟨_, rfl, fun K hK => ?_⟩
                    have e27 : a.tmps[27]? = some (m6_) := by rw [ha]; exact putSel_on (e := (6, 27, m6_)) 4 rfl rfl (hon 6 (by kernel_rfl)) rfl
                    rw [Q_X6_ (hon 6 (by kernel_rfl))] at e27
                    replace ha := Aside0.mk ha
                    have HO_4 := Aside0.mk Q_HO_4
                    have HB := Aside0.mk Q_HB
                    have HO166 := Az (Q_HO166 (hon 4 (by kernel_rfl)))
                    have HA_HO166 := Az (Q_HA_HO166 (hon 4 (by kernel_rfl)))
                    obtain ⟨c_, hv_⟩ := HA_HO166.out
                    have hF_ := HO166.out
                    rw [hv_] at hF_
                    obtain ⟨ad_, ea_, hx_⟩ := Kd.at_int (Kd.R_reads' hF_).2.2 x5_1 (of_eq_true pi167) (of_eq_true qi167)
                    cases ea_
                    refine value_ (w1 := w') (v := .int .i64 (rd y164 x5_1)) (by rfl) rfl ?_ ?_
                    · go_simp
                      (try simp only [i64_w])
                      try rfl
                      try (simp only [ByteArray.size_extract, eq_iff_iff, iff_true, iff_false, decide_eq_true_eq] at *; omega)
                    refine hK.out _ _ ⟨v161, adz_v161, v165, adz_v165, v169, m2_, m6_, m9_, (by rw [ha.out]; exact putSel_upk 5 hb_ rfl rfl rfl), Q_HO_4, Q_HB, Q_HO162, Q_HA_HO162, Q_HO166, Q_HA_HO166, fun h0_ => absurd ((hoff 8 (by kernel_rfl)).symm.trans h0_) (by decide), Q_X2_, Q_X6_, fun h0_ => absurd ((hoff 9 (by kernel_rfl)).symm.trans h0_) (by decide)⟩
                  refine steps_cons ?_ ?_
                  · rintro b a w' ⟨v161, adz_v161, v165, adz_v165, v169, m2_, m6_, m9_, ha, Q_HO_4, Q_HB, Q_HO162, Q_HA_HO162, Q_HO166, Q_HA_HO166, Q_HO170, Q_X2_, Q_X6_, Q_X9_⟩ hb_ hon hoff
                    refine ⟨_, rfl, fun K hK => ?_⟩
                    have e24 : a.tmps[24]? = some (.int .i64 (rd y160 x5_1)) := by rw [ha]; exact putSel_on (e := (3, 24, .int .i64 (rd y160 x5_1))) 2 rfl rfl (hon 3 (by kernel_rfl)) rfl
                    have e28 : a.tmps[28]? = some (.int .i64 (rd y164 x5_1)) := by rw [ha]; exact putSel_on (e := (7, 28, .int .i64 (rd y164 x5_1))) 5 rfl rfl (hon 7 (by kernel_rfl)) rfl
                    replace ha := Aside0.mk ha
                    have HO_4 := Aside0.mk Q_HO_4
                    have HB := Aside0.mk Q_HB
                    have HO162 := Az (Q_HO162 (hon 0 (by kernel_rfl)))
                    have HA_HO162 := Az (Q_HA_HO162 (hon 0 (by kernel_rfl)))
                    have HO166 := Az (Q_HO166 (hon 4 (by kernel_rfl)))
                    have HA_HO166 := Az (Q_HA_HO166 (hon 4 (by kernel_rfl)))
                    obtain ⟨co19, eo19⟩ := HA_HO162.out
                    clear HA_HO162
                    subst eo19
                    obtain ⟨co20, eo20⟩ := HA_HO166.out
                    clear HA_HO166
                    subst eo20
                    refine goes_ Try.func64 (by kernel_rfl) rfl #[.int .i64 (rd y160 x5_1), .int .i64 (rd y164 x5_1)] (by rfl) rfl rfl (by first | (simp only [List.map_toArray, List.map_cons, List.map_nil, Act.eval, Array.getD_eq_getD_getElem?, Option.getD_some, e24, e28]; done) | (simp only [List.map_toArray, List.map_cons, List.map_nil, Act.eval, Array.getD_eq_getD_getElem?, Option.getD_some, e24, e28]; rfl)) ?_
                    with_reducible refine (spec_l1Made.calls k1 (rd y160 x5_1) (rd y164 x5_1) t168 _ A9.out).mono ?_
                    rintro e w21 ⟨v169, rfl, ho0, hb⟩
                    refine ⟨_, rfl, ?_⟩
                    have n0_ := Az (Kd.R_below (dR (HO_4.out)) hb)
                    have n1_ := Az (Kd.R_elder' (by (with_reducible repeat (first | apply Kd.R_alloc | apply Kd.R_drewN | apply Kd.R_drew)); (first | exact HO162.out | exact Kd.R_mono HO162.out (fun _ _ => trivial))) (Kd.R_base ho0) hb)
                    have n2_ := Az (Kd.R_elder' (by (with_reducible repeat (first | apply Kd.R_alloc | apply Kd.R_drewN | apply Kd.R_drew)); (first | exact HO166.out | exact Kd.R_mono HO166.out (fun _ _ => trivial))) (Kd.R_base ho0) hb)
                    have n3_ := Az (Kd.R_lower (Kd.R_new' (Kd.R_new' ho0 (Kd.R_lt (by (with_reducible repeat (first | apply Kd.R_alloc | apply Kd.R_drewN | apply Kd.R_drew)); (first | exact HO162.out | exact Kd.R_mono HO162.out (fun _ _ => trivial))))) (Kd.R_lt (by (with_reducible repeat (first | apply Kd.R_alloc | apply Kd.R_drewN | apply Kd.R_drew)); (first | exact HO166.out | exact Kd.R_mono HO166.out (fun _ _ => trivial))))) (below_size (cB HB)))
                    have n4_ := Az (below_step (cB HB) hb)
                    clear HO_4
                    clear HO162
                    clear HO166
                    clear HB
                    have HO_4 := n0_
                    have HO162 := n1_
                    have HO166 := n2_
                    have HO170 := n3_
                    have HB := n4_
                    clear n0_ n1_ n2_ n3_ n4_
                    (try clear hb)
                    (try clear hb2)
                    (try clear hk)
                    (try clear hi)
                    (try clear ho0)
                    refine hK.out _ _ ⟨.slice (some adz_v161) y160.length co19, adz_v161, .slice (some adz_v165) y164.length co20, adz_v165, v169, m2_, m6_, m9_, (by rw [ha.out]; exact putSel_upk 6 hb_ rfl rfl rfl), (dR (HO_4.out)), (by repeat (first | (with_reducible first | exact HB.out | apply below_alloc | apply pw_below_drewN | apply below_drew1) | exact HB.out)), fun _ => (by (with_reducible repeat (first | apply Kd.R_alloc | apply Kd.R_drewN | apply Kd.R_drew)); (first | exact HO162.out | exact Kd.R_mono HO162.out (fun _ _ => trivial))), fun _ => ⟨_, rfl⟩, fun _ => (by (with_reducible repeat (first | apply Kd.R_alloc | apply Kd.R_drewN | apply Kd.R_drew)); (first | exact HO166.out | exact Kd.R_mono HO166.out (fun _ _ => trivial))), fun _ => ⟨_, rfl⟩, fun _ => (by (with_reducible repeat (first | apply Kd.R_alloc | apply Kd.R_drewN | apply Kd.R_drew)); (first | exact Kd.R_mono HO170.out (fun _ hk => ⟨hk.1.2, hk.2⟩) | exact Kd.R_mono HO170.out (fun _ _ => trivial))), Q_X2_, Q_X6_, fun h0_ => absurd ((hoff 9 (by kernel_rfl)).symm.trans h0_) (by decide)⟩
                  refine steps_cons ?_ ?_
                  · rintro b a w' ⟨v161, adz_v161, v165, adz_v165, v169, m2_, m6_, m9_, ha, Q_HO_4, Q_HB, Q_HO162, Q_HA_HO162, Q_HO166, Q_HA_HO166, Q_HO170, Q_X2_, Q_X6_, Q_X9_⟩ hb_ hon hoff
                    refine ⟨_, rfl, fun K hK => ?_⟩
                    have e29 : a.tmps[29]? = some (v169) := by rw [ha]; exact putSel_on (e := (8, 29, v169)) 6 rfl rfl (hon 8 (by kernel_rfl)) rfl
                    replace ha := Aside0.mk ha
                    have HO_4 := Aside0.mk Q_HO_4
                    have HB := Aside0.mk Q_HB
                    have HO162 := Az (Q_HO162 (hon 0 (by kernel_rfl)))
                    have HA_HO162 := Az (Q_HA_HO162 (hon 0 (by kernel_rfl)))
                    have HO166 := Az (Q_HO166 (hon 4 (by kernel_rfl)))
                    have HA_HO166 := Az (Q_HA_HO166 (hon 4 (by kernel_rfl)))
                    have HO170 := Az (Q_HO170 (hon 8 (by kernel_rfl)))
                    refine value_ (w1 := w') (v := v169) (by rfl) rfl ?_ ?_
                    · go_simp
                      (try simp only [i64_w])
                      try rfl
                      try (simp only [ByteArray.size_extract, eq_iff_iff, iff_true, iff_false, decide_eq_true_eq] at *; omega)
                    refine hK.out _ _ ⟨v161, adz_v161, v165, adz_v165, v169, m2_, m6_, (v169), (by rw [ha.out]; exact putSel_upk 7 hb_ rfl rfl rfl), Q_HO_4, Q_HB, Q_HO162, Q_HA_HO162, Q_HO166, Q_HA_HO166, Q_HO170, Q_X2_, Q_X6_, fun _ => rfl⟩
                  refine steps_cons ?_ ?_
                  · rintro b a w' ⟨v161, adz_v161, v165, adz_v165, v169, m2_, m6_, m9_, ha, Q_HO_4, Q_HB, Q_HO162, Q_HA_HO162, Q_HO166, Q_HA_HO166, Q_HO170, Q_X2_, Q_X6_, Q_X9_⟩ hb_ hon hoff
                    refine ⟨_, rfl, fun K hK => ?_⟩
                    replace ha := Aside0.mk ha
                    have HO_4 := Aside0.mk Q_HO_4
                    have HB := Aside0.mk Q_HB
                    have HO162 := Az (Q_HO162 (hon 0 (by kernel_rfl)))
                    have HA_HO162 := Az (Q_HA_HO162 (hon 0 (by kernel_rfl)))
                    have HO166 := Az (Q_HO166 (hon 4 (by kernel_rfl)))
                    have HA_HO166 := Az (Q_HA_HO166 (hon 4 (by kernel_rfl)))
                    have HO170 := Az (Q_HO170 (hon 8 (by kernel_rfl)))
                    refine value_ (w1 := w') (v := .bool true) (by rfl) rfl ?_ ?_
                    · go_simp
                      (try simp only [i64_w])
                      try rfl
                      try (simp only [ByteArray.size_extract, eq_iff_iff, iff_true, iff_false, decide_eq_true_eq] at *; omega)
                    refine hK.out _ _ ⟨v161, adz_v161, v165, adz_v165, v169, m2_, m6_, m9_, (by rw [ha.out]; exact putSel_upk 8 hb_ rfl rfl rfl), Q_HO_4, Q_HB, Q_HO162, Q_HA_HO162, Q_HO166, Q_HA_HO166, Q_HO170, Q_X2_, Q_X6_, Q_X9_⟩
                  exact steps_nil
                rintro b a w19 hall ⟨v161, adz_v161, v165, adz_v165, v169, m2_, m6_, m9_, ha, Q_HO_4, Q_HB, Q_HO162, Q_HA_HO162, Q_HO166, Q_HA_HO166, Q_HO170, Q_X2_, Q_X6_, Q_X9_⟩
                clear HB HO_4
                have hb0_ := hall 0 (by kernel_rfl)
                have hb2_ := hall 2 (by kernel_rfl)
                have hb3_ := hall 3 (by kernel_rfl)
                have hb4_ := hall 4 (by kernel_rfl)
                have hb6_ := hall 6 (by kernel_rfl)
                have hb7_ := hall 7 (by kernel_rfl)
                have hb8_ := hall 8 (by kernel_rfl)
                have hb9_ := hall 9 (by kernel_rfl)
                have hb10_ := hall 10 (by kernel_rfl)
                subst ha
                obtain rfl := Q_X2_ hb2_
                obtain rfl := Q_X6_ hb6_
                obtain rfl := Q_X9_ hb9_
                simp only [putSel, hb0_, hb2_, hb3_, hb4_, hb6_, hb7_, hb8_, hb9_, hb10_, if_true, Act.put, List.setIfInBounds_toArray, List.set_cons_zero, List.set_cons_succ]
                have HO_4 := Aside0.mk Q_HO_4
                clear Q_HO_4
                have HB := Aside0.mk Q_HB
                clear Q_HB
                have HO162 := Az (Q_HO162 hb0_)
                clear Q_HO162
                have HA_HO162 := Az (Q_HA_HO162 hb0_)
                clear Q_HA_HO162
                have HO166 := Az (Q_HO166 hb4_)
                clear Q_HO166
                have HA_HO166 := Az (Q_HA_HO166 hb4_)
                clear Q_HA_HO166
                have HO170 := Az (Q_HO170 hb8_)
                clear Q_HO170
                clear hall hb0_ hb2_ hb3_ hb4_ hb6_ hb7_ hb8_ hb9_ hb10_
                obtain ⟨co20, eo20⟩ := HA_HO162.out
                clear HA_HO162
                subst eo20
                obtain ⟨co21, eo21⟩ := HA_HO166.out
                clear HA_HO166
                subst eo21
                try go_wp2
                go_ret2
                exact ⟨_, rt, by (with_reducible repeat (first | apply Kd.R_alloc | apply Kd.R_drewN | apply Kd.R_drew)); exact Kd.R_mono HO170.out (fun _ hk => trivial), (cB HB)⟩
              · rw [if_neg c8] at H
                exact absurd H (by simp)
            · rw [if_neg c7] at H
              exact absurd H (by simp)
          · rw [if_neg c6] at H
            have c6b0 : (a0.toList == (rdOf ByteArray.empty y156 x5_1).toList) = false := beq_eq_false_iff_ne.mpr c6
            have c6b1 : (a0.toList != (rdOf ByteArray.empty y156 x5_1).toList) = true := bne_iff_ne.mpr c6
            have H' := Aside0.mk H
            clear H
            obtain ⟨Ao22, co22, eo22⟩ := Kd.R_slice HO_4.out
            subst eo22
            have p159 : 0 ≤ (x5_1 : Int) := of_decide_eq_true fa
            have q159 : x5_1 < (y156.length : Int) := of_decide_eq_true fa
            obtain ⟨ad159, e159, hx159_0⟩ := Kd.at_string (Kd.R_reads' HO_4.out).2.2 x5_1 p159 q159
            cases e159
            replace p159 := eq_true p159
            replace q159 := eq_true q159
            go_wp2
            go_roundg k1
            case measure => have := HK1.out; omega
            case rel => exact ⟨(wrap64 (x5_1 + 1)), mr, H', ⟨by have := HK1.out; omega⟩, ⟨by (with_reducible repeat (first | apply Kd.R_alloc | apply Kd.R_drewN | apply Kd.R_drew)); exact HO_4.out⟩, ⟨(cB HB)⟩⟩
        · rw [if_neg c5] at H
          exact absurd H (by simp)
      · rw [if_neg c4] at H
        have c4b0 : decide (x5_1 < (y156.length : Int)) = false := decide_eq_false c4
        clear c4
        have H' := Aside0.mk H
        clear H
        obtain ⟨Ao23, co23, eo23⟩ := Kd.R_slice HO_4.out
        subst eo23
        go_wp2
        go_loopg [6] k1 (fun kq v6 w' => ∃ (x6_2 : Int), v6 = .int .i64 x6_2 ∧ Aside0 (spec_NamedTriangle.l1 kq a0 x6_2 = some (r1, r2)) ∧ Aside0 (kq ≤ k1) ∧ Aside0 (Below w.heap.size w w'))
        case atStart => exact ⟨(0), mr, H', ⟨Nat.le_refl _⟩, ⟨(cB HB)⟩⟩
        case round =>
          clear H'
          obtain ⟨x6_2, rfl, HA, HK2, HB⟩ := hrel
          cases gk with
          | zero => exact absurd HA.out (by simp [spec_NamedTriangle.l1])
          | succ k2 =>
            have H := HA.out
            clear HA
            simp only [spec_NamedTriangle.l1] at H
            by_cases c24 : x6_2 ≤ 5
            · rw [if_pos c24] at H
              have c24b0 : decide (x6_2 ≤ 5) = true := decide_eq_true c24
              clear c24
              replace H := Option.bind_eq_some_iff.mp H
              obtain ⟨t174, A250, H⟩ := H
              replace H : (if 7 + t174.size ≤ 9223372036854775807 then (if a0.toList = ((⟨#[97, 116, 108, 101, 97, 115, 116]⟩ : ByteArray) ++ t174).toList then (spec_NamedTriangle.j2 k2 a0 x6_2 t174 (decide (x6_2 > 0))) else (spec_NamedTriangle.j2 k2 a0 x6_2 t174 false)) else (none)) = some (r1, r2) := H
              have A25 := Aside0.mk A250
              clear A250
              have HC26 := Aside0.mk H
              clear H
              go_upto_region 11 with (first | ((with_reducible refine gate_callee (f := 65) rfl ?_); refine goesL_ (some 35) rfl rfl Try.func65 (by kernel_rfl) rfl #[.int .i64 x6_2] rfl gf ?_; (with_reducible refine (spec_l1Number.calls k2 x6_2 t174 _ A25.out).mono ?_); rintro e w27 ⟨rfl, hb⟩; refine ⟨_, rfl, ?_⟩; have n0_ := Az (below_step (cB HB) hb); clear HB; have HB := n0_; clear n0_; (try clear hb); (try clear hb2); (try clear hk); (try clear hi)))
              (try simp only [Act.put, List.setIfInBounds_toArray, List.set_cons_zero, List.set_cons_succ])
              go_cut [36] (fun v36 wc => ∃ (kq : Nat) (x36_25 : Bool), v36 = .bool x36_25 ∧ Aside0 (spec_NamedTriangle.j2 kq a0 x6_2 t174 x36_25 = some (r1, r2)) ∧ Aside0 (kq ≤ k2) ∧ Aside0 (Below w.heap.size w wc))
              case first =>
                have H := HC26.out
                clear HC26
                by_cases c28 : 7 + t174.size ≤ 9223372036854775807
                · rw [if_pos c28] at H
                  have c28b0 := eq_true c28
                  have c28b1 : decide (7 + t174.size ≤ 9223372036854775807) = true := decide_eq_true c28
                  try have c28b2 : (9223372036854775807 < 7 + t174.size) = False := eq_false (Nat.not_lt.2 c28)
                  by_cases c29 : a0.toList = ((⟨#[97, 116, 108, 101, 97, 115, 116]⟩ : ByteArray) ++ t174).toList
                  · rw [if_pos c29] at H
                    have c29b0 : (a0.toList == ((⟨#[97, 116, 108, 101, 97, 115, 116]⟩ : ByteArray) ++ t174).toList) = true := beq_iff_eq.mpr c29
                    have c29b1 : (a0.toList != ((⟨#[97, 116, 108, 101, 97, 115, 116]⟩ : ByteArray) ++ t174).toList) = false := bne_eq_false_iff_eq.mpr c29
                    clear c29
                    (first | rw [c29b0] | (simp only [i64_w, i32_w]; rw [c29b0]) | skip)
                    have H' := Aside0.mk H
                    clear H
                    go_wp2
                    go_meet
                    case rel => exact ⟨_, (decide (x6_2 > 0)), mr, H', ⟨by have := HK1.out; have := HK2.out; first | omega | exact Nat.le_refl _⟩, ⟨(cB HB)⟩⟩
                  · rw [if_neg c29] at H
                    have c29b0 : (a0.toList == ((⟨#[97, 116, 108, 101, 97, 115, 116]⟩ : ByteArray) ++ t174).toList) = false := beq_eq_false_iff_ne.mpr c29
                    have c29b1 : (a0.toList != ((⟨#[97, 116, 108, 101, 97, 115, 116]⟩ : ByteArray) ++ t174).toList) = true := bne_iff_ne.mpr c29
                    (first | rw [c29b0] | (simp only [i64_w, i32_w]; rw [c29b0]) | skip)
                    have H' := Aside0.mk H
                    clear H
                    go_wp2
                    go_meet
                    case rel => exact ⟨_, (false), mr, H', ⟨by have := HK1.out; have := HK2.out; first | omega | exact Nat.le_refl _⟩, ⟨(cB HB)⟩⟩
                · rw [if_neg c28] at H
                  exact absurd H (by simp)
              case rest =>
                clear HC26
                try clear c4
                try clear c4b0
                try clear c5
                try clear c5b0
                try clear c6
                try clear c6b0
                try clear c6b1
                try clear c7
                try clear c7b0
                try clear c8
                try clear c8b0
                try clear c24
                try clear c24b0
                try clear hx159_0
                try clear p159
                try clear q159
                obtain ⟨kq, x36_25, rfl, HA, HJ25, HB⟩ := hcut
                cases kq with
                | zero => exact absurd HA.out (by simp [spec_NamedTriangle.j2])
                | succ kj25 =>
                  have H := HA.out
                  clear HA
                  simp only [spec_NamedTriangle.j2] at H
                  by_cases c30 : x36_25 = true
                  · subst c30
                    have H1 : ((spec_l1Made.f kj25 1 x6_2).bind fun t175 => (some (t175, true))) = some (r1, r2) := by rw [if_pos rfl] at H; exact H
                    clear H
                    have H := H1
                    clear H1
                    replace H := Option.bind_eq_some_iff.mp H
                    obtain ⟨t175, A310, H⟩ := H
                    replace H : (some (t175, true)) = some (r1, r2) := H
                    have A31 := Aside0.mk A310
                    clear A310
                    simp only [Option.some.injEq, Prod.mk.injEq] at H
                    obtain ⟨rfl, rfl⟩ := H
                    go_wp2_with (first | ((with_reducible refine gate_callee (f := 64) rfl ?_); refine goesL_ (some 46) rfl rfl Try.func64 (by kernel_rfl) rfl #[.int .i64 1, .int .i64 x6_2] rfl gf ?_; (with_reducible refine (spec_l1Made.calls kj25 1 x6_2 t175 _ A31.out).mono ?_); rintro e w32 ⟨v176, rfl, ho0, hb⟩; refine ⟨_, rfl, ?_⟩; have n0_ := Az (Kd.R_lower ho0 (below_size (cB HB))); have n1_ := Az (below_step (cB HB) hb); clear HB; have HO177 := n0_; have HB := n1_; clear n0_ n1_; (try clear hb); (try clear hb2); (try clear hk); (try clear hi); (try clear ho0)))
                    go_ret2
                    exact ⟨_, rt, by (with_reducible repeat (first | apply Kd.R_alloc | apply Kd.R_drewN | apply Kd.R_drew)); exact HO177.out, (cB HB)⟩
                  · replace c30 := Bool.eq_false_iff.mpr c30
                    subst c30
                    have H1 : (if 4 + t174.size ≤ 9223372036854775807 then (if a0.toList = ((⟨#[106, 117, 115, 116]⟩ : ByteArray) ++ t174).toList then ((spec_l1Made.f kj25 2 x6_2).bind fun t178 => (some (t178, true))) else (if 6 + t174.size ≤ 9223372036854775807 then (if a0.toList = ((⟨#[97, 108, 108, 98, 117, 116]⟩ : ByteArray) ++ t174).toList then ((spec_l1Made.f kj25 5 x6_2).bind fun t181 => (some (t181, true))) else (spec_NamedTriangle.l1 kj25 a0 (wrap64 (x6_2 + 1)))) else (none))) else (none)) = some (r1, r2) := by rw [if_neg (show ¬ (false = true) by decide)] at H; exact H
                    clear H
                    have H := H1
                    clear H1
                    by_cases c33 : 4 + t174.size ≤ 9223372036854775807
                    · rw [if_pos c33] at H
                      have c33b0 := eq_true c33
                      have c33b1 : decide (4 + t174.size ≤ 9223372036854775807) = true := decide_eq_true c33
                      try have c33b2 : (9223372036854775807 < 4 + t174.size) = False := eq_false (Nat.not_lt.2 c33)
                      by_cases c34 : a0.toList = ((⟨#[106, 117, 115, 116]⟩ : ByteArray) ++ t174).toList
                      · rw [if_pos c34] at H
                        have c34b0 : (a0.toList == ((⟨#[106, 117, 115, 116]⟩ : ByteArray) ++ t174).toList) = true := beq_iff_eq.mpr c34
                        have c34b1 : (a0.toList != ((⟨#[106, 117, 115, 116]⟩ : ByteArray) ++ t174).toList) = false := bne_eq_false_iff_eq.mpr c34
                        clear c34
                        replace H := Option.bind_eq_some_iff.mp H
                        obtain ⟨t178, A350, H⟩ := H
                        replace H : (some (t178, true)) = some (r1, r2) := H
                        have A35 := Aside0.mk A350
                        clear A350
                        simp only [Option.some.injEq, Prod.mk.injEq] at H
                        obtain ⟨rfl, rfl⟩ := H
                        go_wp2_with (first | ((with_reducible refine gate_callee (f := 64) rfl ?_); refine goesL_ (some 53) rfl rfl Try.func64 (by kernel_rfl) rfl #[.int .i64 2, .int .i64 x6_2] rfl gf ?_; (with_reducible refine (spec_l1Made.calls kj25 2 x6_2 t178 _ A35.out).mono ?_); rintro e w36 ⟨v179, rfl, ho0, hb⟩; refine ⟨_, rfl, ?_⟩; have n0_ := Az (Kd.R_lower ho0 (below_size (cB HB))); have n1_ := Az (below_step (cB HB) hb); clear HB; have HO180 := n0_; have HB := n1_; clear n0_ n1_; (try clear hb); (try clear hb2); (try clear hk); (try clear hi); (try clear ho0)))
                        go_ret2
                        exact ⟨_, rt, by (with_reducible repeat (first | apply Kd.R_alloc | apply Kd.R_drewN | apply Kd.R_drew)); exact HO180.out, (cB HB)⟩
                      · rw [if_neg c34] at H
                        have c34b0 : (a0.toList == ((⟨#[106, 117, 115, 116]⟩ : ByteArray) ++ t174).toList) = false := beq_eq_false_iff_ne.mpr c34
                        have c34b1 : (a0.toList != ((⟨#[106, 117, 115, 116]⟩ : ByteArray) ++ t174).toList) = true := bne_iff_ne.mpr c34
                        by_cases c37 : 6 + t174.size ≤ 9223372036854775807
                        · rw [if_pos c37] at H
                          have c37b0 := eq_true c37
                          have c37b1 : decide (6 + t174.size ≤ 9223372036854775807) = true := decide_eq_true c37
                          try have c37b2 : (9223372036854775807 < 6 + t174.size) = False := eq_false (Nat.not_lt.2 c37)
                          by_cases c38 : a0.toList = ((⟨#[97, 108, 108, 98, 117, 116]⟩ : ByteArray) ++ t174).toList
                          · rw [if_pos c38] at H
                            have c38b0 : (a0.toList == ((⟨#[97, 108, 108, 98, 117, 116]⟩ : ByteArray) ++ t174).toList) = true := beq_iff_eq.mpr c38
                            have c38b1 : (a0.toList != ((⟨#[97, 108, 108, 98, 117, 116]⟩ : ByteArray) ++ t174).toList) = false := bne_eq_false_iff_eq.mpr c38
                            clear c38
                            replace H := Option.bind_eq_some_iff.mp H
                            obtain ⟨t181, A390, H⟩ := H
                            replace H : (some (t181, true)) = some (r1, r2) := H
                            have A39 := Aside0.mk A390
                            clear A390
                            simp only [Option.some.injEq, Prod.mk.injEq] at H
                            obtain ⟨rfl, rfl⟩ := H
                            go_wp2_with (first | ((with_reducible refine gate_callee (f := 64) rfl ?_); refine goesL_ (some 60) rfl rfl Try.func64 (by kernel_rfl) rfl #[.int .i64 5, .int .i64 x6_2] rfl gf ?_; (with_reducible refine (spec_l1Made.calls kj25 5 x6_2 t181 _ A39.out).mono ?_); rintro e w40 ⟨v182, rfl, ho0, hb⟩; refine ⟨_, rfl, ?_⟩; have n0_ := Az (Kd.R_lower ho0 (below_size (cB HB))); have n1_ := Az (below_step (cB HB) hb); clear HB; have HO183 := n0_; have HB := n1_; clear n0_ n1_; (try clear hb); (try clear hb2); (try clear hk); (try clear hi); (try clear ho0)))
                            go_ret2
                            exact ⟨_, rt, by (with_reducible repeat (first | apply Kd.R_alloc | apply Kd.R_drewN | apply Kd.R_drew)); exact HO183.out, (cB HB)⟩
                          · rw [if_neg c38] at H
                            have c38b0 : (a0.toList == ((⟨#[97, 108, 108, 98, 117, 116]⟩ : ByteArray) ++ t174).toList) = false := beq_eq_false_iff_ne.mpr c38
                            have c38b1 : (a0.toList != ((⟨#[97, 108, 108, 98, 117, 116]⟩ : ByteArray) ++ t174).toList) = true := bne_iff_ne.mpr c38
                            have H' := Aside0.mk H
                            clear H
                            go_wp2
                            go_roundg kj25
                            case measure => have := HK1.out; have := HK2.out; have := HJ25.out; omega
                            case rel => exact ⟨(wrap64 (x6_2 + 1)), mr, H', ⟨by have := HK1.out; have := HK2.out; have := HJ25.out; omega⟩, ⟨(cB HB)⟩⟩
                        · rw [if_neg c37] at H
                          exact absurd H (by simp)
                    · rw [if_neg c33] at H
                      exact absurd H (by simp)
            · rw [if_neg c24] at H
              have c24b0 : decide (x6_2 ≤ 5) = false := decide_eq_false c24
              clear c24
              obtain ⟨y171, hy171⟩ : ∃ y_ : List Int, y_ = (([] : List Int)) := ⟨_, rfl⟩
              replace H : (some (y171, false)) = some (r1, r2) := by first | (rw [hy171]; with_reducible exact H) | (have H2_ := (Option.bind_some _ _).symm.trans H; rw [hy171]; with_reducible exact H2_) | (have H2_ := (Option.bind_some _ _).symm.trans H; with_reducible exact H2_) | with_reducible exact H | (rw [hy171]; exact H) | exact H
              have Ny171 := Aside0.mk hy171
              clear hy171
              simp only [Option.some.injEq, Prod.mk.injEq] at H
              obtain ⟨rfl, rfl⟩ := H
              go_wp2_with (first | ((with_reducible refine gate_dst (N := 61) rfl ?_); refine Kd.R_lit (Kd.int .i64) _ 3 ?hg (N := 61) ?hd (xs := ([] : List Int)) (inner := []) (ok := fun _ => True) (okp := fun _ => True) ?hr ?hp (fun _ hk => hk) trivial (Below.refl _ _) (Nat.le_refl _) (by simp) ?_; (case hd => rfl); (case hg => rfl); (case hr => first | (go_simp; done) | (go_simp; rfl)); (case hp => exact (Reps.none _ _)); intro v172 w41 ho42 hb hg_ hnew_; clear hg_ hnew_; (first | rw [← Ny171.out] at ho42 | (simp only [Int.reduceToNat] at ho42; rw [← Ny171.out] at ho42)); have n0_ := Az (Kd.R_lower ho42 (below_size (cB HB))); have n1_ := Az (below_step (cB HB) hb); clear HB; have HO173 := n0_; have HB := n1_; clear n0_ n1_; clear hb ho42))
              go_ret2
              exact ⟨_, rt, by (with_reducible repeat (first | apply Kd.R_alloc | apply Kd.R_drewN | apply Kd.R_drew)); exact HO173.out, (cB HB)⟩

/-! ### spec_l1In: function 34 -/
def spec_l1In.f (a0 : Int) (a1 : Int) (a2 : Int) : Option (Bool) := if a0 ≥ a1 then (some (decide (a0 ≤ a2))) else (some false)
set_option maxHeartbeats 8000000 in
set_option maxRecDepth 100000 in
theorem spec_l1In.calls (a0 : Int) (a1 : Int) (a2 : Int) (r : Bool) (w : World) (h : spec_l1In.f a0 a1 a2 = some r) :
    Calls Try.prog 34 #[.int .i64 a0, .int .i64 a1, .int .i64 a2] w fun e w' => e = .returned (.bool r) ∧ Drawn0 w w' := by
  have H : (if a0 ≥ a1 then (some (decide (a0 ≤ a2))) else (some false)) = some r := h
  clear h
  by_cases c4 : a0 ≥ a1
  · rw [if_pos c4] at H
    have c4b0 : decide (a1 ≤ a0) = true := decide_eq_true c4
    clear c4
    obtain rfl := Option.some.inj H
    go_enter Try.func34, Try.ntmps34
    go_wp2
    go_ret
    exact ⟨mr, by repeat (first | exact Drawn0.refl _ | apply Drawn0.step)⟩
  · rw [if_neg c4] at H
    have c4b0 : decide (a1 ≤ a0) = false := decide_eq_false c4
    clear c4
    obtain rfl := Option.some.inj H
    go_enter Try.func34, Try.ntmps34
    go_wp2
    go_ret
    exact ⟨mr, by repeat (first | exact Drawn0.refl _ | apply Drawn0.step)⟩

/-! ### spec_TriangleOk: function 83 -/
def spec_TriangleOk.l0 : Nat → List Int → Int → Option (Bool)
  | 0, _, _ => none
  | k + 1, x0, x3 => if x3 < (x0.length : Int) then (if 0 ≤ x3 then ((spec_l1In.f (rd x0 x3) 0 1).bind fun t185 => (if t185 = true then (spec_TriangleOk.l0 k x0 (wrap64 (x3 + 1))) else (some false))) else (none)) else (some ((x0.length : Int) == 21))
def spec_TriangleOk.f (k : Nat) (l0 : List Int) : Option (Bool) := spec_TriangleOk.l0 k l0 0
theorem spec_TriangleOk.mono_l : ∀ k, (∀ y0 y1, LeO (spec_TriangleOk.l0 k y0 y1) (spec_TriangleOk.l0 (k + 1) y0 y1))
  | 0 => fun _ _ r h => by simp [spec_TriangleOk.l0] at h
  | k + 1 => by
    have ih0 := spec_TriangleOk.mono_l k
    · intro y0 y1
      unfold spec_TriangleOk.l0
      repeat' first
      | (with_reducible exact ih0 _ _)
      | (with_reducible exact LeO.refl _)
      | (with_reducible exact LeO.none _)
      | (with_reducible refine LeO.ite ?_ ?_)
      | (with_reducible refine LeO.bind ?_ (fun _ => ?_))
      | exact ih0 _ _
      | exact LeO.none _
      | refine LeO.ite ?_ ?_
      | refine LeO.bind ?_ (fun _ => ?_)
theorem spec_TriangleOk.mono : ∀ a0 k, LeO (spec_TriangleOk.f k a0) (spec_TriangleOk.f (k + 1) a0) := by
  intro a0 k
  have ih0 := spec_TriangleOk.mono_l k
  unfold spec_TriangleOk.f
  repeat' first
      | (with_reducible exact ih0 _ _)
      | (with_reducible exact LeO.refl _)
      | (with_reducible exact LeO.none _)
      | (with_reducible refine LeO.ite ?_ ?_)
      | (with_reducible refine LeO.bind ?_ (fun _ => ?_))
      | exact ih0 _ _
      | exact LeO.none _
      | refine LeO.ite ?_ ?_
      | refine LeO.bind ?_ (fun _ => ?_)
set_option maxHeartbeats 8000000 in
set_option maxRecDepth 100000 in
theorem spec_TriangleOk.calls (k : Nat) (A0 : Option Addr) (c0 : Nat) (l0 : List Int) (r : Bool) (w : World) (hr0 : Kd.C (Kd.int .i64) w A0 l0.length l0) (hc0 : l0.length ≤ c0) (h : spec_TriangleOk.f k l0 = some r) :
    Calls Try.prog 83 #[.slice A0 l0.length c0] w fun e w' => e = .returned (.bool r) ∧ Drawn0 w w' := by
  have HR0 := Aside0.mk hr0
  have HC0 := Aside0.mk hc0
  clear hr0 hc0
  have H : (spec_TriangleOk.l0 k l0 0) = some r := h
  clear h
  have H' := Aside0.mk H
  clear H
  go_enter Try.func83, Try.ntmps83
  go_wp2
  go_loopg [3] k (fun kq v3 w' => ∃ (x3_1 : Int), v3 = .int .i64 x3_1 ∧ Aside0 (spec_TriangleOk.l0 kq l0 x3_1 = some r) ∧ Aside0 (kq ≤ k) ∧ Drawn0 w w')
  case atStart => exact ⟨(0), mr, H', ⟨Nat.le_refl _⟩, by repeat (first | exact Drawn0.refl _ | apply Drawn0.step)⟩
  case round =>
    clear H'
    obtain ⟨x3_1, rfl, HA, HK1, ⟨m1, rfl⟩⟩ := hrel
    cases gk with
    | zero => exact absurd HA.out (by simp [spec_TriangleOk.l0])
    | succ k1 =>
      have H := HA.out
      clear HA
      simp only [spec_TriangleOk.l0] at H
      by_cases c2 : x3_1 < (l0.length : Int)
      · rw [if_pos c2] at H
        have c2b0 : decide (x3_1 < (l0.length : Int)) = true := decide_eq_true c2
        clear c2
        by_cases c3 : 0 ≤ x3_1
        · rw [if_pos c3] at H
          have c3b0 : decide (0 ≤ x3_1) = true := decide_eq_true c3
          clear c3
          replace H := Option.bind_eq_some_iff.mp H
          obtain ⟨t185, A40, H⟩ := H
          replace H : (if t185 = true then (spec_TriangleOk.l0 k1 l0 (wrap64 (x3_1 + 1))) else (some false)) = some r := H
          have A4 := Aside0.mk A40
          clear A40
          by_cases c5 : t185 = true
          · subst c5
            have H1 : (spec_TriangleOk.l0 k1 l0 (wrap64 (x3_1 + 1))) = some r := by rw [if_pos rfl] at H; exact H
            clear H
            have H := H1
            clear H1
            have H' := Aside0.mk H
            clear H
            have p184 : 0 ≤ (x3_1 : Int) := of_decide_eq_true fa
            have q184 : x3_1 < (l0.length : Int) := of_decide_eq_true fa
            obtain ⟨ad184, e184, hx184_0⟩ := Kd.at_int HR0.out x3_1 p184 q184
            cases e184
            replace p184 := eq_true p184
            replace q184 := eq_true q184
            go_wp2_with (first | ((with_reducible refine gate_callee (f := 34) rfl ?_); refine goesL_ (some 14) rfl rfl Try.func34 (by kernel_rfl) rfl #[.int .i64 (rd l0 x3_1), .int .i64 0, .int .i64 1] rfl gf ?_; (with_reducible refine (spec_l1In.calls (rd l0 x3_1) 0 1 true _ A4.out).mono ?_); rintro e w' ⟨rfl, ⟨nd, rfl⟩⟩; refine ⟨_, rfl, ?_⟩))
            go_roundg k1
            case measure => have := HK1.out; omega
            case rel => exact ⟨(wrap64 (x3_1 + 1)), mr, H', ⟨by have := HK1.out; omega⟩, by repeat (first | exact Drawn0.refl _ | apply Drawn0.step)⟩
          · replace c5 := Bool.eq_false_iff.mpr c5
            subst c5
            have H1 : (some false) = some r := by rw [if_neg (show ¬ (false = true) by decide)] at H; exact H
            clear H
            have H := H1
            clear H1
            obtain rfl := Option.some.inj H
            have p184 : 0 ≤ (x3_1 : Int) := of_decide_eq_true fa
            have q184 : x3_1 < (l0.length : Int) := of_decide_eq_true fa
            obtain ⟨ad184, e184, hx184_0⟩ := Kd.at_int HR0.out x3_1 p184 q184
            cases e184
            replace p184 := eq_true p184
            replace q184 := eq_true q184
            go_wp2_with (first | ((with_reducible refine gate_callee (f := 34) rfl ?_); refine goesL_ (some 14) rfl rfl Try.func34 (by kernel_rfl) rfl #[.int .i64 (rd l0 x3_1), .int .i64 0, .int .i64 1] rfl gf ?_; (with_reducible refine (spec_l1In.calls (rd l0 x3_1) 0 1 false _ A4.out).mono ?_); rintro e w' ⟨rfl, ⟨nd, rfl⟩⟩; refine ⟨_, rfl, ?_⟩))
            go_ret
            exact ⟨mr, by repeat (first | exact Drawn0.refl _ | apply Drawn0.step)⟩
        · rw [if_neg c3] at H
          exact absurd H (by simp)
      · rw [if_neg c2] at H
        have c2b0 : decide (x3_1 < (l0.length : Int)) = false := decide_eq_false c2
        clear c2
        obtain rfl := Option.some.inj H
        go_wp2
        go_ret
        exact ⟨mr, by repeat (first | exact Drawn0.refl _ | apply Drawn0.step)⟩

end Go.Proofs.Ytfjfdnododnepaa.PFnReplacedIn
