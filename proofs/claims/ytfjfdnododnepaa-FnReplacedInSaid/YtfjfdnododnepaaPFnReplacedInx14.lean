-- Written by a program of this session (wip/patch_print.py, over the kit's print) and not by hand; Lean checks every word.
import Derived.Test.YtfjfdnododnepaaPFnReplacedInx0
import Derived.Test.YtfjfdnododnepaaPFnReplacedInx13
namespace Go.Proofs.Ytfjfdnododnepaa.PFnReplacedIn
open Go.RowKit Go.Proofs.YtfjfdnododnepaaW.PrintWords Go.Proofs.YtfjfdnododnepaaW.PrintLast Go.Proofs.YtfjfdnododnepaaW.PrintMore
attribute [local go_sem] max2_int min2_int max_two min_two max_three min_three max_four min_four   -- for this text's walks alone
set_option linter.unusedVariables false
set_option linter.unusedSimpArgs false

/-! ### spec_l20Sentence: function 61 -/
mutual
def spec_l20Sentence.j0 : Nat → Int → Bool → List Int → Int → Option (ByteArray × Int)
  | 0, _, _, _, _ => none
  | k + 1, x1, x11, x1000, x1001 => if x11 = true then ((spec_l20Rd_pick.f k x1000 x1001 2).bind fun bt269 => (if bt269.1 = 0 then ((spec_l20Sentence.f k x1000 bt269.2 (wrap64 (x1 - 1))).bind fun bt271 => (if 1 + bt271.1.size ≤ 9223372036854775807 then (some ((⟨#[126]⟩ : ByteArray) ++ bt271.1, bt271.2)) else (none))) else ((spec_l20Sentence.f k x1000 bt269.2 (wrap64 (x1 - 1))).bind fun bt273 => (if 1 + bt273.1.size ≤ 9223372036854775807 then ((some (([(⟨#[38]⟩ : ByteArray), (⟨#[124]⟩ : ByteArray)] : List ByteArray) : List ByteArray)).bind fun y275 => ((spec_l20Rd_pick.f k x1000 bt273.2 2).bind fun bt278 => (if 0 ≤ bt278.1 then (if bt278.1 < (y275.length : Int) then (if 1 + bt273.1.size + (rdOf ByteArray.empty y275 bt278.1).size ≤ 9223372036854775807 then ((spec_l20Sentence.f k x1000 bt278.2 (wrap64 (x1 - 1))).bind fun bt281 => (if 1 + bt273.1.size + (rdOf ByteArray.empty y275 bt278.1).size + bt281.1.size ≤ 9223372036854775807 then (if 1 + bt273.1.size + (rdOf ByteArray.empty y275 bt278.1).size + bt281.1.size + 1 ≤ 9223372036854775807 then (some (((((⟨#[91]⟩ : ByteArray) ++ bt273.1) ++ (rdOf ByteArray.empty y275 bt278.1)) ++ bt281.1) ++ (⟨#[93]⟩ : ByteArray), bt281.2)) else (none)) else (none))) else (none)) else (none)) else (none)))) else (none))))) else ((spec_l20Names.f).bind fun t283 => ((spec_l20Rd_pick.f k x1000 x1001 10).bind fun bt286 => (if 0 ≤ bt286.1 then (if bt286.1 < (t283.length : Int) then (if (rdOf ByteArray.empty t283 bt286.1).size + 1 ≤ 9223372036854775807 then ((spec_l20Set.f k x1000 bt286.2 2).bind fun bt289 => (if (rdOf ByteArray.empty t283 bt286.1).size + 1 + bt289.1.size ≤ 9223372036854775807 then (if (rdOf ByteArray.empty t283 bt286.1).size + 1 + bt289.1.size + 1 ≤ 9223372036854775807 then ((spec_l20Set.f k x1000 bt289.2 2).bind fun bt291 => (if (rdOf ByteArray.empty t283 bt286.1).size + 1 + bt289.1.size + 1 + bt291.1.size ≤ 9223372036854775807 then (if (rdOf ByteArray.empty t283 bt286.1).size + 1 + bt289.1.size + 1 + bt291.1.size + 1 ≤ 9223372036854775807 then (some ((((((rdOf ByteArray.empty t283 bt286.1) ++ (⟨#[40]⟩ : ByteArray)) ++ bt289.1) ++ (⟨#[44]⟩ : ByteArray)) ++ bt291.1) ++ (⟨#[41]⟩ : ByteArray), bt291.2)) else (none)) else (none))) else (none)) else (none))) else (none)) else (none)) else (none))))
def spec_l20Sentence.f : Nat → List Int → Int → Int → Option (ByteArray × Int)
  | 0, _, _, _ => none
  | k + 1, s0_0, s0_1, a1 => if a1 > 0 then ((spec_l20Rd_pick.f k s0_0 s0_1 3).bind fun bt267 => (spec_l20Sentence.j0 k a1 (bt267.1 == 0) s0_0 bt267.2)) else (spec_l20Sentence.j0 k a1 false s0_0 s0_1)
end
theorem spec_l20Sentence.mono_l : ∀ k, (∀ y0 y1 y2, LeO (spec_l20Sentence.f k y0 y1 y2) (spec_l20Sentence.f (k + 1) y0 y1 y2)) ∧ (∀ y0 y1 y2 y3, LeO (spec_l20Sentence.j0 k y0 y1 y2 y3) (spec_l20Sentence.j0 (k + 1) y0 y1 y2 y3))
  | 0 => ⟨fun _ _ _ r h => by simp [spec_l20Sentence.f] at h, fun _ _ _ _ r h => by simp [spec_l20Sentence.j0] at h⟩
  | k + 1 => by
    obtain ⟨ih0, ih1⟩ := spec_l20Sentence.mono_l k
    refine ⟨?_, ?_⟩
    · intro y0 y1 y2
      unfold spec_l20Sentence.f
      repeat' first
      | (with_reducible exact ih0 _ _ _)
      | (with_reducible exact ih1 _ _ _ _)
      | (with_reducible exact spec_l20Rd_pick.mono _ _ _ _)
      | (with_reducible exact spec_l20Set.mono _ _ _ _)
      | (with_reducible exact LeO.refl _)
      | (with_reducible exact LeO.none _)
      | (with_reducible refine LeO.ite ?_ ?_)
      | (with_reducible refine LeO.bind ?_ (fun _ => ?_))
      | exact ih0 _ _ _
      | exact ih1 _ _ _ _
      | exact spec_l20Rd_pick.mono _ _ _ _
      | exact spec_l20Set.mono _ _ _ _
      | exact LeO.none _
      | refine LeO.ite ?_ ?_
      | refine LeO.bind ?_ (fun _ => ?_)
    · intro y0 y1 y2 y3
      unfold spec_l20Sentence.j0
      repeat' first
      | (with_reducible exact ih0 _ _ _)
      | (with_reducible exact ih1 _ _ _ _)
      | (with_reducible exact spec_l20Rd_pick.mono _ _ _ _)
      | (with_reducible exact spec_l20Set.mono _ _ _ _)
      | (with_reducible exact LeO.refl _)
      | (with_reducible exact LeO.none _)
      | (with_reducible refine LeO.ite ?_ ?_)
      | (with_reducible refine LeO.bind ?_ (fun _ => ?_))
      | exact ih0 _ _ _
      | exact ih1 _ _ _ _
      | exact spec_l20Rd_pick.mono _ _ _ _
      | exact spec_l20Set.mono _ _ _ _
      | exact LeO.none _
      | refine LeO.ite ?_ ?_
      | refine LeO.bind ?_ (fun _ => ?_)
theorem spec_l20Sentence.mono : ∀ a0 a1 a2 k, LeO (spec_l20Sentence.f k a0 a1 a2) (spec_l20Sentence.f (k + 1) a0 a1 a2) := by
  intro a0 a1 a2 k
  obtain ⟨ih0, ih1⟩ := spec_l20Sentence.mono_l k
  exact ih0 a0 a1 a2
def spec_l20Sentence.T4 : Bool × List (List Nat × List Nat) := (true, [([], []), ([], []), ([1], [1]), ([0, 2], [0, 2]), ([3], [3]), ([], []), ([], []), ([6, 3], [6]), ([5, 7], [5, 7]), ([8], [8]), ([4, 9], [4, 9]), ([], []), ([], []), ([12], [12]), ([11, 13, 7], [11, 13]), ([10, 14], [10, 14]), ([15], [15]), ([16, 14, 0, 1, 2, 3, 4, 5, 6, 7, 8, 9, 10, 11, 12, 13, 14, 15, 16], [16])])
def spec_l20Sentence.B4 : List Nat := [0, 0, 2, 7, 15, 0, 0, 79, 239, 495, 1023, 0, 0, 4096, 14543, 32767, 65535, 131071]
theorem spec_l20Sentence.tab4 : rtab .any (opsOf Try.f61 4) = spec_l20Sentence.T4 := by kernel_rfl
theorem spec_l20Sentence.bits4 : waitsOk spec_l20Sentence.T4.2 spec_l20Sentence.B4 = true := by kernel_rfl
def spec_l20Sentence.T5 : Bool × List (List Nat × List Nat) := (true, [([], []), ([], []), ([1, 0], [1]), ([0, 2], [0, 2]), ([3], [3]), ([4], [4]), ([], []), ([6, 2], [6]), ([5, 7], [5, 7]), ([8], [8]), ([], []), ([10, 7], [10]), ([9, 11], [9, 11]), ([12], [12]), ([13, 11, 0, 1, 2, 3, 4, 5, 6, 7, 8, 9, 10, 11, 12, 13], [13])])
def spec_l20Sentence.B5 : List Nat := [0, 0, 3, 7, 15, 31, 0, 71, 255, 511, 0, 1223, 4095, 8191, 16383]
theorem spec_l20Sentence.tab5 : rtab .any (opsOf Try.f61 5) = spec_l20Sentence.T5 := by kernel_rfl
theorem spec_l20Sentence.bits5 : waitsOk spec_l20Sentence.T5.2 spec_l20Sentence.B5 = true := by kernel_rfl
theorem spec_l20Sentence.loosen {P : Program} {md : Region.Mode} {ops : Array Oper} {Q : Exit → Act → World → Prop} {S : World → Prop} {ds : List Nat} : ∀ {fuel : Nat} {l : Array Bool} {a : Act} {w : World}, wpAnyLast P md ops Q S ds fuel l a w → wpAnyLast P md ops Q (fun _ => True) ds fuel l a w
  | 0, _, _, _, h => h
  | fuel + 1, _, _, _, h => ⟨h.1, fun i hi => wpOp_mono (fun a' w' h' => ⟨fun _ _ => trivial, spec_l20Sentence.loosen h'.2⟩) (h.2 i hi)⟩
set_option maxHeartbeats 8000000 in
set_option maxRecDepth 100000 in
theorem spec_l20Sentence.calls (k : Nat) : ∀ (g : Nat) (s0_0 : List Int) (s0_1 : Int) (a1 : Int) (r1 : ByteArray) (r2 : Int) (w0 w : World) (hI : IsS78 w0 w g s0_0 s0_1) (hB : Below w0.heap.size w0 w) (h : spec_l20Sentence.f k s0_0 s0_1 a1 = some (r1, r2)),
    Calls Try.prog 61 #[.pointer (some ⟨g, 0, none⟩), .int .i64 a1] w fun e w' => e = .returned (.string r1) ∧ IsS78 w0 w' g s0_0 r2 ∧ Below w0.heap.size w0 w' ∧ KeepBut w w' g none := by
  induction k using Nat.strongRecOn with
  | _ k ih =>
  intro g s0_0 s0_1 a1 r1 r2 w0 w hI hB h
  cases k with
  | zero => exact absurd h (by simp [spec_l20Sentence.f])
  | succ k =>
  simp only [spec_l20Sentence.f] at h
  have HI0 := Aside0.mk hI
  have HK := Aside0.mk (KeepBut.refl w g none)
  have HL := Aside0.mk hB.size
  clear hI
  have HW0 := Aside0.mk hB.size
  have HB := Aside0.mk hB
  clear hB
  have H : (if a1 > 0 then ((spec_l20Rd_pick.f k s0_0 s0_1 3).bind fun bt267 => (spec_l20Sentence.j0 k a1 (bt267.1 == 0) s0_0 bt267.2)) else (spec_l20Sentence.j0 k a1 false s0_0 s0_1)) = some (r1, r2) := h
  clear h
  have HC3 := Aside0.mk H
  clear H
  go_enter Try.func61, Try.ntmps61
  go_upto_region 1 with (fail)
  go_cut [11] (fun v11 wc => ∃ (kq : Nat) (x11_2 : Bool) (x1001_2 : Int), v11 = .bool x11_2 ∧ Aside0 (spec_l20Sentence.j0 kq a1 x11_2 s0_0 x1001_2 = some (r1, r2)) ∧ Aside0 (kq ≤ k) ∧ Aside0 (IsS78 w0 wc g s0_0 x1001_2) ∧ Aside0 (KeepBut w wc g none) ∧ Aside0 (Below w0.heap.size w0 wc))
  case first =>
    have H := HC3.out
    clear HC3
    by_cases c4 : a1 > 0
    · rw [if_pos c4] at H
      have c4b0 : decide (0 < a1) = true := decide_eq_true c4
      clear c4
      (first | rw [c4b0] | (simp only [i64_w, i32_w]; rw [c4b0]) | skip)
      replace H := Option.bind_eq_some_iff.mp H
      obtain ⟨⟨t267, t268⟩, A50, H⟩ := H
      replace H : (spec_l20Sentence.j0 k a1 (t267 == 0) s0_0 t268) = some (r1, r2) := H
      have A5 := Aside0.mk A50
      clear A50
      have H' := Aside0.mk H
      clear H
      go_wp2_with (first | (go_at_call 43; (with_reducible refine (spec_l20Rd_pick.calls k g s0_0 s0_1 3 t267 t268 w0 _ ?side1 ?side2 A5.out).mono ?_); (case side1 => repeat (first | (with_reducible first | exact HI0.out | apply IsS78.alloc | apply IsS78.drewN | apply IsS78.drew | apply IsS78.set_1) | exact HI0.out)); (case side2 => repeat (first | (with_reducible first | exact HB.out | apply below_alloc | apply pw_below_drewN | apply below_drew1 | refine below_set ?_ (IsS78.ge HI0.out)) | exact HB.out)); rintro e w6 ⟨rfl, hi, hb, hk⟩; have n0_ := Aside0.mk (KeepBut.trans (by repeat (first | (with_reducible first | exact HK.out | apply KeepBut.set_ | apply keep_drewN | apply keep_drew | apply keep_alloc) | exact HK.out)) hk (.inl rfl)); have n1_ := Aside0.mk (hb); have n2_ := Aside0.mk (hi); clear HK; clear HB; clear HI0; have HK := n0_; have HB := n1_; have HI0 := n2_; clear n0_ n1_ n2_; (try clear hb); (try clear hb2); (try clear hk); (try clear hi)))
      go_meet
      case rel => exact ⟨_, ((t267 == 0)), (t268), (by first | rfl | (simp; done) | (simp [*]; done)), H', ⟨by first | omega | exact Nat.le_refl _⟩, ⟨by repeat (first | (with_reducible first | exact HI0.out | apply IsS78.alloc | apply IsS78.drewN | apply IsS78.drew | apply IsS78.set_1) | exact HI0.out)⟩, ⟨by repeat (first | (with_reducible first | exact HK.out | apply KeepBut.set_ | apply keep_drewN | apply keep_drew | apply keep_alloc) | exact HK.out)⟩, ⟨by repeat (first | (with_reducible first | exact HB.out | apply below_alloc | apply pw_below_drewN | apply below_drew1 | refine below_set ?_ (IsS78.ge HI0.out)) | exact HB.out)⟩⟩
    · rw [if_neg c4] at H
      have c4b0 : decide (0 < a1) = false := decide_eq_false c4
      clear c4
      (first | rw [c4b0] | (simp only [i64_w, i32_w]; rw [c4b0]) | skip)
      have H' := Aside0.mk H
      clear H
      go_wp2
      go_meet
      case rel => exact ⟨_, (false), (s0_1), (by first | rfl | (simp; done) | (simp [*]; done)), H', ⟨by first | omega | exact Nat.le_refl _⟩, ⟨by repeat (first | (with_reducible first | exact HI0.out | apply IsS78.alloc | apply IsS78.drewN | apply IsS78.drew | apply IsS78.set_1) | exact HI0.out)⟩, ⟨by repeat (first | (with_reducible first | exact HK.out | apply KeepBut.set_ | apply keep_drewN | apply keep_drew | apply keep_alloc) | exact HK.out)⟩, ⟨by repeat (first | (with_reducible first | exact HB.out | apply below_alloc | apply pw_below_drewN | apply below_drew1 | refine below_set ?_ (IsS78.ge HI0.out)) | exact HB.out)⟩⟩
  case rest =>
    clear HC3
    try clear p2
    try clear c4
    try clear c4b0
    try clear c6
    obtain ⟨kq, x11_2, x1001_2, rfl, HA, HJ2, HI0, HK, HB⟩ := hcut
    cases kq with
    | zero => exact absurd HA.out (by simp [spec_l20Sentence.j0])
    | succ kj2 =>
      have H := HA.out
      clear HA
      simp only [spec_l20Sentence.j0] at H
      by_cases c7 : x11_2 = true
      · subst c7
        have H1 : ((spec_l20Rd_pick.f kj2 s0_0 x1001_2 2).bind fun bt269 => (if bt269.1 = 0 then ((spec_l20Sentence.f kj2 s0_0 bt269.2 (wrap64 (a1 - 1))).bind fun bt271 => (if 1 + bt271.1.size ≤ 9223372036854775807 then (some ((⟨#[126]⟩ : ByteArray) ++ bt271.1, bt271.2)) else (none))) else ((spec_l20Sentence.f kj2 s0_0 bt269.2 (wrap64 (a1 - 1))).bind fun bt273 => (if 1 + bt273.1.size ≤ 9223372036854775807 then ((some (([(⟨#[38]⟩ : ByteArray), (⟨#[124]⟩ : ByteArray)] : List ByteArray) : List ByteArray)).bind fun y275 => ((spec_l20Rd_pick.f kj2 s0_0 bt273.2 2).bind fun bt278 => (if 0 ≤ bt278.1 then (if bt278.1 < (y275.length : Int) then (if 1 + bt273.1.size + (rdOf ByteArray.empty y275 bt278.1).size ≤ 9223372036854775807 then ((spec_l20Sentence.f kj2 s0_0 bt278.2 (wrap64 (a1 - 1))).bind fun bt281 => (if 1 + bt273.1.size + (rdOf ByteArray.empty y275 bt278.1).size + bt281.1.size ≤ 9223372036854775807 then (if 1 + bt273.1.size + (rdOf ByteArray.empty y275 bt278.1).size + bt281.1.size + 1 ≤ 9223372036854775807 then (some (((((⟨#[91]⟩ : ByteArray) ++ bt273.1) ++ (rdOf ByteArray.empty y275 bt278.1)) ++ bt281.1) ++ (⟨#[93]⟩ : ByteArray), bt281.2)) else (none)) else (none))) else (none)) else (none)) else (none)))) else (none))))) = some (r1, r2) := by rw [if_pos rfl] at H; exact H
        clear H
        have H := H1
        clear H1
        replace H := Option.bind_eq_some_iff.mp H
        obtain ⟨⟨t269, t270⟩, A80, H⟩ := H
        replace H : (if t269 = 0 then ((spec_l20Sentence.f kj2 s0_0 t270 (wrap64 (a1 - 1))).bind fun bt271 => (if 1 + bt271.1.size ≤ 9223372036854775807 then (some ((⟨#[126]⟩ : ByteArray) ++ bt271.1, bt271.2)) else (none))) else ((spec_l20Sentence.f kj2 s0_0 t270 (wrap64 (a1 - 1))).bind fun bt273 => (if 1 + bt273.1.size ≤ 9223372036854775807 then ((some (([(⟨#[38]⟩ : ByteArray), (⟨#[124]⟩ : ByteArray)] : List ByteArray) : List ByteArray)).bind fun y275 => ((spec_l20Rd_pick.f kj2 s0_0 bt273.2 2).bind fun bt278 => (if 0 ≤ bt278.1 then (if bt278.1 < (y275.length : Int) then (if 1 + bt273.1.size + (rdOf ByteArray.empty y275 bt278.1).size ≤ 9223372036854775807 then ((spec_l20Sentence.f kj2 s0_0 bt278.2 (wrap64 (a1 - 1))).bind fun bt281 => (if 1 + bt273.1.size + (rdOf ByteArray.empty y275 bt278.1).size + bt281.1.size ≤ 9223372036854775807 then (if 1 + bt273.1.size + (rdOf ByteArray.empty y275 bt278.1).size + bt281.1.size + 1 ≤ 9223372036854775807 then (some (((((⟨#[91]⟩ : ByteArray) ++ bt273.1) ++ (rdOf ByteArray.empty y275 bt278.1)) ++ bt281.1) ++ (⟨#[93]⟩ : ByteArray), bt281.2)) else (none)) else (none))) else (none)) else (none)) else (none)))) else (none)))) = some (r1, r2) := H
        have A8 := Aside0.mk A80
        clear A80
        by_cases c9 : t269 = 0
        · rw [if_pos c9] at H
          have c9b0 : (t269 == 0) = true := beq_iff_eq.mpr c9
          have c9b1 : (t269 != 0) = false := bne_eq_false_iff_eq.mpr c9
          clear c9
          replace H := Option.bind_eq_some_iff.mp H
          obtain ⟨⟨t271, t272⟩, A100, H⟩ := H
          replace H : (if 1 + t271.size ≤ 9223372036854775807 then (some ((⟨#[126]⟩ : ByteArray) ++ t271, t272)) else (none)) = some (r1, r2) := H
          have A10 := Aside0.mk A100
          clear A100
          by_cases c11 : 1 + t271.size ≤ 9223372036854775807
          · rw [if_pos c11] at H
            have c11b0 := eq_true c11
            have c11b1 : decide (1 + t271.size ≤ 9223372036854775807) = true := decide_eq_true c11
            try have c11b2 : (9223372036854775807 < 1 + t271.size) = False := eq_false (Nat.not_lt.2 c11)
            simp only [Option.some.injEq, Prod.mk.injEq] at H
            obtain ⟨rfl, rfl⟩ := H
            go_wp2_with (first | ((with_reducible refine gate_callee (f := 43) rfl ?_); refine goesL_ (some 13) rfl rfl Try.func43 (by kernel_rfl) rfl #[.pointer (some ⟨g, 0, none⟩), .int .i64 2] rfl (by (try simp only [List.map_toArray, List.map_cons, List.map_nil]); first | done | rfl | (simp only [List.length_drop, List.length_take]; rfl)) ?_; (with_reducible refine (spec_l20Rd_pick.calls kj2 g s0_0 x1001_2 2 t269 t270 w0 _ ?side1 ?side2 A8.out).mono ?_); (case side1 => repeat (first | (with_reducible first | exact HI0.out | apply IsS78.alloc | apply IsS78.drewN | apply IsS78.drew | apply IsS78.set_1) | exact HI0.out)); (case side2 => repeat (first | (with_reducible first | exact HB.out | apply below_alloc | apply pw_below_drewN | apply below_drew1 | refine below_set ?_ (IsS78.ge HI0.out)) | exact HB.out)); rintro e w12 ⟨rfl, hi, hb, hk⟩; refine ⟨_, rfl, ?_⟩; have n0_ := Aside0.mk (KeepBut.trans (by repeat (first | (with_reducible first | exact HK.out | apply KeepBut.set_ | apply keep_drewN | apply keep_drew | apply keep_alloc) | exact HK.out)) hk (.inl rfl)); have n1_ := Aside0.mk (hb); have n2_ := Aside0.mk (hi); clear HK; clear HB; clear HI0; have HK := n0_; have HB := n1_; have HI0 := n2_; clear n0_ n1_ n2_; (try clear hb); (try clear hb2); (try clear hk); (try clear hi)) | ((with_reducible refine gate_callee (f := 61) rfl ?_); refine goesL_ (some 18) rfl rfl Try.func61 (by kernel_rfl) rfl #[.pointer (some ⟨g, 0, none⟩), .int .i64 (wrap64 (a1 - 1))] rfl (by (try simp only [List.map_toArray, List.map_cons, List.map_nil]); first | done | rfl | (simp only [List.length_drop, List.length_take]; rfl)) ?_; (with_reducible refine (ih kj2 (by have := HJ2.out; omega) g s0_0 t270 (wrap64 (a1 - 1)) t271 t272 w0 _ ?side1 ?side2 A10.out).mono ?_); (case side1 => repeat (first | (with_reducible first | exact HI0.out | apply IsS78.alloc | apply IsS78.drewN | apply IsS78.drew | apply IsS78.set_1) | exact HI0.out)); (case side2 => repeat (first | (with_reducible first | exact HB.out | apply below_alloc | apply pw_below_drewN | apply below_drew1 | refine below_set ?_ (IsS78.ge HI0.out)) | exact HB.out)); rintro e w13 ⟨rfl, hi, hb, hk⟩; refine ⟨_, rfl, ?_⟩; have n0_ := Aside0.mk (KeepBut.trans (by repeat (first | (with_reducible first | exact HK.out | apply KeepBut.set_ | apply keep_drewN | apply keep_drew | apply keep_alloc) | exact HK.out)) hk (.inl rfl)); have n1_ := Aside0.mk (hb); have n2_ := Aside0.mk (hi); clear HK; clear HB; clear HI0; have HK := n0_; have HB := n1_; have HI0 := n2_; clear n0_ n1_ n2_; (try clear hb); (try clear hb2); (try clear hk); (try clear hi)))
            go_ret
            exact ⟨by first | rfl | (simp [errW_none, errW_some] <;> rfl) | (simp [*, errW_none, errW_some] <;> rfl), by repeat (first | (with_reducible first | exact HI0.out | apply IsS78.alloc | apply IsS78.drewN | apply IsS78.drew | apply IsS78.set_1) | exact HI0.out), by repeat (first | (with_reducible first | exact HB.out | apply below_alloc | apply pw_below_drewN | apply below_drew1 | refine below_set ?_ (IsS78.ge HI0.out)) | exact HB.out), by repeat (first | (with_reducible first | exact HK.out | apply KeepBut.set_ | apply keep_drewN | apply keep_drew | apply keep_alloc) | exact HK.out)⟩
          · rw [if_neg c11] at H
            exact absurd H (by simp)
        · rw [if_neg c9] at H
          have c9b0 : (t269 == 0) = false := beq_eq_false_iff_ne.mpr c9
          have c9b1 : (t269 != 0) = true := bne_iff_ne.mpr c9
          replace H := Option.bind_eq_some_iff.mp H
          obtain ⟨⟨t273, t274⟩, A140, H⟩ := H
          replace H : (if 1 + t273.size ≤ 9223372036854775807 then ((some (([(⟨#[38]⟩ : ByteArray), (⟨#[124]⟩ : ByteArray)] : List ByteArray) : List ByteArray)).bind fun y275 => ((spec_l20Rd_pick.f kj2 s0_0 t274 2).bind fun bt278 => (if 0 ≤ bt278.1 then (if bt278.1 < (y275.length : Int) then (if 1 + t273.size + (rdOf ByteArray.empty y275 bt278.1).size ≤ 9223372036854775807 then ((spec_l20Sentence.f kj2 s0_0 bt278.2 (wrap64 (a1 - 1))).bind fun bt281 => (if 1 + t273.size + (rdOf ByteArray.empty y275 bt278.1).size + bt281.1.size ≤ 9223372036854775807 then (if 1 + t273.size + (rdOf ByteArray.empty y275 bt278.1).size + bt281.1.size + 1 ≤ 9223372036854775807 then (some (((((⟨#[91]⟩ : ByteArray) ++ t273) ++ (rdOf ByteArray.empty y275 bt278.1)) ++ bt281.1) ++ (⟨#[93]⟩ : ByteArray), bt281.2)) else (none)) else (none))) else (none)) else (none)) else (none)))) else (none)) = some (r1, r2) := H
          have A14 := Aside0.mk A140
          clear A140
          by_cases c15 : 1 + t273.size ≤ 9223372036854775807
          · rw [if_pos c15] at H
            have c15b0 := eq_true c15
            have c15b1 : decide (1 + t273.size ≤ 9223372036854775807) = true := decide_eq_true c15
            try have c15b2 : (9223372036854775807 < 1 + t273.size) = False := eq_false (Nat.not_lt.2 c15)
            obtain ⟨y275, hy275⟩ : ∃ y_ : List ByteArray, y_ = (([(⟨#[38]⟩ : ByteArray), (⟨#[124]⟩ : ByteArray)] : List ByteArray)) := ⟨_, rfl⟩
            replace H : ((spec_l20Rd_pick.f kj2 s0_0 t274 2).bind fun bt278 => (if 0 ≤ bt278.1 then (if bt278.1 < (y275.length : Int) then (if 1 + t273.size + (rdOf ByteArray.empty y275 bt278.1).size ≤ 9223372036854775807 then ((spec_l20Sentence.f kj2 s0_0 bt278.2 (wrap64 (a1 - 1))).bind fun bt281 => (if 1 + t273.size + (rdOf ByteArray.empty y275 bt278.1).size + bt281.1.size ≤ 9223372036854775807 then (if 1 + t273.size + (rdOf ByteArray.empty y275 bt278.1).size + bt281.1.size + 1 ≤ 9223372036854775807 then (some (((((⟨#[91]⟩ : ByteArray) ++ t273) ++ (rdOf ByteArray.empty y275 bt278.1)) ++ bt281.1) ++ (⟨#[93]⟩ : ByteArray), bt281.2)) else (none)) else (none))) else (none)) else (none)) else (none))) = some (r1, r2) := by first | (rw [hy275]; with_reducible exact H) | (have H2_ := (Option.bind_some _ _).symm.trans H; rw [hy275]; with_reducible exact H2_) | (have H2_ := (Option.bind_some _ _).symm.trans H; with_reducible exact H2_) | with_reducible exact H | (rw [hy275]; exact H) | exact H
            have Ny275 := Aside0.mk hy275
            clear hy275
            replace H := Option.bind_eq_some_iff.mp H
            obtain ⟨⟨t278, t279⟩, A160, H⟩ := H
            replace H : (if 0 ≤ t278 then (if t278 < (y275.length : Int) then (if 1 + t273.size + (rdOf ByteArray.empty y275 t278).size ≤ 9223372036854775807 then ((spec_l20Sentence.f kj2 s0_0 t279 (wrap64 (a1 - 1))).bind fun bt281 => (if 1 + t273.size + (rdOf ByteArray.empty y275 t278).size + bt281.1.size ≤ 9223372036854775807 then (if 1 + t273.size + (rdOf ByteArray.empty y275 t278).size + bt281.1.size + 1 ≤ 9223372036854775807 then (some (((((⟨#[91]⟩ : ByteArray) ++ t273) ++ (rdOf ByteArray.empty y275 t278)) ++ bt281.1) ++ (⟨#[93]⟩ : ByteArray), bt281.2)) else (none)) else (none))) else (none)) else (none)) else (none)) = some (r1, r2) := H
            have A16 := Aside0.mk A160
            clear A160
            by_cases c17 : 0 ≤ t278
            · rw [if_pos c17] at H
              have c17b0 : decide (0 ≤ t278) = true := decide_eq_true c17
              clear c17
              by_cases c18 : t278 < (y275.length : Int)
              · rw [if_pos c18] at H
                have c18b0 : decide (t278 < (y275.length : Int)) = true := decide_eq_true c18
                clear c18
                by_cases c19 : 1 + t273.size + (rdOf ByteArray.empty y275 t278).size ≤ 9223372036854775807
                · rw [if_pos c19] at H
                  have c19b0 := eq_true c19
                  have c19b1 : decide (1 + t273.size + (rdOf ByteArray.empty y275 t278).size ≤ 9223372036854775807) = true := decide_eq_true c19
                  try have c19b2 : (9223372036854775807 < 1 + t273.size + (rdOf ByteArray.empty y275 t278).size) = False := eq_false (Nat.not_lt.2 c19)
                  replace H := Option.bind_eq_some_iff.mp H
                  obtain ⟨⟨t281, t282⟩, A200, H⟩ := H
                  replace H : (if 1 + t273.size + (rdOf ByteArray.empty y275 t278).size + t281.size ≤ 9223372036854775807 then (if 1 + t273.size + (rdOf ByteArray.empty y275 t278).size + t281.size + 1 ≤ 9223372036854775807 then (some (((((⟨#[91]⟩ : ByteArray) ++ t273) ++ (rdOf ByteArray.empty y275 t278)) ++ t281) ++ (⟨#[93]⟩ : ByteArray), t282)) else (none)) else (none)) = some (r1, r2) := H
                  have A20 := Aside0.mk A200
                  clear A200
                  by_cases c21 : 1 + t273.size + (rdOf ByteArray.empty y275 t278).size + t281.size ≤ 9223372036854775807
                  · rw [if_pos c21] at H
                    have c21b0 := eq_true c21
                    have c21b1 : decide (1 + t273.size + (rdOf ByteArray.empty y275 t278).size + t281.size ≤ 9223372036854775807) = true := decide_eq_true c21
                    try have c21b2 : (9223372036854775807 < 1 + t273.size + (rdOf ByteArray.empty y275 t278).size + t281.size) = False := eq_false (Nat.not_lt.2 c21)
                    by_cases c22 : 1 + t273.size + (rdOf ByteArray.empty y275 t278).size + t281.size + 1 ≤ 9223372036854775807
                    · rw [if_pos c22] at H
                      have c22b0 := eq_true c22
                      have c22b1 : decide (1 + t273.size + (rdOf ByteArray.empty y275 t278).size + t281.size + 1 ≤ 9223372036854775807) = true := decide_eq_true c22
                      try have c22b2 : (9223372036854775807 < 1 + t273.size + (rdOf ByteArray.empty y275 t278).size + t281.size + 1) = False := eq_false (Nat.not_lt.2 c22)
                      simp only [Option.some.injEq, Prod.mk.injEq] at H
                      obtain ⟨rfl, rfl⟩ := H
                      try go_wp2_with (first | ((with_reducible refine gate_callee (f := 43) rfl ?_); refine goesL_ (some 13) rfl rfl Try.func43 (by kernel_rfl) rfl #[.pointer (some ⟨g, 0, none⟩), .int .i64 2] rfl (by (try simp only [List.map_toArray, List.map_cons, List.map_nil]); first | done | rfl | (simp only [List.length_drop, List.length_take]; rfl)) ?_; (with_reducible refine (spec_l20Rd_pick.calls kj2 g s0_0 x1001_2 2 t269 t270 w0 _ ?side1 ?side2 A8.out).mono ?_); (case side1 => repeat (first | (with_reducible first | exact HI0.out | apply IsS78.alloc | apply IsS78.drewN | apply IsS78.drew | apply IsS78.set_1) | exact HI0.out)); (case side2 => repeat (first | (with_reducible first | exact HB.out | apply below_alloc | apply pw_below_drewN | apply below_drew1 | refine below_set ?_ (IsS78.ge HI0.out)) | exact HB.out)); rintro e w23 ⟨rfl, hi, hb, hk⟩; refine ⟨_, rfl, ?_⟩; have n0_ := Aside0.mk (KeepBut.trans (by repeat (first | (with_reducible first | exact HK.out | apply KeepBut.set_ | apply keep_drewN | apply keep_drew | apply keep_alloc) | exact HK.out)) hk (.inl rfl)); have n1_ := Aside0.mk (hb); have n2_ := Aside0.mk (hi); clear HK; clear HB; clear HI0; have HK := n0_; have HB := n1_; have HI0 := n2_; clear n0_ n1_ n2_; (try clear hb); (try clear hb2); (try clear hk); (try clear hi)))
                      have pi280 : (0 ≤ (t278 : Int)) = True := eq_true (of_decide_eq_true (by first | (with_reducible assumption) | assumption))
                      have qi280 : (t278 < (y275.length : Int)) = True := eq_true (of_decide_eq_true (by first | (with_reducible assumption) | assumption))
                      have n0_ := Aside0.mk (IsS78.drew HI0.out)
                      have n1_ := Aside0.mk (keep_drew HK.out)
                      have n2_ := Aside0.mk (below_drew1 HB.out)
                      clear HI0
                      clear HK
                      clear HB
                      have HI0 := n0_
                      have HK := n1_
                      have HB := n2_
                      clear n0_ n1_ n2_
                      refine start_ (n := 18) (S := fun w' => True) (ds := []) #[false, false, false, false, false, false, false, false, false, false, false, false, false, false, false, false, false, false] (by kernel_rfl) rfl rfl trivial (fun hHeld => ?_); refine with_tabW spec_l20Sentence.tab4 spec_l20Sentence.bits4 (fun HT_ HW_ => ?_)
                      generalize w23.drew = w24 at HI0 HK HB hHeld ⊢
                      refine pure_ (i := 0) (N := some 20) (v := ?_) (a' := ?_) #[true, false, false, false, false, false, false, false, false, false, false, false, false, false, false, false, false, false] rfl rfl (any_of HT_.out (by kernel_rfl)) (fun _ _ _ h => h) (Or.inl ⟨by rfl, ?_⟩) ?_ ?_
                      rotate_left
                      · intro w'
                        go_simp
                        with_reducible rfl
                      rotate_left
                      · simp only [Act.put, List.setIfInBounds_toArray, List.set_cons_zero, List.set_cons_succ, i64_w, i32_w]
                        rfl
                      refine pure_ (i := 1) (N := some 21) (v := ?_) (a' := ?_) #[true, true, false, false, false, false, false, false, false, false, false, false, false, false, false, false, false, false] rfl rfl (any_of HT_.out (by kernel_rfl)) (fun _ _ _ h => h) (Or.inl ⟨by rfl, ?_⟩) ?_ ?_
                      rotate_left
                      · intro w'
                        go_simp
                        with_reducible rfl
                      rotate_left
                      · simp only [Act.put, List.setIfInBounds_toArray, List.set_cons_zero, List.set_cons_succ, i64_w, i32_w]
                        rfl
                      refine pure_ (i := 6) (N := some 26) (v := ?_) (a' := ?_) #[true, true, false, false, false, false, true, false, false, false, false, false, false, false, false, false, false, false] rfl rfl (any_of HT_.out (by kernel_rfl)) (fun _ _ _ h => h) (Or.inl ⟨by rfl, ?_⟩) ?_ ?_
                      rotate_left
                      · intro w'
                        go_simp
                        with_reducible rfl
                      rotate_left
                      · simp only [Act.put, List.setIfInBounds_toArray, List.set_cons_zero, List.set_cons_succ, i64_w, i32_w]
                        rfl
                      refine pure_ (i := 11) (N := some 31) (v := ?_) (a' := ?_) #[true, true, false, false, false, false, true, false, false, false, false, true, false, false, false, false, false, false] rfl rfl (any_of HT_.out (by kernel_rfl)) (fun _ _ _ h => h) (Or.inl ⟨by rfl, ?_⟩) ?_ ?_
                      rotate_left
                      · intro w'
                        go_simp
                        with_reducible rfl
                      rotate_left
                      · simp only [Act.put, List.setIfInBounds_toArray, List.set_cons_zero, List.set_cons_succ, i64_w, i32_w]
                        rfl
                      refine pure_ (i := 12) (N := some 32) (v := ?_) (a' := ?_) #[true, true, false, false, false, false, true, false, false, false, false, true, true, false, false, false, false, false] rfl rfl (any_of HT_.out (by kernel_rfl)) (fun _ _ _ h => h) (Or.inl ⟨by rfl, ?_⟩) ?_ ?_
                      rotate_left
                      · intro w'
                        go_simp
                        with_reducible rfl
                      rotate_left
                      · simp only [Act.put, List.setIfInBounds_toArray, List.set_cons_zero, List.set_cons_succ, i64_w, i32_w]
                        rfl
                      refine inv_at [2, 3, 4, 5, 7, 8, 9, 10, 13, 14, 15, 16, 17] (fun a0_ b a w' => ∃ (v276 : Value) (adz_v276 : Addr) (m8_ : Value), a = putSel a0_ b [(2, 22, .int .i64 (wrap64 (a1 - 1))), (3, 23, .string t273), (4, 24, .string ((⟨#[91]⟩ : ByteArray) ++ t273)), (5, 25, v276), (7, 27, .int .i64 t278), (8, 28, m8_), (9, 29, .string (rdOf ByteArray.empty y275 t278)), (10, 30, .string (((⟨#[91]⟩ : ByteArray) ++ t273) ++ (rdOf ByteArray.empty y275 t278))), (13, 33, .int .i64 (wrap64 (a1 - 1))), (14, 34, .string t281), (15, 35, .string ((((⟨#[91]⟩ : ByteArray) ++ t273) ++ (rdOf ByteArray.empty y275 t278)) ++ t281)), (16, 36, .string (((((⟨#[91]⟩ : ByteArray) ++ t273) ++ (rdOf ByteArray.empty y275 t278)) ++ t281) ++ (⟨#[93]⟩ : ByteArray))), (17, 4, .string (((((⟨#[91]⟩ : ByteArray) ++ t273) ++ (rdOf ByteArray.empty y275 t278)) ++ t281) ++ (⟨#[93]⟩ : ByteArray)))] ∧ (b 3 = false → IsS78 w0 w' g s0_0 t270) ∧ (KeepBut w w' g none) ∧ (Below w0.heap.size w0 w') ∧ (b 3 = true → b 7 = false → IsS78 w0 w' g s0_0 t274) ∧ (b 5 = true → Kd.R Kd.string 9 w' w.heap.size (fun _ => True) v276 y275) ∧ (b 5 = true → ∃ c_, (v276 : Value) = .slice (some adz_v276) y275.length c_) ∧ (b 7 = true → b 14 = false → IsS78 w0 w' g s0_0 t279) ∧ (b 14 = true → IsS78 w0 w' g s0_0 t282) ∧ (b 8 = true → (m8_ : Value) = .pointer (some (adz_v276.add (t278).toNat)))) HT_.out HW_.out (by kernel_rfl) (by kernel_rfl) ?_ ?_ ?_
                      · exact ⟨.bool false, ⟨0, 0, none⟩, .bool false, by simp only [putSel, Bool.false_eq_true, if_false], fun _ => HI0.out, HK.out, HB.out, fun h_ => absurd h_ (by decide), fun h_ => absurd h_ (by decide), fun h_ => absurd h_ (by decide), fun h_ => absurd h_ (by decide), fun h_ => absurd h_ (by decide), fun h_ => absurd h_ (by decide)⟩
                      · skip
                        clear HB HI0 HK
                        refine steps_cons ?_ ?_
                        · rintro b a w' ⟨v276, adz_v276, m8_, ha, Q_HI0, Q_HK, Q_HB, Q_HI0_e3, Q_HO277, Q_HA_HO277, Q_HI0_e7, Q_HI0_e14, Q_X8_⟩ hb_ hon hoff
                          refine ⟨_, rfl, fun K hK => ?_⟩
                          have e21 : a.tmps[21]? = some (.int .i64 a1) := by rw [ha]; exact (putSel_off rfl).trans rfl
                          replace ha := Aside0.mk ha
                          have HI0 := Aside0.mk (Q_HI0 (hoff 3 (by kernel_rfl)))
                          have HK := Aside0.mk Q_HK
                          have HB := Aside0.mk Q_HB
                          refine value_ (w1 := w') (v := .int .i64 (wrap64 (a1 - 1))) (by rfl) rfl ?_ ?_
                          · go_simp
                            (try simp only [i64_w])
                            try rfl
                            try (simp only [ByteArray.size_extract, eq_iff_iff, iff_true, iff_false, decide_eq_true_eq] at *; omega)
                          refine hK.out _ _ ⟨v276, adz_v276, m8_, (by rw [ha.out]; exact putSel_upk 0 hb_ rfl rfl rfl), Q_HI0, Q_HK, Q_HB, fun h0_ _ => absurd ((hoff 3 (by kernel_rfl)).symm.trans h0_) (by decide), Q_HO277, Q_HA_HO277, fun h0_ _ => absurd ((hoff 7 (by kernel_rfl)).symm.trans h0_) (by decide), fun h0_ => absurd ((hoff 14 (by kernel_rfl)).symm.trans h0_) (by decide), fun h0_ => absurd ((hoff 8 (by kernel_rfl)).symm.trans h0_) (by decide)⟩
                        refine steps_cons ?_ ?_
                        · rintro b a w' ⟨v276, adz_v276, m8_, ha, Q_HI0, Q_HK, Q_HB, Q_HI0_e3, Q_HO277, Q_HA_HO277, Q_HI0_e7, Q_HI0_e14, Q_X8_⟩ hb_ hon hoff
                          refine ⟨_, rfl, fun K hK => ?_⟩
                          have e20 : a.tmps[20]? = some (.pointer (some ⟨g, 0, none⟩)) := by rw [ha]; exact (putSel_off rfl).trans rfl
                          have e22 : a.tmps[22]? = some (.int .i64 (wrap64 (a1 - 1))) := by rw [ha]; exact putSel_on (e := (2, 22, .int .i64 (wrap64 (a1 - 1)))) 0 rfl rfl (hon 2 (by kernel_rfl)) rfl
                          replace ha := Aside0.mk ha
                          have HI0 := Aside0.mk (Q_HI0 hb_)
                          have HK := Aside0.mk Q_HK
                          have HB := Aside0.mk Q_HB
                          refine goes_ Try.func61 (by kernel_rfl) rfl #[.pointer (some ⟨g, 0, none⟩), .int .i64 (wrap64 (a1 - 1))] (by rfl) rfl rfl (by first | (simp only [List.map_toArray, List.map_cons, List.map_nil, Act.eval, Array.getD_eq_getD_getElem?, Option.getD_some, e20, e22]; done) | (simp only [List.map_toArray, List.map_cons, List.map_nil, Act.eval, Array.getD_eq_getD_getElem?, Option.getD_some, e20, e22]; rfl)) ?_
                          with_reducible refine (ih kj2 (by have := HJ2.out; omega) g s0_0 t270 (wrap64 (a1 - 1)) t273 t274 w0 _ ?side1 ?side2 A14.out).mono ?_
                          (case side1 => repeat (first | (with_reducible first | exact HI0.out | apply IsS78.alloc | apply IsS78.drewN | apply IsS78.drew | apply IsS78.set_1) | exact HI0.out))
                          (case side2 => repeat (first | (with_reducible first | exact HB.out | apply below_alloc | apply pw_below_drewN | apply below_drew1 | refine below_set ?_ (IsS78.ge HI0.out)) | exact HB.out))
                          rintro e w25 ⟨rfl, hi, hb, hk⟩
                          refine ⟨_, rfl, ?_⟩
                          have n0_ := Aside0.mk (KeepBut.trans (by repeat (first | (with_reducible first | exact HK.out | apply KeepBut.set_ | apply keep_drewN | apply keep_drew | apply keep_alloc) | exact HK.out)) hk (.inl rfl))
                          have n1_ := Aside0.mk (hb)
                          have n2_ := Aside0.mk (hi)
                          have z_HO277 := fun (h0_ : b 5 = true) => (show Kd.R Kd.string 9 w25 w.heap.size (fun _ => True) v276 y275 from by first | exact (Kd.R_mono (Kd.R_keep (IsS78.apart (show IsS78 w0 _ g s0_0 t270 from by repeat (first | (with_reducible first | exact HI0.out | apply IsS78.alloc | apply IsS78.drewN | apply IsS78.drew | apply IsS78.set_1) | exact HI0.out)) (by (with_reducible repeat (first | apply Kd.R_alloc | apply Kd.R_drewN | apply Kd.R_drew)); exact (Q_HO277 h0_)) (by decide)) hk (fun _ h => h.2)) (fun _ h => h.1)) | exact Kd.R_mono (Kd.R_mono (Kd.R_keep (IsS78.apart (show IsS78 w0 _ g s0_0 t270 from by repeat (first | (with_reducible first | exact HI0.out | apply IsS78.alloc | apply IsS78.drewN | apply IsS78.drew | apply IsS78.set_1) | exact HI0.out)) (by (with_reducible repeat (first | apply Kd.R_alloc | apply Kd.R_drewN | apply Kd.R_drew)); exact (Q_HO277 h0_)) (by decide)) hk (fun _ h => h.2)) (fun _ h => h.1)) (fun _ h_ => by first | trivial | exact h_ | exact h_.1))
                          clear HK
                          clear HB
                          clear HI0
                          have HK := n0_
                          have HB := n1_
                          have HI0 := n2_
                          clear n0_ n1_ n2_
                          (try clear hb)
                          (try clear hb2)
                          (try clear hk)
                          (try clear hi)
                          refine hK.out _ _ ⟨v276, adz_v276, m8_, (by rw [ha.out]; exact putSel_upk 1 hb_ rfl rfl rfl), fun h0_ => absurd ((up_self b 3).symm.trans h0_) (by decide), (by repeat (first | (with_reducible first | exact HK.out | apply KeepBut.set_ | apply keep_drewN | apply keep_drew | apply keep_alloc) | exact HK.out)), (by repeat (first | (with_reducible first | exact HB.out | apply below_alloc | apply pw_below_drewN | apply below_drew1 | refine below_set ?_ (IsS78.ge HI0.out)) | exact HB.out)), fun _ _ => (by repeat (first | (with_reducible first | exact HI0.out | apply IsS78.alloc | apply IsS78.drewN | apply IsS78.drew | apply IsS78.set_1) | exact HI0.out)), z_HO277, Q_HA_HO277, fun h0_ _ => absurd ((hoff 7 (by kernel_rfl)).symm.trans h0_) (by decide), fun h0_ => absurd ((hoff 14 (by kernel_rfl)).symm.trans h0_) (by decide), fun h0_ => absurd ((hoff 8 (by kernel_rfl)).symm.trans h0_) (by decide)⟩
                        refine steps_cons ?_ ?_
                        · rintro b a w' ⟨v276, adz_v276, m8_, ha, Q_HI0, Q_HK, Q_HB, Q_HI0_e3, Q_HO277, Q_HA_HO277, Q_HI0_e7, Q_HI0_e14, Q_X8_⟩ hb_ hon hoff
                          refine ⟨_, rfl, fun K hK => ?_⟩
                          have e23 : a.tmps[23]? = some (.string t273) := by rw [ha]; exact putSel_on (e := (3, 23, .string t273)) 1 rfl rfl (hon 3 (by kernel_rfl)) rfl
                          replace ha := Aside0.mk ha
                          have HK := Aside0.mk Q_HK
                          have HB := Aside0.mk Q_HB
                          refine value_ (w1 := w') (v := .string ((⟨#[91]⟩ : ByteArray) ++ t273)) (by rfl) rfl ?_ ?_
                          · go_simp
                            (try simp only [i64_w])
                            try rfl
                            try (simp only [ByteArray.size_extract, eq_iff_iff, iff_true, iff_false, decide_eq_true_eq] at *; omega)
                          refine hK.out _ _ ⟨v276, adz_v276, m8_, (by rw [ha.out]; exact putSel_upk 2 hb_ rfl rfl rfl), fun h0_ => absurd ((hon 3 (by kernel_rfl)).symm.trans h0_) (by decide), Q_HK, Q_HB, Q_HI0_e3, Q_HO277, Q_HA_HO277, Q_HI0_e7, Q_HI0_e14, Q_X8_⟩
                        refine steps_cons ?_ ?_
                        · rintro b a w' ⟨v276, adz_v276, m8_, ha, Q_HI0, Q_HK, Q_HB, Q_HI0_e3, Q_HO277, Q_HA_HO277, Q_HI0_e7, Q_HI0_e14, Q_X8_⟩ hb_ hon hoff
                          refine ⟨_, rfl, fun K hK => ?_⟩
                          replace ha := Aside0.mk ha
                          have HK := Aside0.mk Q_HK
                          have HB := Aside0.mk Q_HB
                          refine Kd.R_lit_step Kd.string _ 9 ?hg (N := 25) ?hd (xs := ([(⟨#[38]⟩ : ByteArray), (⟨#[124]⟩ : ByteArray)] : List ByteArray)) (inner := [.string (⟨#[38]⟩ : ByteArray), .string (⟨#[124]⟩ : ByteArray)]) (ok := fun _ => True) (okp := fun _ => True) ?hr ?hp (fun _ hk => hk) trivial (Below.refl _ _) (Nat.le_refl _) (by simp) ?_; (case hd => rfl); (case hg => rfl); (case hr => first | (go_simp; done) | (go_simp; rfl)); (case hp => exact (Reps.one (show Kd.M Kd.string _ _ _ (⟨#[38]⟩ : ByteArray) [.string (⟨#[38]⟩ : ByteArray)] from rfl) (Reps.one (show Kd.M Kd.string _ _ _ (⟨#[124]⟩ : ByteArray) [.string (⟨#[124]⟩ : ByteArray)] from rfl) (Reps.none _ _))))
                          intro v276 w25 ho26 hb hg_ hnew_
                          clear hg_ hnew_
                          (first | rw [← Ny275.out] at ho26 | (simp only [Int.reduceToNat] at ho26; rw [← Ny275.out] at ho26))
                          have n0_ := Aside0.mk (Kd.R_lower ho26 (keep_size (w := w) (g := g) (row := none) (by repeat (first | (with_reducible first | exact HK.out | apply KeepBut.set_ | apply keep_drewN | apply keep_drew | apply keep_alloc) | exact HK.out))))
                          have n2_ := Aside0.mk (KeepBut.trans (by repeat (first | (with_reducible first | exact HK.out | apply KeepBut.set_ | apply keep_drewN | apply keep_drew | apply keep_alloc) | exact HK.out)) (KeepBut.of_below hb g none) (.inl rfl))
                          have n3_ := Aside0.mk (below_step (by repeat (first | (with_reducible first | exact HB.out | apply below_alloc | apply pw_below_drewN | apply below_drew1) | exact HB.out)) hb)
                          have z_HI0 := fun (h0_ : b 3 = false) => (show IsS78 w0 w25 g s0_0 t270 from by first | exact (IsS78.below (by repeat (first | (with_reducible first | exact (Q_HI0 h0_) | apply IsS78.alloc | apply IsS78.drewN | apply IsS78.drew | apply IsS78.set_1) | exact (Q_HI0 h0_))) hb))
                          have z_HI0_e3 := fun (h0_ : b 3 = true) (h1_ : b 7 = false) => (show IsS78 w0 w25 g s0_0 t274 from by first | exact (IsS78.below (by repeat (first | (with_reducible first | exact (Q_HI0_e3 h0_ h1_) | apply IsS78.alloc | apply IsS78.drewN | apply IsS78.drew | apply IsS78.set_1) | exact (Q_HI0_e3 h0_ h1_))) hb))
                          have z_HI0_e7 := fun (h0_ : b 7 = true) (h1_ : b 14 = false) => (show IsS78 w0 w25 g s0_0 t279 from by first | exact (IsS78.below (by repeat (first | (with_reducible first | exact (Q_HI0_e7 h0_ h1_) | apply IsS78.alloc | apply IsS78.drewN | apply IsS78.drew | apply IsS78.set_1) | exact (Q_HI0_e7 h0_ h1_))) hb))
                          have z_HI0_e14 := fun (h0_ : b 14 = true) => (show IsS78 w0 w25 g s0_0 t282 from by first | exact (IsS78.below (by repeat (first | (with_reducible first | exact (Q_HI0_e14 h0_) | apply IsS78.alloc | apply IsS78.drewN | apply IsS78.drew | apply IsS78.set_1) | exact (Q_HI0_e14 h0_))) hb))
                          clear HK
                          clear HB
                          have HO277 := n0_
                          have HK := n2_
                          have HB := n3_
                          clear n0_ n2_ n3_
                          clear hb ho26
                          obtain ⟨Ao27, co27, eo27⟩ := Kd.R_slice HO277.out
                          subst eo27
                          obtain ⟨ado27, fo27, _⟩ := Kd.at_string (Kd.R_reads' HO277.out).2.2 0 (by decide) (by rw [Ny275.out]; simp)
                          cases fo27
                          refine hK.out _ _ ⟨.slice (some ado27) y275.length co27, ado27, m8_, (by rw [ha.out]; exact putSel_upk 3 hb_ rfl rfl rfl), z_HI0, (by repeat (first | (with_reducible first | exact HK.out | apply KeepBut.set_ | apply keep_drewN | apply keep_drew | apply keep_alloc) | exact HK.out)), (by repeat (first | (with_reducible first | exact HB.out | apply below_alloc | apply pw_below_drewN | apply below_drew1) | exact HB.out)), z_HI0_e3, fun _ => (by (with_reducible repeat (first | apply Kd.R_alloc | apply Kd.R_drewN | apply Kd.R_drew)); exact HO277.out), fun _ => ⟨_, rfl⟩, z_HI0_e7, z_HI0_e14, fun h0_ => absurd ((hoff 8 (by kernel_rfl)).symm.trans h0_) (by decide)⟩
                        refine steps_cons ?_ ?_
                        · rintro b a w' ⟨v276, adz_v276, m8_, ha, Q_HI0, Q_HK, Q_HB, Q_HI0_e3, Q_HO277, Q_HA_HO277, Q_HI0_e7, Q_HI0_e14, Q_X8_⟩ hb_ hon hoff
                          refine ⟨_, rfl, fun K hK => ?_⟩
                          have e26 : a.tmps[26]? = some (.pointer (some ⟨g, 0, none⟩)) := by rw [ha]; exact (putSel_off rfl).trans rfl
                          replace ha := Aside0.mk ha
                          have HK := Aside0.mk Q_HK
                          have HB := Aside0.mk Q_HB
                          have HI0 := Aside0.mk (Q_HI0_e3 (hon 3 (by kernel_rfl)) hb_)
                          refine goes_ Try.func43 (by kernel_rfl) rfl #[.pointer (some ⟨g, 0, none⟩), .int .i64 2] (by rfl) rfl rfl (by first | (simp only [List.map_toArray, List.map_cons, List.map_nil, Act.eval, Array.getD_eq_getD_getElem?, Option.getD_some, e26]; done) | (simp only [List.map_toArray, List.map_cons, List.map_nil, Act.eval, Array.getD_eq_getD_getElem?, Option.getD_some, e26]; rfl)) ?_
                          with_reducible refine (spec_l20Rd_pick.calls kj2 g s0_0 t274 2 t278 t279 w0 _ ?side1 ?side2 A16.out).mono ?_
                          (case side1 => repeat (first | (with_reducible first | exact HI0.out | apply IsS78.alloc | apply IsS78.drewN | apply IsS78.drew | apply IsS78.set_1) | exact HI0.out))
                          (case side2 => repeat (first | (with_reducible first | exact HB.out | apply below_alloc | apply pw_below_drewN | apply below_drew1 | refine below_set ?_ (IsS78.ge HI0.out)) | exact HB.out))
                          rintro e w27 ⟨rfl, hi, hb, hk⟩
                          refine ⟨_, rfl, ?_⟩
                          have n0_ := Aside0.mk (KeepBut.trans (by repeat (first | (with_reducible first | exact HK.out | apply KeepBut.set_ | apply keep_drewN | apply keep_drew | apply keep_alloc) | exact HK.out)) hk (.inl rfl))
                          have n1_ := Aside0.mk (hb)
                          have n2_ := Aside0.mk (hi)
                          have z_HO277 := fun (h0_ : b 5 = true) => (show Kd.R Kd.string 9 w27 w.heap.size (fun _ => True) v276 y275 from by first | exact (Kd.R_mono (Kd.R_keep (IsS78.apart (show IsS78 w0 _ g s0_0 t274 from by repeat (first | (with_reducible first | exact HI0.out | apply IsS78.alloc | apply IsS78.drewN | apply IsS78.drew | apply IsS78.set_1) | exact HI0.out)) (by (with_reducible repeat (first | apply Kd.R_alloc | apply Kd.R_drewN | apply Kd.R_drew)); exact (Q_HO277 h0_)) (by decide)) hk (fun _ h => h.2)) (fun _ h => h.1)) | exact Kd.R_mono (Kd.R_mono (Kd.R_keep (IsS78.apart (show IsS78 w0 _ g s0_0 t274 from by repeat (first | (with_reducible first | exact HI0.out | apply IsS78.alloc | apply IsS78.drewN | apply IsS78.drew | apply IsS78.set_1) | exact HI0.out)) (by (with_reducible repeat (first | apply Kd.R_alloc | apply Kd.R_drewN | apply Kd.R_drew)); exact (Q_HO277 h0_)) (by decide)) hk (fun _ h => h.2)) (fun _ h => h.1)) (fun _ h_ => by first | trivial | exact h_ | exact h_.1))
                          clear HK
                          clear HB
                          clear HI0
                          have HK := n0_
                          have HB := n1_
                          have HI0 := n2_
                          clear n0_ n1_ n2_
                          (try clear hb)
                          (try clear hb2)
                          (try clear hk)
                          (try clear hi)
                          refine hK.out _ _ ⟨v276, adz_v276, m8_, (by rw [ha.out]; exact putSel_upk 4 hb_ rfl rfl rfl), fun h0_ => absurd ((hon 3 (by kernel_rfl)).symm.trans h0_) (by decide), (by repeat (first | (with_reducible first | exact HK.out | apply KeepBut.set_ | apply keep_drewN | apply keep_drew | apply keep_alloc) | exact HK.out)), (by repeat (first | (with_reducible first | exact HB.out | apply below_alloc | apply pw_below_drewN | apply below_drew1 | refine below_set ?_ (IsS78.ge HI0.out)) | exact HB.out)), fun _ h1_ => absurd ((up_self b 7).symm.trans h1_) (by decide), z_HO277, Q_HA_HO277, fun _ _ => (by repeat (first | (with_reducible first | exact HI0.out | apply IsS78.alloc | apply IsS78.drewN | apply IsS78.drew | apply IsS78.set_1) | exact HI0.out)), fun h0_ => absurd ((hoff 14 (by kernel_rfl)).symm.trans h0_) (by decide), fun h0_ => absurd ((hoff 8 (by kernel_rfl)).symm.trans h0_) (by decide)⟩
                        refine steps_cons ?_ ?_
                        · rintro b a w' ⟨v276, adz_v276, m8_, ha, Q_HI0, Q_HK, Q_HB, Q_HI0_e3, Q_HO277, Q_HA_HO277, Q_HI0_e7, Q_HI0_e14, Q_X8_⟩ hb_ hon hoff
                          refine ⟨_, rfl, fun K hK => ?_⟩
                          have e25 : a.tmps[25]? = some (v276) := by rw [ha]; exact putSel_on (e := (5, 25, v276)) 3 rfl rfl (hon 5 (by kernel_rfl)) rfl
                          have e27 : a.tmps[27]? = some (.int .i64 t278) := by rw [ha]; exact putSel_on (e := (7, 27, .int .i64 t278)) 4 rfl rfl (hon 7 (by kernel_rfl)) rfl
                          replace ha := Aside0.mk ha
                          have HK := Aside0.mk Q_HK
                          have HB := Aside0.mk Q_HB
                          have HO277 := Aside0.mk (Q_HO277 (hon 5 (by kernel_rfl)))
                          have HA_HO277 := Aside0.mk (Q_HA_HO277 (hon 5 (by kernel_rfl)))
                          obtain ⟨c_, hv_⟩ := HA_HO277.out
                          rw [hv_] at e25
                          refine value_ (w1 := w') (v := .pointer (some (adz_v276.add (t278).toNat))) (by rfl) rfl ?_ ?_
                          · go_simp
                            (try simp only [i64_w])
                            try rfl
                            try (simp only [ByteArray.size_extract, eq_iff_iff, iff_true, iff_false, decide_eq_true_eq] at *; omega)
                          refine hK.out _ _ ⟨v276, adz_v276, (.pointer (some (adz_v276.add (t278).toNat))), (by rw [ha.out]; exact putSel_upk 5 hb_ rfl rfl rfl), fun h0_ => absurd ((hon 3 (by kernel_rfl)).symm.trans h0_) (by decide), Q_HK, Q_HB, fun _ h1_ => absurd ((hon 7 (by kernel_rfl)).symm.trans h1_) (by decide), Q_HO277, Q_HA_HO277, Q_HI0_e7, Q_HI0_e14, fun _ => rfl⟩
                        refine steps_cons ?_ ?_
                        · rintro b a w' ⟨v276, adz_v276, m8_, ha, Q_HI0, Q_HK, Q_HB, Q_HI0_e3, Q_HO277, Q_HA_HO277, Q_HI0_e7, Q_HI0_e14, Q_X8_⟩ hb_ hon hoff
                          refine ⟨_, rfl, fun K hK => ?_⟩
                          have e28 : a.tmps[28]? = some (m8_) := by rw [ha]; exact putSel_on (e := (8, 28, m8_)) 5 rfl rfl (hon 8 (by kernel_rfl)) rfl
                          rw [Q_X8_ (hon 8 (by kernel_rfl))] at e28
                          replace ha := Aside0.mk ha
                          have HK := Aside0.mk Q_HK
                          have HB := Aside0.mk Q_HB
                          have HO277 := Aside0.mk (Q_HO277 (hon 5 (by kernel_rfl)))
                          have HA_HO277 := Aside0.mk (Q_HA_HO277 (hon 5 (by kernel_rfl)))
                          obtain ⟨c_, hv_⟩ := HA_HO277.out
                          have hF_ := HO277.out
                          rw [hv_] at hF_
                          obtain ⟨ad_, ea_, hx_⟩ := Kd.at_string (Kd.R_reads' hF_).2.2 t278 (of_eq_true pi280) (of_eq_true qi280)
                          cases ea_
                          refine value_ (w1 := w') (v := .string (rdOf ByteArray.empty y275 t278)) (by rfl) rfl ?_ ?_
                          · go_simp
                            (try simp only [i64_w])
                            try rfl
                            try (simp only [ByteArray.size_extract, eq_iff_iff, iff_true, iff_false, decide_eq_true_eq] at *; omega)
                          refine hK.out _ _ ⟨v276, adz_v276, m8_, (by rw [ha.out]; exact putSel_upk 6 hb_ rfl rfl rfl), fun h0_ => absurd ((hon 3 (by kernel_rfl)).symm.trans h0_) (by decide), Q_HK, Q_HB, fun _ h1_ => absurd ((hon 7 (by kernel_rfl)).symm.trans h1_) (by decide), Q_HO277, Q_HA_HO277, Q_HI0_e7, Q_HI0_e14, Q_X8_⟩
                        refine steps_cons ?_ ?_
                        · rintro b a w' ⟨v276, adz_v276, m8_, ha, Q_HI0, Q_HK, Q_HB, Q_HI0_e3, Q_HO277, Q_HA_HO277, Q_HI0_e7, Q_HI0_e14, Q_X8_⟩ hb_ hon hoff
                          refine ⟨_, rfl, fun K hK => ?_⟩
                          have e24 : a.tmps[24]? = some (.string ((⟨#[91]⟩ : ByteArray) ++ t273)) := by rw [ha]; exact putSel_on (e := (4, 24, .string ((⟨#[91]⟩ : ByteArray) ++ t273))) 2 rfl rfl (hon 4 (by kernel_rfl)) rfl
                          have e29 : a.tmps[29]? = some (.string (rdOf ByteArray.empty y275 t278)) := by rw [ha]; exact putSel_on (e := (9, 29, .string (rdOf ByteArray.empty y275 t278))) 6 rfl rfl (hon 9 (by kernel_rfl)) rfl
                          replace ha := Aside0.mk ha
                          have HK := Aside0.mk Q_HK
                          have HB := Aside0.mk Q_HB
                          have HO277 := Aside0.mk (Q_HO277 (hon 5 (by kernel_rfl)))
                          have HA_HO277 := Aside0.mk (Q_HA_HO277 (hon 5 (by kernel_rfl)))
                          refine value_ (w1 := w') (v := .string (((⟨#[91]⟩ : ByteArray) ++ t273) ++ (rdOf ByteArray.empty y275 t278))) (by rfl) rfl ?_ ?_
                          · go_simp
                            (try simp only [i64_w])
                            try rfl
                            try (simp only [ByteArray.size_extract, eq_iff_iff, iff_true, iff_false, decide_eq_true_eq] at *; omega)
                          refine hK.out _ _ ⟨v276, adz_v276, m8_, (by rw [ha.out]; exact putSel_upk 7 hb_ rfl rfl rfl), fun h0_ => absurd ((hon 3 (by kernel_rfl)).symm.trans h0_) (by decide), Q_HK, Q_HB, fun _ h1_ => absurd ((hon 7 (by kernel_rfl)).symm.trans h1_) (by decide), Q_HO277, Q_HA_HO277, Q_HI0_e7, Q_HI0_e14, Q_X8_⟩
                        refine steps_cons ?_ ?_
                        · rintro b a w' ⟨v276, adz_v276, m8_, ha, Q_HI0, Q_HK, Q_HB, Q_HI0_e3, Q_HO277, Q_HA_HO277, Q_HI0_e7, Q_HI0_e14, Q_X8_⟩ hb_ hon hoff
                          refine ⟨_, rfl, fun K hK => ?_⟩
                          have e32 : a.tmps[32]? = some (.int .i64 a1) := by rw [ha]; exact (putSel_off rfl).trans rfl
                          replace ha := Aside0.mk ha
                          have HK := Aside0.mk Q_HK
                          have HB := Aside0.mk Q_HB
                          refine value_ (w1 := w') (v := .int .i64 (wrap64 (a1 - 1))) (by rfl) rfl ?_ ?_
                          · go_simp
                            (try simp only [i64_w])
                            try rfl
                            try (simp only [ByteArray.size_extract, eq_iff_iff, iff_true, iff_false, decide_eq_true_eq] at *; omega)
                          refine hK.out _ _ ⟨v276, adz_v276, m8_, (by rw [ha.out]; exact putSel_upk 8 hb_ rfl rfl rfl), Q_HI0, Q_HK, Q_HB, Q_HI0_e3, Q_HO277, Q_HA_HO277, Q_HI0_e7, fun h0_ => absurd ((hoff 14 (by kernel_rfl)).symm.trans h0_) (by decide), Q_X8_⟩
                        refine steps_cons ?_ ?_
                        · rintro b a w' ⟨v276, adz_v276, m8_, ha, Q_HI0, Q_HK, Q_HB, Q_HI0_e3, Q_HO277, Q_HA_HO277, Q_HI0_e7, Q_HI0_e14, Q_X8_⟩ hb_ hon hoff
                          refine ⟨_, rfl, fun K hK => ?_⟩
                          have e31 : a.tmps[31]? = some (.pointer (some ⟨g, 0, none⟩)) := by rw [ha]; exact (putSel_off rfl).trans rfl
                          have e33 : a.tmps[33]? = some (.int .i64 (wrap64 (a1 - 1))) := by rw [ha]; exact putSel_on (e := (13, 33, .int .i64 (wrap64 (a1 - 1)))) 8 rfl rfl (hon 13 (by kernel_rfl)) rfl
                          replace ha := Aside0.mk ha
                          have HK := Aside0.mk Q_HK
                          have HB := Aside0.mk Q_HB
                          have HI0 := Aside0.mk (Q_HI0_e7 (hon 7 (by kernel_rfl)) hb_)
                          refine goes_ Try.func61 (by kernel_rfl) rfl #[.pointer (some ⟨g, 0, none⟩), .int .i64 (wrap64 (a1 - 1))] (by rfl) rfl rfl (by first | (simp only [List.map_toArray, List.map_cons, List.map_nil, Act.eval, Array.getD_eq_getD_getElem?, Option.getD_some, e31, e33]; done) | (simp only [List.map_toArray, List.map_cons, List.map_nil, Act.eval, Array.getD_eq_getD_getElem?, Option.getD_some, e31, e33]; rfl)) ?_
                          with_reducible refine (ih kj2 (by have := HJ2.out; omega) g s0_0 t279 (wrap64 (a1 - 1)) t281 t282 w0 _ ?side1 ?side2 A20.out).mono ?_
                          (case side1 => repeat (first | (with_reducible first | exact HI0.out | apply IsS78.alloc | apply IsS78.drewN | apply IsS78.drew | apply IsS78.set_1) | exact HI0.out))
                          (case side2 => repeat (first | (with_reducible first | exact HB.out | apply below_alloc | apply pw_below_drewN | apply below_drew1 | refine below_set ?_ (IsS78.ge HI0.out)) | exact HB.out))
                          rintro e w28 ⟨rfl, hi, hb, hk⟩
                          refine ⟨_, rfl, ?_⟩
                          have n0_ := Aside0.mk (KeepBut.trans (by repeat (first | (with_reducible first | exact HK.out | apply KeepBut.set_ | apply keep_drewN | apply keep_drew | apply keep_alloc) | exact HK.out)) hk (.inl rfl))
                          have n1_ := Aside0.mk (hb)
                          have n2_ := Aside0.mk (hi)
                          have z_HO277 := fun (h0_ : b 5 = true) => (show Kd.R Kd.string 9 w28 w.heap.size (fun _ => True) v276 y275 from by first | exact (Kd.R_mono (Kd.R_keep (IsS78.apart (show IsS78 w0 _ g s0_0 t279 from by repeat (first | (with_reducible first | exact HI0.out | apply IsS78.alloc | apply IsS78.drewN | apply IsS78.drew | apply IsS78.set_1) | exact HI0.out)) (by (with_reducible repeat (first | apply Kd.R_alloc | apply Kd.R_drewN | apply Kd.R_drew)); exact (Q_HO277 h0_)) (by decide)) hk (fun _ h => h.2)) (fun _ h => h.1)) | exact Kd.R_mono (Kd.R_mono (Kd.R_keep (IsS78.apart (show IsS78 w0 _ g s0_0 t279 from by repeat (first | (with_reducible first | exact HI0.out | apply IsS78.alloc | apply IsS78.drewN | apply IsS78.drew | apply IsS78.set_1) | exact HI0.out)) (by (with_reducible repeat (first | apply Kd.R_alloc | apply Kd.R_drewN | apply Kd.R_drew)); exact (Q_HO277 h0_)) (by decide)) hk (fun _ h => h.2)) (fun _ h => h.1)) (fun _ h_ => by first | trivial | exact h_ | exact h_.1))
                          clear HK
                          clear HB
                          clear HI0
                          have HK := n0_
                          have HB := n1_
                          have HI0 := n2_
                          clear n0_ n1_ n2_
                          (try clear hb)
                          (try clear hb2)
                          (try clear hk)
                          (try clear hi)
                          refine hK.out _ _ ⟨v276, adz_v276, m8_, (by rw [ha.out]; exact putSel_upk 9 hb_ rfl rfl rfl), fun h0_ => absurd ((hon 3 (by kernel_rfl)).symm.trans h0_) (by decide), (by repeat (first | (with_reducible first | exact HK.out | apply KeepBut.set_ | apply keep_drewN | apply keep_drew | apply keep_alloc) | exact HK.out)), (by repeat (first | (with_reducible first | exact HB.out | apply below_alloc | apply pw_below_drewN | apply below_drew1 | refine below_set ?_ (IsS78.ge HI0.out)) | exact HB.out)), fun _ h1_ => absurd ((hon 7 (by kernel_rfl)).symm.trans h1_) (by decide), z_HO277, Q_HA_HO277, fun _ h1_ => absurd ((up_self b 14).symm.trans h1_) (by decide), fun _ => (by repeat (first | (with_reducible first | exact HI0.out | apply IsS78.alloc | apply IsS78.drewN | apply IsS78.drew | apply IsS78.set_1) | exact HI0.out)), Q_X8_⟩
                        refine steps_cons ?_ ?_
                        · rintro b a w' ⟨v276, adz_v276, m8_, ha, Q_HI0, Q_HK, Q_HB, Q_HI0_e3, Q_HO277, Q_HA_HO277, Q_HI0_e7, Q_HI0_e14, Q_X8_⟩ hb_ hon hoff
                          refine ⟨_, rfl, fun K hK => ?_⟩
                          have e30 : a.tmps[30]? = some (.string (((⟨#[91]⟩ : ByteArray) ++ t273) ++ (rdOf ByteArray.empty y275 t278))) := by rw [ha]; exact putSel_on (e := (10, 30, .string (((⟨#[91]⟩ : ByteArray) ++ t273) ++ (rdOf ByteArray.empty y275 t278)))) 7 rfl rfl (hon 10 (by kernel_rfl)) rfl
                          have e34 : a.tmps[34]? = some (.string t281) := by rw [ha]; exact putSel_on (e := (14, 34, .string t281)) 9 rfl rfl (hon 14 (by kernel_rfl)) rfl
                          replace ha := Aside0.mk ha
                          have HK := Aside0.mk Q_HK
                          have HB := Aside0.mk Q_HB
                          have HO277 := Aside0.mk (Q_HO277 (hon 5 (by kernel_rfl)))
                          have HA_HO277 := Aside0.mk (Q_HA_HO277 (hon 5 (by kernel_rfl)))
                          have HI0 := Aside0.mk (Q_HI0_e14 (hon 14 (by kernel_rfl)))
                          refine value_ (w1 := w') (v := .string ((((⟨#[91]⟩ : ByteArray) ++ t273) ++ (rdOf ByteArray.empty y275 t278)) ++ t281)) (by rfl) rfl ?_ ?_
                          · go_simp
                            (try simp only [i64_w])
                            try rfl
                            try (simp only [ByteArray.size_extract, eq_iff_iff, iff_true, iff_false, decide_eq_true_eq] at *; omega)
                          refine hK.out _ _ ⟨v276, adz_v276, m8_, (by rw [ha.out]; exact putSel_upk 10 hb_ rfl rfl rfl), fun h0_ => absurd ((hon 3 (by kernel_rfl)).symm.trans h0_) (by decide), Q_HK, Q_HB, fun _ h1_ => absurd ((hon 7 (by kernel_rfl)).symm.trans h1_) (by decide), Q_HO277, Q_HA_HO277, fun _ h1_ => absurd ((hon 14 (by kernel_rfl)).symm.trans h1_) (by decide), Q_HI0_e14, Q_X8_⟩
                        refine steps_cons ?_ ?_
                        · rintro b a w' ⟨v276, adz_v276, m8_, ha, Q_HI0, Q_HK, Q_HB, Q_HI0_e3, Q_HO277, Q_HA_HO277, Q_HI0_e7, Q_HI0_e14, Q_X8_⟩ hb_ hon hoff
                          refine ⟨_, rfl, fun K hK => ?_⟩
                          have e35 : a.tmps[35]? = some (.string ((((⟨#[91]⟩ : ByteArray) ++ t273) ++ (rdOf ByteArray.empty y275 t278)) ++ t281)) := by rw [ha]; exact putSel_on (e := (15, 35, .string ((((⟨#[91]⟩ : ByteArray) ++ t273) ++ (rdOf ByteArray.empty y275 t278)) ++ t281))) 10 rfl rfl (hon 15 (by kernel_rfl)) rfl
                          replace ha := Aside0.mk ha
                          have HK := Aside0.mk Q_HK
                          have HB := Aside0.mk Q_HB
                          have HO277 := Aside0.mk (Q_HO277 (hon 5 (by kernel_rfl)))
                          have HA_HO277 := Aside0.mk (Q_HA_HO277 (hon 5 (by kernel_rfl)))
                          have HI0 := Aside0.mk (Q_HI0_e14 (hon 14 (by kernel_rfl)))
                          refine value_ (w1 := w') (v := .string (((((⟨#[91]⟩ : ByteArray) ++ t273) ++ (rdOf ByteArray.empty y275 t278)) ++ t281) ++ (⟨#[93]⟩ : ByteArray))) (by rfl) rfl ?_ ?_
                          · go_simp
                            (try simp only [i64_w])
                            try rfl
                            try (simp only [ByteArray.size_extract, eq_iff_iff, iff_true, iff_false, decide_eq_true_eq] at *; omega)
                          refine hK.out _ _ ⟨v276, adz_v276, m8_, (by rw [ha.out]; exact putSel_upk 11 hb_ rfl rfl rfl), fun h0_ => absurd ((hon 3 (by kernel_rfl)).symm.trans h0_) (by decide), Q_HK, Q_HB, fun _ h1_ => absurd ((hon 7 (by kernel_rfl)).symm.trans h1_) (by decide), Q_HO277, Q_HA_HO277, fun _ h1_ => absurd ((hon 14 (by kernel_rfl)).symm.trans h1_) (by decide), Q_HI0_e14, Q_X8_⟩
                        refine steps_cons ?_ ?_
                        · rintro b a w' ⟨v276, adz_v276, m8_, ha, Q_HI0, Q_HK, Q_HB, Q_HI0_e3, Q_HO277, Q_HA_HO277, Q_HI0_e7, Q_HI0_e14, Q_X8_⟩ hb_ hon hoff
                          refine ⟨_, rfl, fun K hK => ?_⟩
                          have e36 : a.tmps[36]? = some (.string (((((⟨#[91]⟩ : ByteArray) ++ t273) ++ (rdOf ByteArray.empty y275 t278)) ++ t281) ++ (⟨#[93]⟩ : ByteArray))) := by rw [ha]; exact putSel_on (e := (16, 36, .string (((((⟨#[91]⟩ : ByteArray) ++ t273) ++ (rdOf ByteArray.empty y275 t278)) ++ t281) ++ (⟨#[93]⟩ : ByteArray)))) 11 rfl rfl (hon 16 (by kernel_rfl)) rfl
                          replace ha := Aside0.mk ha
                          have HK := Aside0.mk Q_HK
                          have HB := Aside0.mk Q_HB
                          have HO277 := Aside0.mk (Q_HO277 (hon 5 (by kernel_rfl)))
                          have HA_HO277 := Aside0.mk (Q_HA_HO277 (hon 5 (by kernel_rfl)))
                          have HI0 := Aside0.mk (Q_HI0_e14 (hon 14 (by kernel_rfl)))
                          refine value_ (w1 := w') (v := .string (((((⟨#[91]⟩ : ByteArray) ++ t273) ++ (rdOf ByteArray.empty y275 t278)) ++ t281) ++ (⟨#[93]⟩ : ByteArray))) (by rfl) rfl ?_ ?_
                          · go_simp
                            (try simp only [i64_w])
                            try rfl
                            try (simp only [ByteArray.size_extract, eq_iff_iff, iff_true, iff_false, decide_eq_true_eq] at *; omega)
                          refine hK.out _ _ ⟨v276, adz_v276, m8_, (by rw [ha.out]; exact putSel_upk 12 hb_ rfl rfl rfl), fun h0_ => absurd ((hon 3 (by kernel_rfl)).symm.trans h0_) (by decide), Q_HK, Q_HB, fun _ h1_ => absurd ((hon 7 (by kernel_rfl)).symm.trans h1_) (by decide), Q_HO277, Q_HA_HO277, fun _ h1_ => absurd ((hon 14 (by kernel_rfl)).symm.trans h1_) (by decide), Q_HI0_e14, Q_X8_⟩
                        exact steps_nil
                      rintro b a w31 hall ⟨v276, adz_v276, m8_, ha, Q_HI0, Q_HK, Q_HB, Q_HI0_e3, Q_HO277, Q_HA_HO277, Q_HI0_e7, Q_HI0_e14, Q_X8_⟩
                      clear HB HI0 HK
                      have hb2_ := hall 2 (by kernel_rfl)
                      have hb3_ := hall 3 (by kernel_rfl)
                      have hb4_ := hall 4 (by kernel_rfl)
                      have hb5_ := hall 5 (by kernel_rfl)
                      have hb7_ := hall 7 (by kernel_rfl)
                      have hb8_ := hall 8 (by kernel_rfl)
                      have hb9_ := hall 9 (by kernel_rfl)
                      have hb10_ := hall 10 (by kernel_rfl)
                      have hb13_ := hall 13 (by kernel_rfl)
                      have hb14_ := hall 14 (by kernel_rfl)
                      have hb15_ := hall 15 (by kernel_rfl)
                      have hb16_ := hall 16 (by kernel_rfl)
                      have hb17_ := hall 17 (by kernel_rfl)
                      subst ha
                      obtain rfl := Q_X8_ hb8_
                      simp only [putSel, hb2_, hb3_, hb4_, hb5_, hb7_, hb8_, hb9_, hb10_, hb13_, hb14_, hb15_, hb16_, hb17_, if_true, Act.put, List.setIfInBounds_toArray, List.set_cons_zero, List.set_cons_succ]
                      clear Q_HI0
                      have HK := Aside0.mk Q_HK
                      clear Q_HK
                      have HB := Aside0.mk Q_HB
                      clear Q_HB
                      clear Q_HI0_e3
                      have HO277 := Aside0.mk (Q_HO277 hb5_)
                      clear Q_HO277
                      have HA_HO277 := Aside0.mk (Q_HA_HO277 hb5_)
                      clear Q_HA_HO277
                      clear Q_HI0_e7
                      have HI0 := Aside0.mk (Q_HI0_e14 hb14_)
                      clear Q_HI0_e14
                      clear hall hb2_ hb3_ hb4_ hb5_ hb7_ hb8_ hb9_ hb10_ hb13_ hb14_ hb15_ hb16_ hb17_
                      obtain ⟨co32, eo32⟩ := HA_HO277.out
                      clear HA_HO277
                      subst eo32
                      try go_wp2
                      go_ret
                      exact ⟨by first | rfl | (simp [errW_none, errW_some] <;> rfl) | (simp [*, errW_none, errW_some] <;> rfl), by repeat (first | (with_reducible first | exact HI0.out | apply IsS78.alloc | apply IsS78.drewN | apply IsS78.drew | apply IsS78.set_1) | exact HI0.out), by repeat (first | (with_reducible first | exact HB.out | apply below_alloc | apply pw_below_drewN | apply below_drew1 | refine below_set ?_ (IsS78.ge HI0.out)) | exact HB.out), by repeat (first | (with_reducible first | exact HK.out | apply KeepBut.set_ | apply keep_drewN | apply keep_drew | apply keep_alloc) | exact HK.out)⟩
                    · rw [if_neg c22] at H
                      exact absurd H (by simp)
                  · rw [if_neg c21] at H
                    exact absurd H (by simp)
                · rw [if_neg c19] at H
                  exact absurd H (by simp)
              · rw [if_neg c18] at H
                exact absurd H (by simp)
            · rw [if_neg c17] at H
              exact absurd H (by simp)
          · rw [if_neg c15] at H
            exact absurd H (by simp)
      · replace c7 := Bool.eq_false_iff.mpr c7
        subst c7
        have H1 : ((spec_l20Names.f).bind fun t283 => ((spec_l20Rd_pick.f kj2 s0_0 x1001_2 10).bind fun bt286 => (if 0 ≤ bt286.1 then (if bt286.1 < (t283.length : Int) then (if (rdOf ByteArray.empty t283 bt286.1).size + 1 ≤ 9223372036854775807 then ((spec_l20Set.f kj2 s0_0 bt286.2 2).bind fun bt289 => (if (rdOf ByteArray.empty t283 bt286.1).size + 1 + bt289.1.size ≤ 9223372036854775807 then (if (rdOf ByteArray.empty t283 bt286.1).size + 1 + bt289.1.size + 1 ≤ 9223372036854775807 then ((spec_l20Set.f kj2 s0_0 bt289.2 2).bind fun bt291 => (if (rdOf ByteArray.empty t283 bt286.1).size + 1 + bt289.1.size + 1 + bt291.1.size ≤ 9223372036854775807 then (if (rdOf ByteArray.empty t283 bt286.1).size + 1 + bt289.1.size + 1 + bt291.1.size + 1 ≤ 9223372036854775807 then (some ((((((rdOf ByteArray.empty t283 bt286.1) ++ (⟨#[40]⟩ : ByteArray)) ++ bt289.1) ++ (⟨#[44]⟩ : ByteArray)) ++ bt291.1) ++ (⟨#[41]⟩ : ByteArray), bt291.2)) else (none)) else (none))) else (none)) else (none))) else (none)) else (none)) else (none)))) = some (r1, r2) := by rw [if_neg (show ¬ (false = true) by decide)] at H; exact H
        clear H
        have H := H1
        clear H1
        replace H := Option.bind_eq_some_iff.mp H
        obtain ⟨t283, A330, H⟩ := H
        replace H : ((spec_l20Rd_pick.f kj2 s0_0 x1001_2 10).bind fun bt286 => (if 0 ≤ bt286.1 then (if bt286.1 < (t283.length : Int) then (if (rdOf ByteArray.empty t283 bt286.1).size + 1 ≤ 9223372036854775807 then ((spec_l20Set.f kj2 s0_0 bt286.2 2).bind fun bt289 => (if (rdOf ByteArray.empty t283 bt286.1).size + 1 + bt289.1.size ≤ 9223372036854775807 then (if (rdOf ByteArray.empty t283 bt286.1).size + 1 + bt289.1.size + 1 ≤ 9223372036854775807 then ((spec_l20Set.f kj2 s0_0 bt289.2 2).bind fun bt291 => (if (rdOf ByteArray.empty t283 bt286.1).size + 1 + bt289.1.size + 1 + bt291.1.size ≤ 9223372036854775807 then (if (rdOf ByteArray.empty t283 bt286.1).size + 1 + bt289.1.size + 1 + bt291.1.size + 1 ≤ 9223372036854775807 then (some ((((((rdOf ByteArray.empty t283 bt286.1) ++ (⟨#[40]⟩ : ByteArray)) ++ bt289.1) ++ (⟨#[44]⟩ : ByteArray)) ++ bt291.1) ++ (⟨#[41]⟩ : ByteArray), bt291.2)) else (none)) else (none))) else (none)) else (none))) else (none)) else (none)) else (none))) = some (r1, r2) := H
        have A33 := Aside0.mk A330
        clear A330
        replace H := Option.bind_eq_some_iff.mp H
        obtain ⟨⟨t286, t287⟩, A340, H⟩ := H
        replace H : (if 0 ≤ t286 then (if t286 < (t283.length : Int) then (if (rdOf ByteArray.empty t283 t286).size + 1 ≤ 9223372036854775807 then ((spec_l20Set.f kj2 s0_0 t287 2).bind fun bt289 => (if (rdOf ByteArray.empty t283 t286).size + 1 + bt289.1.size ≤ 9223372036854775807 then (if (rdOf ByteArray.empty t283 t286).size + 1 + bt289.1.size + 1 ≤ 9223372036854775807 then ((spec_l20Set.f kj2 s0_0 bt289.2 2).bind fun bt291 => (if (rdOf ByteArray.empty t283 t286).size + 1 + bt289.1.size + 1 + bt291.1.size ≤ 9223372036854775807 then (if (rdOf ByteArray.empty t283 t286).size + 1 + bt289.1.size + 1 + bt291.1.size + 1 ≤ 9223372036854775807 then (some ((((((rdOf ByteArray.empty t283 t286) ++ (⟨#[40]⟩ : ByteArray)) ++ bt289.1) ++ (⟨#[44]⟩ : ByteArray)) ++ bt291.1) ++ (⟨#[41]⟩ : ByteArray), bt291.2)) else (none)) else (none))) else (none)) else (none))) else (none)) else (none)) else (none)) = some (r1, r2) := H
        have A34 := Aside0.mk A340
        clear A340
        by_cases c35 : 0 ≤ t286
        · rw [if_pos c35] at H
          have c35b0 : decide (0 ≤ t286) = true := decide_eq_true c35
          clear c35
          by_cases c36 : t286 < (t283.length : Int)
          · rw [if_pos c36] at H
            have c36b0 : decide (t286 < (t283.length : Int)) = true := decide_eq_true c36
            clear c36
            by_cases c37 : (rdOf ByteArray.empty t283 t286).size + 1 ≤ 9223372036854775807
            · rw [if_pos c37] at H
              have c37b0 := eq_true c37
              have c37b1 : decide ((rdOf ByteArray.empty t283 t286).size + 1 ≤ 9223372036854775807) = true := decide_eq_true c37
              try have c37b2 : (9223372036854775807 < (rdOf ByteArray.empty t283 t286).size + 1) = False := eq_false (Nat.not_lt.2 c37)
              replace H := Option.bind_eq_some_iff.mp H
              obtain ⟨⟨t289, t290⟩, A380, H⟩ := H
              replace H : (if (rdOf ByteArray.empty t283 t286).size + 1 + t289.size ≤ 9223372036854775807 then (if (rdOf ByteArray.empty t283 t286).size + 1 + t289.size + 1 ≤ 9223372036854775807 then ((spec_l20Set.f kj2 s0_0 t290 2).bind fun bt291 => (if (rdOf ByteArray.empty t283 t286).size + 1 + t289.size + 1 + bt291.1.size ≤ 9223372036854775807 then (if (rdOf ByteArray.empty t283 t286).size + 1 + t289.size + 1 + bt291.1.size + 1 ≤ 9223372036854775807 then (some ((((((rdOf ByteArray.empty t283 t286) ++ (⟨#[40]⟩ : ByteArray)) ++ t289) ++ (⟨#[44]⟩ : ByteArray)) ++ bt291.1) ++ (⟨#[41]⟩ : ByteArray), bt291.2)) else (none)) else (none))) else (none)) else (none)) = some (r1, r2) := H
              have A38 := Aside0.mk A380
              clear A380
              by_cases c39 : (rdOf ByteArray.empty t283 t286).size + 1 + t289.size ≤ 9223372036854775807
              · rw [if_pos c39] at H
                have c39b0 := eq_true c39
                have c39b1 : decide ((rdOf ByteArray.empty t283 t286).size + 1 + t289.size ≤ 9223372036854775807) = true := decide_eq_true c39
                try have c39b2 : (9223372036854775807 < (rdOf ByteArray.empty t283 t286).size + 1 + t289.size) = False := eq_false (Nat.not_lt.2 c39)
                by_cases c40 : (rdOf ByteArray.empty t283 t286).size + 1 + t289.size + 1 ≤ 9223372036854775807
                · rw [if_pos c40] at H
                  have c40b0 := eq_true c40
                  have c40b1 : decide ((rdOf ByteArray.empty t283 t286).size + 1 + t289.size + 1 ≤ 9223372036854775807) = true := decide_eq_true c40
                  try have c40b2 : (9223372036854775807 < (rdOf ByteArray.empty t283 t286).size + 1 + t289.size + 1) = False := eq_false (Nat.not_lt.2 c40)
                  replace H := Option.bind_eq_some_iff.mp H
                  obtain ⟨⟨t291, t292⟩, A410, H⟩ := H
                  replace H : (if (rdOf ByteArray.empty t283 t286).size + 1 + t289.size + 1 + t291.size ≤ 9223372036854775807 then (if (rdOf ByteArray.empty t283 t286).size + 1 + t289.size + 1 + t291.size + 1 ≤ 9223372036854775807 then (some ((((((rdOf ByteArray.empty t283 t286) ++ (⟨#[40]⟩ : ByteArray)) ++ t289) ++ (⟨#[44]⟩ : ByteArray)) ++ t291) ++ (⟨#[41]⟩ : ByteArray), t292)) else (none)) else (none)) = some (r1, r2) := H
                  have A41 := Aside0.mk A410
                  clear A410
                  by_cases c42 : (rdOf ByteArray.empty t283 t286).size + 1 + t289.size + 1 + t291.size ≤ 9223372036854775807
                  · rw [if_pos c42] at H
                    have c42b0 := eq_true c42
                    have c42b1 : decide ((rdOf ByteArray.empty t283 t286).size + 1 + t289.size + 1 + t291.size ≤ 9223372036854775807) = true := decide_eq_true c42
                    try have c42b2 : (9223372036854775807 < (rdOf ByteArray.empty t283 t286).size + 1 + t289.size + 1 + t291.size) = False := eq_false (Nat.not_lt.2 c42)
                    by_cases c43 : (rdOf ByteArray.empty t283 t286).size + 1 + t289.size + 1 + t291.size + 1 ≤ 9223372036854775807
                    · rw [if_pos c43] at H
                      have c43b0 := eq_true c43
                      have c43b1 : decide ((rdOf ByteArray.empty t283 t286).size + 1 + t289.size + 1 + t291.size + 1 ≤ 9223372036854775807) = true := decide_eq_true c43
                      try have c43b2 : (9223372036854775807 < (rdOf ByteArray.empty t283 t286).size + 1 + t289.size + 1 + t291.size + 1) = False := eq_false (Nat.not_lt.2 c43)
                      simp only [Option.some.injEq, Prod.mk.injEq] at H
                      obtain ⟨rfl, rfl⟩ := H
                      try go_wp2
                      have n0_ := Aside0.mk (IsS78.drew HI0.out)
                      have n1_ := Aside0.mk (keep_drew HK.out)
                      have n2_ := Aside0.mk (below_drew1 HB.out)
                      clear HI0
                      clear HK
                      clear HB
                      have HI0 := n0_
                      have HK := n1_
                      have HB := n2_
                      clear n0_ n1_ n2_
                      refine start_ (n := 15) (S := fun _ => True) (ds := []) #[false, false, false, false, false, false, false, false, false, false, false, false, false, false, false] (by kernel_rfl) rfl rfl trivial (fun hHeld => ?_); refine with_tabW spec_l20Sentence.tab5 spec_l20Sentence.bits5 (fun HT_ HW_ => ?_)
                      generalize wc.drew = w44 at HI0 HK HB hHeld ⊢
                      refine pure_ (i := 1) (N := some 38) (v := ?_) (a' := ?_) #[false, true, false, false, false, false, false, false, false, false, false, false, false, false, false] rfl rfl (any_of HT_.out (by kernel_rfl)) (fun _ _ _ h => h) (Or.inl ⟨by rfl, ?_⟩) ?_ ?_
                      rotate_left
                      · intro w'
                        go_simp
                        with_reducible rfl
                      rotate_left
                      · simp only [Act.put, List.setIfInBounds_toArray, List.set_cons_zero, List.set_cons_succ, i64_w, i32_w]
                        rfl
                      refine pure_ (i := 6) (N := some 43) (v := ?_) (a' := ?_) #[false, true, false, false, false, false, true, false, false, false, false, false, false, false, false] rfl rfl (any_of HT_.out (by kernel_rfl)) (fun _ _ _ h => h) (Or.inl ⟨by rfl, ?_⟩) ?_ ?_
                      rotate_left
                      · intro w'
                        go_simp
                        with_reducible rfl
                      rotate_left
                      · simp only [Act.put, List.setIfInBounds_toArray, List.set_cons_zero, List.set_cons_succ, i64_w, i32_w]
                        rfl
                      refine pure_ (i := 10) (N := some 47) (v := ?_) (a' := ?_) #[false, true, false, false, false, false, true, false, false, false, true, false, false, false, false] rfl rfl (any_of HT_.out (by kernel_rfl)) (fun _ _ _ h => h) (Or.inl ⟨by rfl, ?_⟩) ?_ ?_
                      rotate_left
                      · intro w'
                        go_simp
                        with_reducible rfl
                      rotate_left
                      · simp only [Act.put, List.setIfInBounds_toArray, List.set_cons_zero, List.set_cons_succ, i64_w, i32_w]
                        rfl
                      refine one_ (i := 0) (N := some 37) #[true, true, false, false, false, false, true, false, false, false, true, false, false, false, false] rfl rfl (one_of HT_.out (by kernel_rfl)) (by decide) (fun K hK => ?_)
                      refine goes_ Try.func81 (by kernel_rfl) rfl #[] (by rfl) rfl rfl (by (try simp only [List.map_toArray, List.map_cons, List.map_nil]); first | done | rfl | (simp only [List.length_drop, List.length_take]; rfl)) ?_
                      with_reducible refine (spec_l20Names.calls  t283 _ A33.out).mono ?_
                      rintro e w45 ⟨v284, rfl, ho0, hb⟩
                      have HS0_ := trivial
                      refine ⟨_, rfl, ?_⟩
                      have n0_ := Aside0.mk (Kd.R_lower ho0 (keep_size (w := w) (g := g) (row := none) (by repeat (first | (with_reducible first | exact HK.out | apply KeepBut.set_ | apply keep_drewN | apply keep_drew | apply keep_alloc) | exact HK.out))))
                      have n1_ := Aside0.mk (IsS78.below (by repeat (first | (with_reducible first | exact HI0.out | apply IsS78.alloc | apply IsS78.drewN | apply IsS78.drew | apply IsS78.set_1) | exact HI0.out)) hb)
                      have n2_ := Aside0.mk (KeepBut.trans (by repeat (first | (with_reducible first | exact HK.out | apply KeepBut.set_ | apply keep_drewN | apply keep_drew | apply keep_alloc) | exact HK.out)) (KeepBut.of_below hb g none) (.inl rfl))
                      have n3_ := Aside0.mk (below_step (by repeat (first | (with_reducible first | exact HB.out | apply below_alloc | apply pw_below_drewN | apply below_drew1 | refine below_set ?_ (IsS78.ge HI0.out)) | exact HB.out)) hb)
                      clear HI0
                      clear HK
                      clear HB
                      have HO285 := n0_
                      have HI0 := n1_
                      have HK := n2_
                      have HB := n3_
                      clear n0_ n1_ n2_ n3_
                      (try clear hb)
                      (try clear hb2)
                      (try clear hk)
                      (try clear hi)
                      (try clear ho0)
                      refine hK.out _ _ (HS0_) (fun hHeld => ?_)
                      clear hK K
                      refine norm_ (a' := ?_) ?_ ?_
                      rotate_left
                      · show Act.put _ (some 37) _ = _
                        simp only [Act.put, List.setIfInBounds_toArray, List.set_cons_zero, List.set_cons_succ, i64_w, i32_w]
                        rfl
                      refine one_ (i := 2) (N := some 39) #[true, true, true, false, false, false, true, false, false, false, true, false, false, false, false] rfl rfl (one_of HT_.out (by kernel_rfl)) (by decide) (fun K hK => ?_)
                      refine goes_ Try.func43 (by kernel_rfl) rfl #[.pointer (some ⟨g, 0, none⟩), .int .i64 10] (by rfl) rfl rfl (by (try simp only [List.map_toArray, List.map_cons, List.map_nil]); first | done | rfl | (simp only [List.length_drop, List.length_take]; rfl)) ?_
                      with_reducible refine (spec_l20Rd_pick.calls kj2 g s0_0 x1001_2 10 t286 t287 w0 _ ?side1 ?side2 A34.out).mono ?_
                      (case side1 => repeat (first | (with_reducible first | exact HI0.out | apply IsS78.alloc | apply IsS78.drewN | apply IsS78.drew | apply IsS78.set_1) | exact HI0.out))
                      (case side2 => repeat (first | (with_reducible first | exact HB.out | apply below_alloc | apply pw_below_drewN | apply below_drew1 | refine below_set ?_ (IsS78.ge HI0.out)) | exact HB.out))
                      rintro e w46 ⟨rfl, hi, hb, hk⟩
                      have HS0_ := trivial
                      refine ⟨_, rfl, ?_⟩
                      have n0_ := Aside0.mk (Kd.R_mono (Kd.R_keep (IsS78.apart (show IsS78 w0 _ g s0_0 x1001_2 from by repeat (first | (with_reducible first | exact HI0.out | apply IsS78.alloc | apply IsS78.drewN | apply IsS78.drew | apply IsS78.set_1) | exact HI0.out)) (by (with_reducible repeat (first | apply Kd.R_alloc | apply Kd.R_drewN | apply Kd.R_drew)); exact HO285.out) (by decide)) hk (fun _ h => h.2)) (fun _ h => h.1))
                      have n1_ := Aside0.mk (KeepBut.trans (by repeat (first | (with_reducible first | exact HK.out | apply KeepBut.set_ | apply keep_drewN | apply keep_drew | apply keep_alloc) | exact HK.out)) hk (.inl rfl))
                      have n2_ := Aside0.mk (hb)
                      have n3_ := Aside0.mk (hi)
                      clear HO285
                      clear HK
                      clear HB
                      clear HI0
                      have HO285 := n0_
                      have HK := n1_
                      have HB := n2_
                      have HI0 := n3_
                      clear n0_ n1_ n2_ n3_
                      (try clear hb)
                      (try clear hb2)
                      (try clear hk)
                      (try clear hi)
                      obtain ⟨Ao47, co47, eo47⟩ := Kd.R_slice HO285.out
                      (first | subst eo47 | (injection eo47 with f1_ f2_ f3_; have f4_ := f1_.symm; have f5_ := f3_.symm; clear f1_ f2_ f3_; subst f4_; subst f5_))
                      have p288 : 0 ≤ (t286 : Int) := of_decide_eq_true (by first | (with_reducible assumption) | assumption)
                      have q288 : t286 < (t283.length : Int) := of_decide_eq_true (by first | (with_reducible assumption) | assumption)
                      obtain ⟨ad288, e288, hx288_0⟩ := Kd.at_string (Kd.R_reads' HO285.out).2.2 t286 p288 q288
                      cases e288
                      replace p288 := eq_true p288
                      replace q288 := eq_true q288
                      refine hK.out _ _ (HS0_) (fun hHeld => ?_)
                      clear hK K
                      refine norm_ (a' := ?_) ?_ ?_
                      rotate_left
                      · show Act.put _ (some 39) _ = _
                        simp only [Act.put, List.setIfInBounds_toArray, List.set_cons_zero, List.set_cons_succ, i64_w, i32_w]
                        rfl
                      refine spec_l20Sentence.loosen (S := fun w' => w'.cell? (ad288.add (t286).toNat) = some (.string (rdOf ByteArray.empty t283 t286))) ?_
                      replace hHeld := hx288_0
                      refine pure_ (i := 3) (N := some 40) (v := ?_) (a' := ?_) #[true, true, true, true, false, false, true, false, false, false, true, false, false, false, false] rfl rfl (any_of HT_.out (by kernel_rfl)) (fun _ _ _ h => h) (Or.inl ⟨by rfl, ?_⟩) ?_ ?_
                      rotate_left
                      · intro w'
                        go_simp
                        with_reducible rfl
                      rotate_left
                      · simp only [Act.put, List.setIfInBounds_toArray, List.set_cons_zero, List.set_cons_succ, i64_w, i32_w]
                        rfl
                      refine take_ (i := 4) (N := some 41) (v := ?_) (a' := ?_) #[true, true, true, true, true, false, true, false, false, false, true, false, false, false, false] rfl rfl (take_ofW HT_.out HW_.out (by kernel_rfl)) (fun _ _ _ h => h) (Or.inl ⟨by rfl, ?_⟩) hHeld ?_ ?_
                      rotate_left
                      · intro w' s0
                        go_simp
                        with_reducible rfl
                      rotate_left
                      · simp only [Act.put, List.setIfInBounds_toArray, List.set_cons_zero, List.set_cons_succ, i64_w, i32_w]
                        rfl
                      refine pure_ (i := 5) (N := some 42) (v := ?_) (a' := ?_) #[true, true, true, true, true, true, true, false, false, false, true, false, false, false, false] rfl rfl (any_of HT_.out (by kernel_rfl)) (fun _ _ _ h => h) (Or.inl ⟨by rfl, ?_⟩) ?_ ?_
                      rotate_left
                      · intro w'
                        go_simp
                        with_reducible rfl
                      rotate_left
                      · simp only [Act.put, List.setIfInBounds_toArray, List.set_cons_zero, List.set_cons_succ, i64_w, i32_w]
                        rfl
                      refine one_ (i := 7) (N := some 44) #[true, true, true, true, true, true, true, true, false, false, true, false, false, false, false] rfl rfl (one_of HT_.out (by kernel_rfl)) (by decide) (fun K hK => ?_)
                      refine goes_ Try.func82 (by kernel_rfl) rfl #[.pointer (some ⟨g, 0, none⟩), .int .i64 2] (by rfl) rfl rfl (by (try simp only [List.map_toArray, List.map_cons, List.map_nil]); first | done | rfl | (simp only [List.length_drop, List.length_take]; rfl)) ?_
                      with_reducible refine (spec_l20Set.calls kj2 g s0_0 t287 2 t289 t290 w0 _ ?side1 ?side2 A38.out).mono ?_
                      (case side1 => repeat (first | (with_reducible first | exact HI0.out | apply IsS78.alloc | apply IsS78.drewN | apply IsS78.drew | apply IsS78.set_1) | exact HI0.out))
                      (case side2 => repeat (first | (with_reducible first | exact HB.out | apply below_alloc | apply pw_below_drewN | apply below_drew1 | refine below_set ?_ (IsS78.ge HI0.out)) | exact HB.out))
                      rintro e w48 ⟨rfl, hi, hb, hk⟩
                      have HS0_ := keep_cell hk (hHeld) (by first | (rw [add_block]; exact Kd.own_blk (IsS78.own_ne HI0.out HO285.out (by decide))) | (show (Addr.add _ _).block ≠ _; rw [add_block]; exact Kd.own_blk (IsS78.own_ne HI0.out HO285.out (by decide))) | exact Kd.own_blk (IsS78.own_ne HI0.out HO285.out (by decide)))
                      refine ⟨_, rfl, ?_⟩
                      have n0_ := Aside0.mk (Kd.R_mono (Kd.R_keep (IsS78.apart (show IsS78 w0 _ g s0_0 t287 from by repeat (first | (with_reducible first | exact HI0.out | apply IsS78.alloc | apply IsS78.drewN | apply IsS78.drew | apply IsS78.set_1) | exact HI0.out)) (by (with_reducible repeat (first | apply Kd.R_alloc | apply Kd.R_drewN | apply Kd.R_drew)); exact HO285.out) (by decide)) hk (fun _ h => h.2)) (fun _ h => h.1))
                      have n1_ := Aside0.mk (KeepBut.trans (by repeat (first | (with_reducible first | exact HK.out | apply KeepBut.set_ | apply keep_drewN | apply keep_drew | apply keep_alloc) | exact HK.out)) hk (.inl rfl))
                      have n2_ := Aside0.mk (hb)
                      have n3_ := Aside0.mk (hi)
                      clear HO285
                      clear HK
                      clear HB
                      clear HI0
                      have HO285 := n0_
                      have HK := n1_
                      have HB := n2_
                      have HI0 := n3_
                      clear n0_ n1_ n2_ n3_
                      (try clear hb)
                      (try clear hb2)
                      (try clear hk)
                      (try clear hi)
                      refine hK.out _ _ (HS0_) (fun hHeld => ?_)
                      clear hK K
                      refine norm_ (a' := ?_) ?_ ?_
                      rotate_left
                      · show Act.put _ (some 44) _ = _
                        simp only [Act.put, List.setIfInBounds_toArray, List.set_cons_zero, List.set_cons_succ, i64_w, i32_w]
                        rfl
                      refine pure_ (i := 8) (N := some 45) (v := ?_) (a' := ?_) #[true, true, true, true, true, true, true, true, true, false, true, false, false, false, false] rfl rfl (any_of HT_.out (by kernel_rfl)) (fun _ _ _ h => h) (Or.inl ⟨by rfl, ?_⟩) ?_ ?_
                      rotate_left
                      · intro w'
                        go_simp
                        with_reducible rfl
                      rotate_left
                      · simp only [Act.put, List.setIfInBounds_toArray, List.set_cons_zero, List.set_cons_succ, i64_w, i32_w]
                        rfl
                      refine pure_ (i := 9) (N := some 46) (v := ?_) (a' := ?_) #[true, true, true, true, true, true, true, true, true, true, true, false, false, false, false] rfl rfl (any_of HT_.out (by kernel_rfl)) (fun _ _ _ h => h) (Or.inl ⟨by rfl, ?_⟩) ?_ ?_
                      rotate_left
                      · intro w'
                        go_simp
                        with_reducible rfl
                      rotate_left
                      · simp only [Act.put, List.setIfInBounds_toArray, List.set_cons_zero, List.set_cons_succ, i64_w, i32_w]
                        rfl
                      refine one_ (i := 11) (N := some 48) #[true, true, true, true, true, true, true, true, true, true, true, true, false, false, false] rfl rfl (one_of HT_.out (by kernel_rfl)) (by decide) (fun K hK => ?_)
                      refine goes_ Try.func82 (by kernel_rfl) rfl #[.pointer (some ⟨g, 0, none⟩), .int .i64 2] (by rfl) rfl rfl (by (try simp only [List.map_toArray, List.map_cons, List.map_nil]); first | done | rfl | (simp only [List.length_drop, List.length_take]; rfl)) ?_
                      with_reducible refine (spec_l20Set.calls kj2 g s0_0 t290 2 t291 t292 w0 _ ?side1 ?side2 A41.out).mono ?_
                      (case side1 => repeat (first | (with_reducible first | exact HI0.out | apply IsS78.alloc | apply IsS78.drewN | apply IsS78.drew | apply IsS78.set_1) | exact HI0.out))
                      (case side2 => repeat (first | (with_reducible first | exact HB.out | apply below_alloc | apply pw_below_drewN | apply below_drew1 | refine below_set ?_ (IsS78.ge HI0.out)) | exact HB.out))
                      rintro e w49 ⟨rfl, hi, hb, hk⟩
                      have HS0_ := keep_cell hk (hHeld) (by first | (rw [add_block]; exact Kd.own_blk (IsS78.own_ne HI0.out HO285.out (by decide))) | (show (Addr.add _ _).block ≠ _; rw [add_block]; exact Kd.own_blk (IsS78.own_ne HI0.out HO285.out (by decide))) | exact Kd.own_blk (IsS78.own_ne HI0.out HO285.out (by decide)))
                      refine ⟨_, rfl, ?_⟩
                      have n0_ := Aside0.mk (Kd.R_mono (Kd.R_keep (IsS78.apart (show IsS78 w0 _ g s0_0 t290 from by repeat (first | (with_reducible first | exact HI0.out | apply IsS78.alloc | apply IsS78.drewN | apply IsS78.drew | apply IsS78.set_1) | exact HI0.out)) (by (with_reducible repeat (first | apply Kd.R_alloc | apply Kd.R_drewN | apply Kd.R_drew)); exact HO285.out) (by decide)) hk (fun _ h => h.2)) (fun _ h => h.1))
                      have n1_ := Aside0.mk (KeepBut.trans (by repeat (first | (with_reducible first | exact HK.out | apply KeepBut.set_ | apply keep_drewN | apply keep_drew | apply keep_alloc) | exact HK.out)) hk (.inl rfl))
                      have n2_ := Aside0.mk (hb)
                      have n3_ := Aside0.mk (hi)
                      clear HO285
                      clear HK
                      clear HB
                      clear HI0
                      have HO285 := n0_
                      have HK := n1_
                      have HB := n2_
                      have HI0 := n3_
                      clear n0_ n1_ n2_ n3_
                      (try clear hb)
                      (try clear hb2)
                      (try clear hk)
                      (try clear hi)
                      refine hK.out _ _ (HS0_) (fun hHeld => ?_)
                      clear hK K
                      refine norm_ (a' := ?_) ?_ ?_
                      rotate_left
                      · show Act.put _ (some 48) _ = _
                        simp only [Act.put, List.setIfInBounds_toArray, List.set_cons_zero, List.set_cons_succ, i64_w, i32_w]
                        rfl
                      refine pure_ (i := 12) (N := some 49) (v := ?_) (a' := ?_) #[true, true, true, true, true, true, true, true, true, true, true, true, true, false, false] rfl rfl (any_of HT_.out (by kernel_rfl)) (fun _ _ _ h => h) (Or.inl ⟨by rfl, ?_⟩) ?_ ?_
                      rotate_left
                      · intro w'
                        go_simp
                        with_reducible rfl
                      rotate_left
                      · simp only [Act.put, List.setIfInBounds_toArray, List.set_cons_zero, List.set_cons_succ, i64_w, i32_w]
                        rfl
                      refine pure_ (i := 13) (N := some 50) (v := ?_) (a' := ?_) #[true, true, true, true, true, true, true, true, true, true, true, true, true, true, false] rfl rfl (any_of HT_.out (by kernel_rfl)) (fun _ _ _ h => h) (Or.inl ⟨by rfl, ?_⟩) ?_ ?_
                      rotate_left
                      · intro w'
                        go_simp
                        with_reducible rfl
                      rotate_left
                      · simp only [Act.put, List.setIfInBounds_toArray, List.set_cons_zero, List.set_cons_succ, i64_w, i32_w]
                        rfl
                      refine pure_ (i := 14) (N := some 4) (v := ?_) (a' := ?_) #[true, true, true, true, true, true, true, true, true, true, true, true, true, true, true] rfl rfl (any_of HT_.out (by kernel_rfl)) (fun _ _ _ h => h) (Or.inl ⟨by rfl, ?_⟩) ?_ ?_
                      rotate_left
                      · intro w'
                        go_simp
                        with_reducible rfl
                      rotate_left
                      · simp only [Act.put, List.setIfInBounds_toArray, List.set_cons_zero, List.set_cons_succ, i64_w, i32_w]
                        rfl
                      refine done_ (done_of HT_.out (by kernel_rfl)) ?_
                      try go_wp2
                      go_ret
                      exact ⟨by first | rfl | (simp [errW_none, errW_some] <;> rfl) | (simp [*, errW_none, errW_some] <;> rfl), by repeat (first | (with_reducible first | exact HI0.out | apply IsS78.alloc | apply IsS78.drewN | apply IsS78.drew | apply IsS78.set_1) | exact HI0.out), by repeat (first | (with_reducible first | exact HB.out | apply below_alloc | apply pw_below_drewN | apply below_drew1 | refine below_set ?_ (IsS78.ge HI0.out)) | exact HB.out), by repeat (first | (with_reducible first | exact HK.out | apply KeepBut.set_ | apply keep_drewN | apply keep_drew | apply keep_alloc) | exact HK.out)⟩
                    · rw [if_neg c43] at H
                      exact absurd H (by simp)
                  · rw [if_neg c42] at H
                    exact absurd H (by simp)
                · rw [if_neg c40] at H
                  exact absurd H (by simp)
              · rw [if_neg c39] at H
                exact absurd H (by simp)
            · rw [if_neg c37] at H
              exact absurd H (by simp)
          · rw [if_neg c36] at H
            exact absurd H (by simp)
        · rw [if_neg c35] at H
          exact absurd H (by simp)

end Go.Proofs.Ytfjfdnododnepaa.PFnReplacedIn
