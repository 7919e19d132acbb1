-- Written by a program of this session (wip/patch_print.py, over the kit's print) and not by hand; Lean checks every word.
import Derived.Test.YtnnaiaiddjkjnaaPFnExactDeskRunxb
import Derived.Test.YtnnaiaiddjkjnaaPFnExactDeskRunxa
import Derived.Test.YtnnaiaiddjkjnaaPFnExactDeskRunx0
import Derived.Test.YtnnaiaiddjkjnaaPFnExactDeskRunx9
namespace Go.Proofs.Ytnnaiaiddjkjnaa.PFnExactDeskRun
open Go.RowKit Go.Proofs.YtnnaiaiddjkjnaaW.PrintWords Go.Proofs.YtnnaiaiddjkjnaaW.PrintLast Go.Proofs.YtnnaiaiddjkjnaaW.PrintMore
attribute [local go_sem] max2_int min2_int max_two min_two max_three min_three max_four min_four   -- for this text's walks alone
set_option linter.unusedVariables false
set_option linter.unusedSimpArgs false

/-! ### spec_l5Term: function 54 -/
def spec_l5Term.f (a0 : Int) : Option (ByteArray) := (some (([(⟨#[]⟩ : ByteArray), (⟨#[110, 111, 110, 45]⟩ : ByteArray)] : List ByteArray) : List ByteArray)).bind fun y283 => (if 0 ≤ (Int.tmod a0 2) then (if (Int.tmod a0 2) < (y283.length : Int) then ((some (([(⟨#[97]⟩ : ByteArray), (⟨#[98]⟩ : ByteArray), (⟨#[99]⟩ : ByteArray)] : List ByteArray) : List ByteArray)).bind fun y287 => (if 0 ≤ (wrap64 (Int.tdiv a0 2)) then (if (wrap64 (Int.tdiv a0 2)) < (y287.length : Int) then (if (rdOf ByteArray.empty y283 (Int.tmod a0 2)).size + (rdOf ByteArray.empty y287 (wrap64 (Int.tdiv a0 2))).size ≤ 9223372036854775807 then (some ((rdOf ByteArray.empty y283 (Int.tmod a0 2)) ++ (rdOf ByteArray.empty y287 (wrap64 (Int.tdiv a0 2))))) else (none)) else (none)) else (none))) else (none)) else (none))
def spec_l5Term.T1 : Bool × List (List Nat × List Nat) := (true, [([], []), ([], []), ([1], [1]), ([0, 2], [0, 2]), ([3], [3]), ([], []), ([], []), ([6], [6]), ([5, 7], [5, 7]), ([8], [8]), ([4, 9], [4, 9]), ([10, 0, 1, 2, 3, 4, 5, 6, 7, 8, 9, 10], [10])])
def spec_l5Term.B1 : List Nat := [0, 0, 2, 7, 15, 0, 0, 64, 224, 480, 1023, 2047]
theorem spec_l5Term.tab1 : rtab .any (opsOf Try.f54 1) = spec_l5Term.T1 := by kernel_rfl
theorem spec_l5Term.bits1 : waitsOk spec_l5Term.T1.2 spec_l5Term.B1 = true := by kernel_rfl
set_option maxHeartbeats 8000000 in
set_option maxRecDepth 100000 in
theorem spec_l5Term.calls (a0 : Int) (r : ByteArray) (w : World) (h : spec_l5Term.f a0 = some r) :
  Calls Try.prog 54 #[.int .i64 a0] w fun e w' => e = .returned (.string r) ∧ Below w.heap.size w w' := by
 have HB := Az (Below.refl w.heap.size w)
 have H : ((some (([(⟨#[]⟩ : ByteArray), (⟨#[110, 111, 110, 45]⟩ : ByteArray)] : List ByteArray) : List ByteArray)).bind fun y283 => (if 0 ≤ (Int.tmod a0 2) then (if (Int.tmod a0 2) < (y283.length : Int) then ((some (([(⟨#[97]⟩ : ByteArray), (⟨#[98]⟩ : ByteArray), (⟨#[99]⟩ : ByteArray)] : List ByteArray) : List ByteArray)).bind fun y287 => (if 0 ≤ (wrap64 (Int.tdiv a0 2)) then (if (wrap64 (Int.tdiv a0 2)) < (y287.length : Int) then (if (rdOf ByteArray.empty y283 (Int.tmod a0 2)).size + (rdOf ByteArray.empty y287 (wrap64 (Int.tdiv a0 2))).size ≤ 9223372036854775807 then (some ((rdOf ByteArray.empty y283 (Int.tmod a0 2)) ++ (rdOf ByteArray.empty y287 (wrap64 (Int.tdiv a0 2))))) else (none)) else (none)) else (none))) else (none)) else (none))) = some r := h
 clear h
 obtain ⟨y283, hy283⟩ : ∃ y_ : List ByteArray, y_ = (([(⟨#[]⟩ : ByteArray), (⟨#[110, 111, 110, 45]⟩ : ByteArray)] : List ByteArray)) := ⟨_, rfl⟩
 replace H : (if 0 ≤ (Int.tmod a0 2) then (if (Int.tmod a0 2) < (y283.length : Int) then ((some (([(⟨#[97]⟩ : ByteArray), (⟨#[98]⟩ : ByteArray), (⟨#[99]⟩ : ByteArray)] : List ByteArray) : List ByteArray)).bind fun y287 => (if 0 ≤ (wrap64 (Int.tdiv a0 2)) then (if (wrap64 (Int.tdiv a0 2)) < (y287.length : Int) then (if (rdOf ByteArray.empty y283 (Int.tmod a0 2)).size + (rdOf ByteArray.empty y287 (wrap64 (Int.tdiv a0 2))).size ≤ 9223372036854775807 then (some ((rdOf ByteArray.empty y283 (Int.tmod a0 2)) ++ (rdOf ByteArray.empty y287 (wrap64 (Int.tdiv a0 2))))) else (none)) else (none)) else (none))) else (none)) else (none)) = some r := by first | (rw [hy283]; with_reducible exact H) | (have H2_ := (Option.bind_some _ _).symm.trans H; rw [hy283]; with_reducible exact H2_) | (have H2_ := (Option.bind_some _ _).symm.trans H; with_reducible exact H2_) | with_reducible exact H | (rw [hy283]; exact H) | exact H
 have Ny283 := Aside0.mk hy283
 clear hy283
 obtain ⟨ji2, hji2⟩ : ∃ j_ : Int, (Int.tmod a0 2) = j_ := ⟨_, rfl⟩
 replace H : (if 0 ≤ (ji2) then (if (ji2) < (y283.length : Int) then ((some (([(⟨#[97]⟩ : ByteArray), (⟨#[98]⟩ : ByteArray), (⟨#[99]⟩ : ByteArray)] : List ByteArray) : List ByteArray)).bind fun y287 => (if 0 ≤ (wrap64 (Int.tdiv a0 2)) then (if (wrap64 (Int.tdiv a0 2)) < (y287.length : Int) then (if (rdOf ByteArray.empty y283 (ji2)).size + (rdOf ByteArray.empty y287 (wrap64 (Int.tdiv a0 2))).size ≤ 9223372036854775807 then (some ((rdOf ByteArray.empty y283 (ji2)) ++ (rdOf ByteArray.empty y287 (wrap64 (Int.tdiv a0 2))))) else (none)) else (none)) else (none))) else (none)) else (none)) = some r := by first | (rw [hji2] at H; exact H) | (simp only [hji2] at H ⊢; exact H)
 by_cases c3 : 0 ≤ (ji2)
 ·rw [if_pos c3] at H
  have c3b0 : decide (0 ≤ (ji2)) = true := decide_eq_true c3
  clear c3
  by_cases c4 : (ji2) < (y283.length : Int)
  ·rw [if_pos c4] at H
   have c4b0 : decide ((ji2) < (y283.length : Int)) = true := decide_eq_true c4
   clear c4
   obtain ⟨y287, hy287⟩ : ∃ y_ : List ByteArray, y_ = (([(⟨#[97]⟩ : ByteArray), (⟨#[98]⟩ : ByteArray), (⟨#[99]⟩ : ByteArray)] : List ByteArray)) := ⟨_, rfl⟩
   replace H : (if 0 ≤ (wrap64 (Int.tdiv a0 2)) then (if (wrap64 (Int.tdiv a0 2)) < (y287.length : Int) then (if (rdOf ByteArray.empty y283 (ji2)).size + (rdOf ByteArray.empty y287 (wrap64 (Int.tdiv a0 2))).size ≤ 9223372036854775807 then (some ((rdOf ByteArray.empty y283 (ji2)) ++ (rdOf ByteArray.empty y287 (wrap64 (Int.tdiv a0 2))))) else (none)) else (none)) else (none)) = some r := by first | (rw [hy287]; with_reducible exact H) | (have H2_ := (Option.bind_some _ _).symm.trans H; rw [hy287]; with_reducible exact H2_) | (have H2_ := (Option.bind_some _ _).symm.trans H; with_reducible exact H2_) | with_reducible exact H | (rw [hy287]; exact H) | exact H
   have Ny287 := Aside0.mk hy287
   clear hy287
   obtain ⟨ji5, hji5⟩ : ∃ j_ : Int, (wrap64 (Int.tdiv a0 2)) = j_ := ⟨_, rfl⟩
   replace H : (if 0 ≤ (ji5) then (if (ji5) < (y287.length : Int) then (if (rdOf ByteArray.empty y283 (ji2)).size + (rdOf ByteArray.empty y287 (ji5)).size ≤ 9223372036854775807 then (some ((rdOf ByteArray.empty y283 (ji2)) ++ (rdOf ByteArray.empty y287 (ji5)))) else (none)) else (none)) else (none)) = some r := by first | (rw [hji5] at H; exact H) | (simp only [hji5] at H ⊢; exact H)
   have hji5w : (IntKind.i64.wrap (Int.tdiv a0 2)) = ji5 := (i64_w _).trans hji5
   by_cases c6 : 0 ≤ (ji5)
   ·rw [if_pos c6] at H
    have c6b0 : decide (0 ≤ (ji5)) = true := decide_eq_true c6
    clear c6
    by_cases c7 : (ji5) < (y287.length : Int)
    ·rw [if_pos c7] at H
     have c7b0 : decide ((ji5) < (y287.length : Int)) = true := decide_eq_true c7
     clear c7
     by_cases c8 : (rdOf ByteArray.empty y283 (ji2)).size + (rdOf ByteArray.empty y287 (ji5)).size ≤ 9223372036854775807
     ·rw [if_pos c8] at H
      have c8b0 := eq_true c8
      have c8b1 : decide ((rdOf ByteArray.empty y283 (ji2)).size + (rdOf ByteArray.empty y287 (ji5)).size ≤ 9223372036854775807) = true := decide_eq_true c8
      try have c8b2 : (9223372036854775807 < (rdOf ByteArray.empty y283 (ji2)).size + (rdOf ByteArray.empty y287 (ji5)).size) = False := eq_false (Nat.not_lt.2 c8)
      obtain rfl := Option.some.inj H
      go_enter Try.func54, Try.ntmps54
      try go_wp2
      have pi286 : (0 ≤ ((ji2) : Int)) = True := eq_true (of_decide_eq_true fa)
      have qi286 : ((ji2) < (y283.length : Int)) = True := eq_true (of_decide_eq_true fa)
      have pi290 : (0 ≤ ((ji5) : Int)) = True := eq_true (of_decide_eq_true fa)
      have qi290 : ((ji5) < (y287.length : Int)) = True := eq_true (of_decide_eq_true fa)
      have n0_ := Az (below_drew1 HB.out)
      clear HB
      have HB := n0_
      clear n0_
      refine start_ (n := 12) (S := fun w' => True) (ds := []) #[false, false, false, false, false, false, false, false, false, false, false, false] (by kernel_rfl) rfl rfl trivial (fun hHeld => ?_); refine with_tabW spec_l5Term.tab1 spec_l5Term.bits1 (fun HT_ HW_ => ?_)
      generalize w.drew = w9 at HB hHeld ⊢
      refine pure_ (i := 1) (N := some 4) (v := ?_) (a' := ?_) #[false, true, false, false, false, false, false, false, false, false, false, false] rfl rfl (any_of HT_.out (by kernel_rfl)) (fun _ _ _ h => h) (Or.inl ⟨by rfl, ?_⟩) ?_ ?_
      rotate_left
      ·intro w'
       go_simp
       with_reducible rfl
      rotate_left
      ·simp only [Act.put, List.setIfInBounds_toArray, List.set_cons_zero, List.set_cons_succ, i64_w, i32_w]
       rfl
      refine pure_ (i := 6) (N := some 9) (v := ?_) (a' := ?_) #[false, true, false, false, false, false, true, false, false, false, false, false] rfl rfl (any_of HT_.out (by kernel_rfl)) (fun _ _ _ h => h) (Or.inl ⟨by rfl, ?_⟩) ?_ ?_
      rotate_left
      ·intro w'
       go_simp
       with_reducible rfl
      rotate_left
      ·simp only [Act.put, List.setIfInBounds_toArray, List.set_cons_zero, List.set_cons_succ, i64_w, i32_w]
       rfl
      refine inv_at [0, 2, 3, 4, 5, 7, 8, 9, 10, 11] (fun a0_ b a w' => ∃ (v284 : Value) (adz_v284 : Addr) (v288 : Value) (adz_v288 : Addr) (m3_ : Value) (m8_ : Value), a = putSel a0_ b [(0, 3, v284), (2, 5, .int .i64 ji2), (3, 6, m3_), (4, 7, .string (rdOf ByteArray.empty y283 (ji2))), (5, 8, v288), (7, 10, .int .i64 ji5), (8, 11, m8_), (9, 12, .string (rdOf ByteArray.empty y287 (ji5))), (10, 13, .string ((rdOf ByteArray.empty y283 (ji2)) ++ (rdOf ByteArray.empty y287 (ji5)))), (11, 2, .string ((rdOf ByteArray.empty y283 (ji2)) ++ (rdOf ByteArray.empty y287 (ji5))))] ∧ (Below w.heap.size w w') ∧ (b 0 = true → Kd.R Kd.string 9 w' w.heap.size (fun _ => True) v284 y283) ∧ (b 0 = true → ∃ c_, (v284 : Value) = .slice (some adz_v284) y283.length c_) ∧ (b 5 = true → Kd.R Kd.string 9 w' w.heap.size (fun _ => True) v288 y287) ∧ (b 5 = true → ∃ c_, (v288 : Value) = .slice (some adz_v288) y287.length c_) ∧ (b 3 = true → (m3_ : Value) = .pointer (some (adz_v284.add ((ji2)).toNat))) ∧ (b 8 = true → (m8_ : Value) = .pointer (some (adz_v288.add ((ji5)).toNat)))) HT_.out HW_.out (by kernel_rfl) (by kernel_rfl) ?_ ?_ ?_
      ·exact ⟨.bool false, ⟨0, 0, none⟩, .bool false, ⟨0, 0, none⟩, .bool false, .bool false, by simp only [putSel, Bool.false_eq_true, if_false], HB.out, fun h_ => absurd h_ (by decide), fun h_ => absurd h_ (by decide), fun h_ => absurd h_ (by decide), fun h_ => absurd h_ (by decide), fun h_ => absurd h_ (by decide), fun h_ => absurd h_ (by decide)⟩
      ·skip
       clear HB
       refine steps_cons ?_ ?_
       ·rintro b a w' ⟨v284, adz_v284, v288, adz_v288, m3_, m8_, ha, Q_HB, Q_HO285, Q_HA_HO285, Q_HO289, Q_HA_HO289, Q_X3_, Q_X8_⟩ hb_ hon hoff
        refine ⟨_, rfl, fun K hK => ?_⟩
        replace ha := Aside0.mk ha
        have HB := Aside0.mk Q_HB
        refine Kd.R_lit_step Kd.string _ 9 ?hg (N := 3) ?hd (xs := ([(⟨#[]⟩ : ByteArray), (⟨#[110, 111, 110, 45]⟩ : ByteArray)] : List ByteArray)) (inner := [.string (⟨#[]⟩ : ByteArray), .string (⟨#[110, 111, 110, 45]⟩ : ByteArray)]) (ok := fun _ => True) (okp := fun _ => True) ?hr ?hp (fun _ hk => hk) trivial (Below.refl _ _) (Nat.le_refl _) (by simp) ?_; (case hd => rfl); (case hg => rfl); (case hr => first | (go_simp; done) | (go_simp; rfl)); (case hp => exact (Reps.one (show Kd.M Kd.string _ _ _ (⟨#[]⟩ : ByteArray) [.string (⟨#[]⟩ : ByteArray)] from rfl) (Reps.one (show Kd.M Kd.string _ _ _ (⟨#[110, 111, 110, 45]⟩ : ByteArray) [.string (⟨#[110, 111, 110, 45]⟩ : ByteArray)] from rfl) (Reps.none _ _))))
        intro v284 w10 ho11 hb hg_ hnew_
        clear hg_ hnew_
        (first | rw [← Ny283.out] at ho11 | (simp only [Int.reduceToNat] at ho11; rw [← Ny283.out] at ho11))
        have n0_ := Az (Kd.R_lower ho11 (below_size (bB HB)))
        have n1_ := Az (below_step (bB HB) hb)
        have z_HO289 := fun (h0_ : b 5 = true) => (show Kd.R Kd.string 9 w10 w.heap.size (fun _ => True) v288 y287 from by first | exact (Kd.R_elder' (dR ((Q_HO289 h0_))) (Kd.R_base ho11) hb) | exact Kd.R_mono (Kd.R_elder' (dR ((Q_HO289 h0_))) (Kd.R_base ho11) hb) (fun _ h_ => by first | trivial | exact h_ | exact h_.1))
        clear HB
        have HO285 := n0_
        have HB := n1_
        clear n0_ n1_
        clear hb ho11
        obtain ⟨Ao12, co12, eo12⟩ := Kd.R_slice HO285.out
        subst eo12
        obtain ⟨ado12, fo12, _⟩ := Kd.at_string (Kd.R_reads' HO285.out).2.2 0 (by decide) (by rw [Ny283.out]; simp)
        cases fo12
        refine hK.out _ _ ⟨.slice (some ado12) y283.length co12, ado12, v288, adz_v288, m3_, m8_, (by rw [ha.out]; exact putSel_upk 0 hb_ rfl rfl rfl), (by repeat (first | (with_reducible first | exact HB.out | apply below_alloc | apply pw_below_drewN | apply below_drew1) | exact HB.out)), fun _ => (dR (HO285.out)), fun _ => ⟨_, rfl⟩, z_HO289, Q_HA_HO289, fun h0_ => absurd ((hoff 3 (by kernel_rfl)).symm.trans h0_) (by decide), Q_X8_⟩
       refine steps_cons ?_ ?_
       ·rintro b a w' ⟨v284, adz_v284, v288, adz_v288, m3_, m8_, ha, Q_HB, Q_HO285, Q_HA_HO285, Q_HO289, Q_HA_HO289, Q_X3_, Q_X8_⟩ hb_ hon hoff
        refine ⟨_, rfl, fun K hK => ?_⟩
        have e4 : a.tmps[4]? = some (.int .i64 a0) := by rw [ha]; exact (putSel_off rfl).trans rfl
        replace ha := Aside0.mk ha
        have HB := Aside0.mk Q_HB
        refine value_ (w1 := w') (v := .int .i64 ji2) (by rfl) rfl ?_ ?_
        ·go_simp
         (try simp only [i64_w])
         try rfl
         try (simp only [ByteArray.size_extract, eq_iff_iff, iff_true, iff_false, decide_eq_true_eq] at *; omega)
        refine hK.out _ _ ⟨v284, adz_v284, v288, adz_v288, m3_, m8_, (by rw [ha.out]; exact putSel_upk 1 hb_ rfl rfl rfl), Q_HB, Q_HO285, Q_HA_HO285, Q_HO289, Q_HA_HO289, fun h0_ => absurd ((hoff 3 (by kernel_rfl)).symm.trans h0_) (by decide), Q_X8_⟩
       refine steps_cons ?_ ?_
       ·rintro b a w' ⟨v284, adz_v284, v288, adz_v288, m3_, m8_, ha, Q_HB, Q_HO285, Q_HA_HO285, Q_HO289, Q_HA_HO289, Q_X3_, Q_X8_⟩ hb_ hon hoff
        refine ⟨_, rfl, fun K hK => ?_⟩
        have e3 : a.tmps[3]? = some (v284) := by rw [ha]; exact putSel_on (e := (0, 3, v284)) 0 rfl rfl (hon 0 (by kernel_rfl)) rfl
        have e5 : a.tmps[5]? = some (.int .i64 ji2) := by rw [ha]; exact putSel_on (e := (2, 5, .int .i64 ji2)) 1 rfl rfl (hon 2 (by kernel_rfl)) rfl
        replace ha := Aside0.mk ha
        have HB := Aside0.mk Q_HB
        have HO285 := Az (Q_HO285 (hon 0 (by kernel_rfl)))
        have HA_HO285 := Az (Q_HA_HO285 (hon 0 (by kernel_rfl)))
        obtain ⟨c_, hv_⟩ := HA_HO285.out
        rw [hv_] at e3
        refine value_ (w1 := w') (v := .pointer (some (adz_v284.add ((ji2)).toNat))) (by rfl) rfl ?_ ?_
        ·go_simp
         (try simp only [i64_w])
         try rfl
         try (simp only [ByteArray.size_extract, eq_iff_iff, iff_true, iff_false, decide_eq_true_eq] at *; omega)
        refine hK.out _ _ ⟨v284, adz_v284, v288, adz_v288, (.pointer (some (adz_v284.add ((ji2)).toNat))), m8_, (by rw [ha.out]; exact putSel_upk 2 hb_ rfl rfl rfl), Q_HB, Q_HO285, Q_HA_HO285, Q_HO289, Q_HA_HO289, fun _ => rfl, Q_X8_⟩
       refine steps_cons ?_ ?_
       ·rintro b a w' ⟨v284, adz_v284, v288, adz_v288, m3_, m8_, ha, Q_HB, Q_HO285, Q_HA_HO285, Q_HO289, Q_HA_HO289, Q_X3_, Q_X8_⟩ hb_ hon hoff
        refine ⟨_, rfl, fun K hK => ?_⟩
        have e6 : a.tmps[6]? = some (m3_) := by rw [ha]; exact putSel_on (e := (3, 6, m3_)) 2 rfl rfl (hon 3 (by kernel_rfl)) rfl
        rw [Q_X3_ (hon 3 (by kernel_rfl))] at e6
        replace ha := Aside0.mk ha
        have HB := Aside0.mk Q_HB
        have HO285 := Az (Q_HO285 (hon 0 (by kernel_rfl)))
        have HA_HO285 := Az (Q_HA_HO285 (hon 0 (by kernel_rfl)))
        obtain ⟨c_, hv_⟩ := HA_HO285.out
        have hF_ := HO285.out
        rw [hv_] at hF_
        obtain ⟨ad_, ea_, hx_⟩ := Kd.at_string (Kd.R_reads' hF_).2.2 (ji2) (of_eq_true pi286) (of_eq_true qi286)
        cases ea_
        refine value_ (w1 := w') (v := .string (rdOf ByteArray.empty y283 (ji2))) (by rfl) rfl ?_ ?_
        ·go_simp
         (try simp only [i64_w])
         try rfl
         try (simp only [ByteArray.size_extract, eq_iff_iff, iff_true, iff_false, decide_eq_true_eq] at *; omega)
        refine hK.out _ _ ⟨v284, adz_v284, v288, adz_v288, m3_, m8_, (by rw [ha.out]; exact putSel_upk 3 hb_ rfl rfl rfl), Q_HB, Q_HO285, Q_HA_HO285, Q_HO289, Q_HA_HO289, Q_X3_, Q_X8_⟩
       refine steps_cons ?_ ?_
       ·rintro b a w' ⟨v284, adz_v284, v288, adz_v288, m3_, m8_, ha, Q_HB, Q_HO285, Q_HA_HO285, Q_HO289, Q_HA_HO289, Q_X3_, Q_X8_⟩ hb_ hon hoff
        refine ⟨_, rfl, fun K hK => ?_⟩
        replace ha := Aside0.mk ha
        have HB := Aside0.mk Q_HB
        refine Kd.R_lit_step Kd.string _ 9 ?hg (N := 8) ?hd (xs := ([(⟨#[97]⟩ : ByteArray), (⟨#[98]⟩ : ByteArray), (⟨#[99]⟩ : ByteArray)] : List ByteArray)) (inner := [.string (⟨#[97]⟩ : ByteArray), .string (⟨#[98]⟩ : ByteArray), .string (⟨#[99]⟩ : ByteArray)]) (ok := fun _ => True) (okp := fun _ => True) ?hr ?hp (fun _ hk => hk) trivial (Below.refl _ _) (Nat.le_refl _) (by simp) ?_; (case hd => rfl); (case hg => rfl); (case hr => first | (go_simp; done) | (go_simp; rfl)); (case hp => exact (Reps.one (show Kd.M Kd.string _ _ _ (⟨#[97]⟩ : ByteArray) [.string (⟨#[97]⟩ : ByteArray)] from rfl) (Reps.one (show Kd.M Kd.string _ _ _ (⟨#[98]⟩ : ByteArray) [.string (⟨#[98]⟩ : ByteArray)] from rfl) (Reps.one (show Kd.M Kd.string _ _ _ (⟨#[99]⟩ : ByteArray) [.string (⟨#[99]⟩ : ByteArray)] from rfl) (Reps.none _ _)))))
        intro v288 w10 ho11 hb hg_ hnew_
        clear hg_ hnew_
        (first | rw [← Ny287.out] at ho11 | (simp only [Int.reduceToNat] at ho11; rw [← Ny287.out] at ho11))
        have n0_ := Az (Kd.R_lower ho11 (below_size (bB HB)))
        have n1_ := Az (below_step (bB HB) hb)
        have z_HO285 := fun (h0_ : b 0 = true) => (show Kd.R Kd.string 9 w10 w.heap.size (fun _ => True) v284 y283 from by first | exact (Kd.R_elder' (dR ((Q_HO285 h0_))) (Kd.R_base ho11) hb) | exact Kd.R_mono (Kd.R_elder' (dR ((Q_HO285 h0_))) (Kd.R_base ho11) hb) (fun _ h_ => by first | trivial | exact h_ | exact h_.1))
        clear HB
        have HO289 := n0_
        have HB := n1_
        clear n0_ n1_
        clear hb ho11
        obtain ⟨Ao12, co12, eo12⟩ := Kd.R_slice HO289.out
        subst eo12
        obtain ⟨ado12, fo12, _⟩ := Kd.at_string (Kd.R_reads' HO289.out).2.2 0 (by decide) (by rw [Ny287.out]; simp)
        cases fo12
        refine hK.out _ _ ⟨v284, adz_v284, .slice (some ado12) y287.length co12, ado12, m3_, m8_, (by rw [ha.out]; exact putSel_upk 4 hb_ rfl rfl rfl), (by repeat (first | (with_reducible first | exact HB.out | apply below_alloc | apply pw_below_drewN | apply below_drew1) | exact HB.out)), z_HO285, Q_HA_HO285, fun _ => (dR (HO289.out)), fun _ => ⟨_, rfl⟩, Q_X3_, fun h0_ => absurd ((hoff 8 (by kernel_rfl)).symm.trans h0_) (by decide)⟩
       refine steps_cons ?_ ?_
       ·rintro b a w' ⟨v284, adz_v284, v288, adz_v288, m3_, m8_, ha, Q_HB, Q_HO285, Q_HA_HO285, Q_HO289, Q_HA_HO289, Q_X3_, Q_X8_⟩ hb_ hon hoff
        refine ⟨_, rfl, fun K hK => ?_⟩
        have e9 : a.tmps[9]? = some (.int .i64 a0) := by rw [ha]; exact (putSel_off rfl).trans rfl
        replace ha := Aside0.mk ha
        have HB := Aside0.mk Q_HB
        refine value_ (w1 := w') (v := .int .i64 ji5) (by rfl) rfl ?_ ?_
        ·go_simp
         (try simp only [i64_w])
         try rfl
         try (simp only [ByteArray.size_extract, eq_iff_iff, iff_true, iff_false, decide_eq_true_eq] at *; omega)
        refine hK.out _ _ ⟨v284, adz_v284, v288, adz_v288, m3_, m8_, (by rw [ha.out]; exact putSel_upk 5 hb_ rfl rfl rfl), Q_HB, Q_HO285, Q_HA_HO285, Q_HO289, Q_HA_HO289, Q_X3_, fun h0_ => absurd ((hoff 8 (by kernel_rfl)).symm.trans h0_) (by decide)⟩
       refine steps_cons ?_ ?_
       ·rintro b a w' ⟨v284, adz_v284, v288, adz_v288, m3_, m8_, ha, Q_HB, Q_HO285, Q_HA_HO285, Q_HO289, Q_HA_HO289, Q_X3_, Q_X8_⟩ hb_ hon hoff
        refine ⟨_, rfl, fun K hK => ?_⟩
        have e8 : a.tmps[8]? = some (v288) := by rw [ha]; exact putSel_on (e := (5, 8, v288)) 4 rfl rfl (hon 5 (by kernel_rfl)) rfl
        have e10 : a.tmps[10]? = some (.int .i64 ji5) := by rw [ha]; exact putSel_on (e := (7, 10, .int .i64 ji5)) 5 rfl rfl (hon 7 (by kernel_rfl)) rfl
        replace ha := Aside0.mk ha
        have HB := Aside0.mk Q_HB
        have HO289 := Az (Q_HO289 (hon 5 (by kernel_rfl)))
        have HA_HO289 := Az (Q_HA_HO289 (hon 5 (by kernel_rfl)))
        obtain ⟨c_, hv_⟩ := HA_HO289.out
        rw [hv_] at e8
        refine value_ (w1 := w') (v := .pointer (some (adz_v288.add ((ji5)).toNat))) (by rfl) rfl ?_ ?_
        ·go_simp
         (try simp only [i64_w])
         try rfl
         try (simp only [ByteArray.size_extract, eq_iff_iff, iff_true, iff_false, decide_eq_true_eq] at *; omega)
        refine hK.out _ _ ⟨v284, adz_v284, v288, adz_v288, m3_, (.pointer (some (adz_v288.add ((ji5)).toNat))), (by rw [ha.out]; exact putSel_upk 6 hb_ rfl rfl rfl), Q_HB, Q_HO285, Q_HA_HO285, Q_HO289, Q_HA_HO289, Q_X3_, fun _ => rfl⟩
       refine steps_cons ?_ ?_
       ·rintro b a w' ⟨v284, adz_v284, v288, adz_v288, m3_, m8_, ha, Q_HB, Q_HO285, Q_HA_HO285, Q_HO289, Q_HA_HO289, Q_X3_, Q_X8_⟩ hb_ hon hoff
        refine ⟨_, rfl, fun K hK => ?_⟩
        have e11 : a.tmps[11]? = some (m8_) := by rw [ha]; exact putSel_on (e := (8, 11, m8_)) 6 rfl rfl (hon 8 (by kernel_rfl)) rfl
        rw [Q_X8_ (hon 8 (by kernel_rfl))] at e11
        replace ha := Aside0.mk ha
        have HB := Aside0.mk Q_HB
        have HO289 := Az (Q_HO289 (hon 5 (by kernel_rfl)))
        have HA_HO289 := Az (Q_HA_HO289 (hon 5 (by kernel_rfl)))
        obtain ⟨c_, hv_⟩ := HA_HO289.out
        have hF_ := HO289.out
        rw [hv_] at hF_
        obtain ⟨ad_, ea_, hx_⟩ := Kd.at_string (Kd.R_reads' hF_).2.2 (ji5) (of_eq_true pi290) (of_eq_true qi290)
        cases ea_
        refine value_ (w1 := w') (v := .string (rdOf ByteArray.empty y287 (ji5))) (by rfl) rfl ?_ ?_
        ·go_simp
         (try simp only [i64_w])
         try rfl
         try (simp only [ByteArray.size_extract, eq_iff_iff, iff_true, iff_false, decide_eq_true_eq] at *; omega)
        refine hK.out _ _ ⟨v284, adz_v284, v288, adz_v288, m3_, m8_, (by rw [ha.out]; exact putSel_upk 7 hb_ rfl rfl rfl), Q_HB, Q_HO285, Q_HA_HO285, Q_HO289, Q_HA_HO289, Q_X3_, Q_X8_⟩
       refine steps_cons ?_ ?_
       ·rintro b a w' ⟨v284, adz_v284, v288, adz_v288, m3_, m8_, ha, Q_HB, Q_HO285, Q_HA_HO285, Q_HO289, Q_HA_HO289, Q_X3_, Q_X8_⟩ hb_ hon hoff
        refine ⟨_, rfl, fun K hK => ?_⟩
        have e7 : a.tmps[7]? = some (.string (rdOf ByteArray.empty y283 (ji2))) := by rw [ha]; exact putSel_on (e := (4, 7, .string (rdOf ByteArray.empty y283 (ji2)))) 3 rfl rfl (hon 4 (by kernel_rfl)) rfl
        have e12 : a.tmps[12]? = some (.string (rdOf ByteArray.empty y287 (ji5))) := by rw [ha]; exact putSel_on (e := (9, 12, .string (rdOf ByteArray.empty y287 (ji5)))) 7 rfl rfl (hon 9 (by kernel_rfl)) rfl
        replace ha := Aside0.mk ha
        have HB := Aside0.mk Q_HB
        have HO285 := Az (Q_HO285 (hon 0 (by kernel_rfl)))
        have HA_HO285 := Az (Q_HA_HO285 (hon 0 (by kernel_rfl)))
        have HO289 := Az (Q_HO289 (hon 5 (by kernel_rfl)))
        have HA_HO289 := Az (Q_HA_HO289 (hon 5 (by kernel_rfl)))
        refine value_ (w1 := w') (v := .string ((rdOf ByteArray.empty y283 (ji2)) ++ (rdOf ByteArray.empty y287 (ji5)))) (by rfl) rfl ?_ ?_
        ·go_simp
         (try simp only [i64_w])
         try rfl
         try (simp only [ByteArray.size_extract, eq_iff_iff, iff_true, iff_false, decide_eq_true_eq] at *; omega)
        refine hK.out _ _ ⟨v284, adz_v284, v288, adz_v288, m3_, m8_, (by rw [ha.out]; exact putSel_upk 8 hb_ rfl rfl rfl), Q_HB, Q_HO285, Q_HA_HO285, Q_HO289, Q_HA_HO289, Q_X3_, Q_X8_⟩
       refine steps_cons ?_ ?_
       ·rintro b a w' ⟨v284, adz_v284, v288, adz_v288, m3_, m8_, ha, Q_HB, Q_HO285, Q_HA_HO285, Q_HO289, Q_HA_HO289, Q_X3_, Q_X8_⟩ hb_ hon hoff
        refine ⟨_, rfl, fun K hK => ?_⟩
        have e13 : a.tmps[13]? = some (.string ((rdOf ByteArray.empty y283 (ji2)) ++ (rdOf ByteArray.empty y287 (ji5)))) := by rw [ha]; exact putSel_on (e := (10, 13, .string ((rdOf ByteArray.empty y283 (ji2)) ++ (rdOf ByteArray.empty y287 (ji5))))) 8 rfl rfl (hon 10 (by kernel_rfl)) rfl
        replace ha := Aside0.mk ha
        have HB := Aside0.mk Q_HB
        have HO285 := Az (Q_HO285 (hon 0 (by kernel_rfl)))
        have HA_HO285 := Az (Q_HA_HO285 (hon 0 (by kernel_rfl)))
        have HO289 := Az (Q_HO289 (hon 5 (by kernel_rfl)))
        have HA_HO289 := Az (Q_HA_HO289 (hon 5 (by kernel_rfl)))
        refine value_ (w1 := w') (v := .string ((rdOf ByteArray.empty y283 (ji2)) ++ (rdOf ByteArray.empty y287 (ji5)))) (by rfl) rfl ?_ ?_
        ·go_simp
         (try simp only [i64_w])
         try rfl
         try (simp only [ByteArray.size_extract, eq_iff_iff, iff_true, iff_false, decide_eq_true_eq] at *; omega)
        refine hK.out _ _ ⟨v284, adz_v284, v288, adz_v288, m3_, m8_, (by rw [ha.out]; exact putSel_upk 9 hb_ rfl rfl rfl), Q_HB, Q_HO285, Q_HA_HO285, Q_HO289, Q_HA_HO289, Q_X3_, Q_X8_⟩
       exact steps_nil
      rintro b a w16 hall ⟨v284, adz_v284, v288, adz_v288, m3_, m8_, ha, Q_HB, Q_HO285, Q_HA_HO285, Q_HO289, Q_HA_HO289, Q_X3_, Q_X8_⟩
      clear HB
      have hb0_ := hall 0 (by kernel_rfl)
      have hb2_ := hall 2 (by kernel_rfl)
      have hb3_ := hall 3 (by kernel_rfl)
      have hb4_ := hall 4 (by kernel_rfl)
      have hb5_ := hall 5 (by kernel_rfl)
      have hb7_ := hall 7 (by kernel_rfl)
      have hb8_ := hall 8 (by kernel_rfl)
      have hb9_ := hall 9 (by kernel_rfl)
      have hb10_ := hall 10 (by kernel_rfl)
      have hb11_ := hall 11 (by kernel_rfl)
      subst ha
      obtain rfl := Q_X3_ hb3_
      obtain rfl := Q_X8_ hb8_
      simp only [putSel, hb0_, hb2_, hb3_, hb4_, hb5_, hb7_, hb8_, hb9_, hb10_, hb11_, if_true, Act.put, List.setIfInBounds_toArray, List.set_cons_zero, List.set_cons_succ]
      have HB := Aside0.mk Q_HB
      clear Q_HB
      have HO285 := Az (Q_HO285 hb0_)
      clear Q_HO285
      have HA_HO285 := Az (Q_HA_HO285 hb0_)
      clear Q_HA_HO285
      have HO289 := Az (Q_HO289 hb5_)
      clear Q_HO289
      have HA_HO289 := Az (Q_HA_HO289 hb5_)
      clear Q_HA_HO289
      clear hall hb0_ hb2_ hb3_ hb4_ hb5_ hb7_ hb8_ hb9_ hb10_ hb11_
      obtain ⟨co17, eo17⟩ := HA_HO285.out
      clear HA_HO285
      subst eo17
      obtain ⟨co18, eo18⟩ := HA_HO289.out
      clear HA_HO289
      subst eo18
      try go_wp2
      go_ret
      exact ⟨by first | rfl | (simp [errW_none, errW_some] <;> rfl) | (simp only [← hji2, ← hji5]; first | rfl | (simp [errW_none, errW_some] <;> rfl)) | (simp [*, errW_none, errW_some] <;> rfl), (bB HB)⟩
     ·rw [if_neg c8] at H
      exact absurd H (by simp)
    ·rw [if_neg c7] at H
     exact absurd H (by simp)
   ·rw [if_neg c6] at H
    exact absurd H (by simp)
  ·rw [if_neg c4] at H
   exact absurd H (by simp)
 ·rw [if_neg c3] at H
  exact absurd H (by simp)

/-! ### spec_WeighText: function 14 -/
def spec_WeighText.f (a0_0 : Int) (a0_1 : Int) (a0_2 : Int) : Option (ByteArray) := (spec_WeighOk.f a0_0 a0_1 a0_2).bind fun t292 => (if t292 = true then ((some (([(⟨#[97, 108, 108, 32]⟩ : ByteArray), (⟨#[115, 111, 109, 101, 32]⟩ : ByteArray), (⟨#[110, 111, 116, 32, 102, 101, 119, 101, 114, 32]⟩ : ByteArray), (⟨#[109, 111, 114, 101, 32]⟩ : ByteArray), (⟨#[109, 111, 115, 116, 32]⟩ : ByteArray), (⟨#[97, 116, 32, 109, 111, 115, 116, 32, 104, 97, 108, 102, 32]⟩ : ByteArray)] : List ByteArray) : List ByteArray)).bind fun y293 => (if 0 ≤ a0_0 then (if a0_0 < (y293.length : Int) then ((some (([(⟨#[32, 97, 114, 101, 32]⟩ : ByteArray), (⟨#[32, 97, 114, 101, 32]⟩ : ByteArray), (⟨#[32, 116, 104, 97, 110, 32]⟩ : ByteArray), (⟨#[32, 116, 104, 97, 110, 32]⟩ : ByteArray), (⟨#[32, 97, 114, 101, 32]⟩ : ByteArray), (⟨#[32, 97, 114, 101, 32]⟩ : ByteArray)] : List ByteArray) : List ByteArray)).bind fun y297 => (if a0_0 < (y297.length : Int) then ((spec_l5Term.f a0_1).bind fun t301 => (if (rdOf ByteArray.empty y293 a0_0).size + t301.size ≤ 9223372036854775807 then (if (rdOf ByteArray.empty y293 a0_0).size + t301.size + (rdOf ByteArray.empty y297 a0_0).size ≤ 9223372036854775807 then ((spec_l5Term.f a0_2).bind fun t302 => (if (rdOf ByteArray.empty y293 a0_0).size + t301.size + (rdOf ByteArray.empty y297 a0_0).size + t302.size ≤ 9223372036854775807 then (some ((((rdOf ByteArray.empty y293 a0_0) ++ t301) ++ (rdOf ByteArray.empty y297 a0_0)) ++ t302)) else (none))) else (none)) else (none))) else (none))) else (none)) else (none))) else (some (⟨#[]⟩ : ByteArray)))
def spec_WeighText.T5 : Bool × List (List Nat × List Nat) := (true, [([], []), ([], []), ([1], [1]), ([2], [2]), ([0, 3], [0, 3]), ([], []), ([4, 5], [4, 5]), ([], []), ([7], [7]), ([8, 3], [8]), ([6, 9], [6, 9]), ([10, 9, 0, 1, 2, 3, 4, 5, 6, 7, 8, 9, 10], [10])])
def spec_WeighText.B5 : List Nat := [0, 0, 2, 6, 15, 0, 63, 0, 128, 398, 1023, 2047]
theorem spec_WeighText.tab5 : rtab .any (opsOf Try.f14 5) = spec_WeighText.T5 := by kernel_rfl
theorem spec_WeighText.bits5 : waitsOk spec_WeighText.T5.2 spec_WeighText.B5 = true := by kernel_rfl
set_option maxHeartbeats 8000000 in
set_option maxRecDepth 100000 in
theorem spec_WeighText.calls (a0_0 : Int) (a0_1 : Int) (a0_2 : Int) (r : ByteArray) (w : World) (h : spec_WeighText.f a0_0 a0_1 a0_2 = some r) :
  Calls Try.prog 14 #[.agg #[.int .i64 a0_0, .int .i64 a0_1, .int .i64 a0_2]] w fun e w' => e = .returned (.string r) ∧ Below w.heap.size w w' := by
 have hu25 := Try.underlying25
 have HB := Az (Below.refl w.heap.size w)
 have H : ((spec_WeighOk.f a0_0 a0_1 a0_2).bind fun t292 => (if t292 = true then ((some (([(⟨#[97, 108, 108, 32]⟩ : ByteArray), (⟨#[115, 111, 109, 101, 32]⟩ : ByteArray), (⟨#[110, 111, 116, 32, 102, 101, 119, 101, 114, 32]⟩ : ByteArray), (⟨#[109, 111, 114, 101, 32]⟩ : ByteArray), (⟨#[109, 111, 115, 116, 32]⟩ : ByteArray), (⟨#[97, 116, 32, 109, 111, 115, 116, 32, 104, 97, 108, 102, 32]⟩ : ByteArray)] : List ByteArray) : List ByteArray)).bind fun y293 => (if 0 ≤ a0_0 then (if a0_0 < (y293.length : Int) then ((some (([(⟨#[32, 97, 114, 101, 32]⟩ : ByteArray), (⟨#[32, 97, 114, 101, 32]⟩ : ByteArray), (⟨#[32, 116, 104, 97, 110, 32]⟩ : ByteArray), (⟨#[32, 116, 104, 97, 110, 32]⟩ : ByteArray), (⟨#[32, 97, 114, 101, 32]⟩ : ByteArray), (⟨#[32, 97, 114, 101, 32]⟩ : ByteArray)] : List ByteArray) : List ByteArray)).bind fun y297 => (if a0_0 < (y297.length : Int) then ((spec_l5Term.f a0_1).bind fun t301 => (if (rdOf ByteArray.empty y293 a0_0).size + t301.size ≤ 9223372036854775807 then (if (rdOf ByteArray.empty y293 a0_0).size + t301.size + (rdOf ByteArray.empty y297 a0_0).size ≤ 9223372036854775807 then ((spec_l5Term.f a0_2).bind fun t302 => (if (rdOf ByteArray.empty y293 a0_0).size + t301.size + (rdOf ByteArray.empty y297 a0_0).size + t302.size ≤ 9223372036854775807 then (some ((((rdOf ByteArray.empty y293 a0_0) ++ t301) ++ (rdOf ByteArray.empty y297 a0_0)) ++ t302)) else (none))) else (none)) else (none))) else (none))) else (none)) else (none))) else (some (⟨#[]⟩ : ByteArray)))) = some r := h
 clear h
 replace H := Option.bind_eq_some_iff.mp H
 obtain ⟨t292, A20, H⟩ := H
 replace H : (if t292 = true then ((some (([(⟨#[97, 108, 108, 32]⟩ : ByteArray), (⟨#[115, 111, 109, 101, 32]⟩ : ByteArray), (⟨#[110, 111, 116, 32, 102, 101, 119, 101, 114, 32]⟩ : ByteArray), (⟨#[109, 111, 114, 101, 32]⟩ : ByteArray), (⟨#[109, 111, 115, 116, 32]⟩ : ByteArray), (⟨#[97, 116, 32, 109, 111, 115, 116, 32, 104, 97, 108, 102, 32]⟩ : ByteArray)] : List ByteArray) : List ByteArray)).bind fun y293 => (if 0 ≤ a0_0 then (if a0_0 < (y293.length : Int) then ((some (([(⟨#[32, 97, 114, 101, 32]⟩ : ByteArray), (⟨#[32, 97, 114, 101, 32]⟩ : ByteArray), (⟨#[32, 116, 104, 97, 110, 32]⟩ : ByteArray), (⟨#[32, 116, 104, 97, 110, 32]⟩ : ByteArray), (⟨#[32, 97, 114, 101, 32]⟩ : ByteArray), (⟨#[32, 97, 114, 101, 32]⟩ : ByteArray)] : List ByteArray) : List ByteArray)).bind fun y297 => (if a0_0 < (y297.length : Int) then ((spec_l5Term.f a0_1).bind fun t301 => (if (rdOf ByteArray.empty y293 a0_0).size + t301.size ≤ 9223372036854775807 then (if (rdOf ByteArray.empty y293 a0_0).size + t301.size + (rdOf ByteArray.empty y297 a0_0).size ≤ 9223372036854775807 then ((spec_l5Term.f a0_2).bind fun t302 => (if (rdOf ByteArray.empty y293 a0_0).size + t301.size + (rdOf ByteArray.empty y297 a0_0).size + t302.size ≤ 9223372036854775807 then (some ((((rdOf ByteArray.empty y293 a0_0) ++ t301) ++ (rdOf ByteArray.empty y297 a0_0)) ++ t302)) else (none))) else (none)) else (none))) else (none))) else (none)) else (none))) else (some (⟨#[]⟩ : ByteArray))) = some r := H
 have A2 := Aside0.mk A20
 clear A20
 by_cases c3 : t292 = true
 ·subst c3
  have H1 : ((some (([(⟨#[97, 108, 108, 32]⟩ : ByteArray), (⟨#[115, 111, 109, 101, 32]⟩ : ByteArray), (⟨#[110, 111, 116, 32, 102, 101, 119, 101, 114, 32]⟩ : ByteArray), (⟨#[109, 111, 114, 101, 32]⟩ : ByteArray), (⟨#[109, 111, 115, 116, 32]⟩ : ByteArray), (⟨#[97, 116, 32, 109, 111, 115, 116, 32, 104, 97, 108, 102, 32]⟩ : ByteArray)] : List ByteArray) : List ByteArray)).bind fun y293 => (if 0 ≤ a0_0 then (if a0_0 < (y293.length : Int) then ((some (([(⟨#[32, 97, 114, 101, 32]⟩ : ByteArray), (⟨#[32, 97, 114, 101, 32]⟩ : ByteArray), (⟨#[32, 116, 104, 97, 110, 32]⟩ : ByteArray), (⟨#[32, 116, 104, 97, 110, 32]⟩ : ByteArray), (⟨#[32, 97, 114, 101, 32]⟩ : ByteArray), (⟨#[32, 97, 114, 101, 32]⟩ : ByteArray)] : List ByteArray) : List ByteArray)).bind fun y297 => (if a0_0 < (y297.length : Int) then ((spec_l5Term.f a0_1).bind fun t301 => (if (rdOf ByteArray.empty y293 a0_0).size + t301.size ≤ 9223372036854775807 then (if (rdOf ByteArray.empty y293 a0_0).size + t301.size + (rdOf ByteArray.empty y297 a0_0).size ≤ 9223372036854775807 then ((spec_l5Term.f a0_2).bind fun t302 => (if (rdOf ByteArray.empty y293 a0_0).size + t301.size + (rdOf ByteArray.empty y297 a0_0).size + t302.size ≤ 9223372036854775807 then (some ((((rdOf ByteArray.empty y293 a0_0) ++ t301) ++ (rdOf ByteArray.empty y297 a0_0)) ++ t302)) else (none))) else (none)) else (none))) else (none))) else (none)) else (none))) = some r := by rw [if_pos rfl] at H; exact H
  clear H
  have H := H1
  clear H1
  obtain ⟨y293, hy293⟩ : ∃ y_ : List ByteArray, y_ = (([(⟨#[97, 108, 108, 32]⟩ : ByteArray), (⟨#[115, 111, 109, 101, 32]⟩ : ByteArray), (⟨#[110, 111, 116, 32, 102, 101, 119, 101, 114, 32]⟩ : ByteArray), (⟨#[109, 111, 114, 101, 32]⟩ : ByteArray), (⟨#[109, 111, 115, 116, 32]⟩ : ByteArray), (⟨#[97, 116, 32, 109, 111, 115, 116, 32, 104, 97, 108, 102, 32]⟩ : ByteArray)] : List ByteArray)) := ⟨_, rfl⟩
  replace H : (if 0 ≤ a0_0 then (if a0_0 < (y293.length : Int) then ((some (([(⟨#[32, 97, 114, 101, 32]⟩ : ByteArray), (⟨#[32, 97, 114, 101, 32]⟩ : ByteArray), (⟨#[32, 116, 104, 97, 110, 32]⟩ : ByteArray), (⟨#[32, 116, 104, 97, 110, 32]⟩ : ByteArray), (⟨#[32, 97, 114, 101, 32]⟩ : ByteArray), (⟨#[32, 97, 114, 101, 32]⟩ : ByteArray)] : List ByteArray) : List ByteArray)).bind fun y297 => (if a0_0 < (y297.length : Int) then ((spec_l5Term.f a0_1).bind fun t301 => (if (rdOf ByteArray.empty y293 a0_0).size + t301.size ≤ 9223372036854775807 then (if (rdOf ByteArray.empty y293 a0_0).size + t301.size + (rdOf ByteArray.empty y297 a0_0).size ≤ 9223372036854775807 then ((spec_l5Term.f a0_2).bind fun t302 => (if (rdOf ByteArray.empty y293 a0_0).size + t301.size + (rdOf ByteArray.empty y297 a0_0).size + t302.size ≤ 9223372036854775807 then (some ((((rdOf ByteArray.empty y293 a0_0) ++ t301) ++ (rdOf ByteArray.empty y297 a0_0)) ++ t302)) else (none))) else (none)) else (none))) else (none))) else (none)) else (none)) = some r := by first | (rw [hy293]; with_reducible exact H) | (have H2_ := (Option.bind_some _ _).symm.trans H; rw [hy293]; with_reducible exact H2_) | (have H2_ := (Option.bind_some _ _).symm.trans H; with_reducible exact H2_) | with_reducible exact H | (rw [hy293]; exact H) | exact H
  have Ny293 := Aside0.mk hy293
  clear hy293
  by_cases c4 : 0 ≤ a0_0
  ·rw [if_pos c4] at H
   have c4b0 : decide (0 ≤ a0_0) = true := decide_eq_true c4
   clear c4
   by_cases c5 : a0_0 < (y293.length : Int)
   ·rw [if_pos c5] at H
    have c5b0 : decide (a0_0 < (y293.length : Int)) = true := decide_eq_true c5
    clear c5
    obtain ⟨y297, hy297⟩ : ∃ y_ : List ByteArray, y_ = (([(⟨#[32, 97, 114, 101, 32]⟩ : ByteArray), (⟨#[32, 97, 114, 101, 32]⟩ : ByteArray), (⟨#[32, 116, 104, 97, 110, 32]⟩ : ByteArray), (⟨#[32, 116, 104, 97, 110, 32]⟩ : ByteArray), (⟨#[32, 97, 114, 101, 32]⟩ : ByteArray), (⟨#[32, 97, 114, 101, 32]⟩ : ByteArray)] : List ByteArray)) := ⟨_, rfl⟩
    replace H : (if a0_0 < (y297.length : Int) then ((spec_l5Term.f a0_1).bind fun t301 => (if (rdOf ByteArray.empty y293 a0_0).size + t301.size ≤ 9223372036854775807 then (if (rdOf ByteArray.empty y293 a0_0).size + t301.size + (rdOf ByteArray.empty y297 a0_0).size ≤ 9223372036854775807 then ((spec_l5Term.f a0_2).bind fun t302 => (if (rdOf ByteArray.empty y293 a0_0).size + t301.size + (rdOf ByteArray.empty y297 a0_0).size + t302.size ≤ 9223372036854775807 then (some ((((rdOf ByteArray.empty y293 a0_0) ++ t301) ++ (rdOf ByteArray.empty y297 a0_0)) ++ t302)) else (none))) else (none)) else (none))) else (none)) = some r := by first | (rw [hy297]; with_reducible exact H) | (have H2_ := (Option.bind_some _ _).symm.trans H; rw [hy297]; with_reducible exact H2_) | (have H2_ := (Option.bind_some _ _).symm.trans H; with_reducible exact H2_) | with_reducible exact H | (rw [hy297]; exact H) | exact H
    have Ny297 := Aside0.mk hy297
    clear hy297
    by_cases c6 : a0_0 < (y297.length : Int)
    ·rw [if_pos c6] at H
     have c6b0 : decide (a0_0 < (y297.length : Int)) = true := decide_eq_true c6
     clear c6
     replace H := Option.bind_eq_some_iff.mp H
     obtain ⟨t301, A70, H⟩ := H
     replace H : (if (rdOf ByteArray.empty y293 a0_0).size + t301.size ≤ 9223372036854775807 then (if (rdOf ByteArray.empty y293 a0_0).size + t301.size + (rdOf ByteArray.empty y297 a0_0).size ≤ 9223372036854775807 then ((spec_l5Term.f a0_2).bind fun t302 => (if (rdOf ByteArray.empty y293 a0_0).size + t301.size + (rdOf ByteArray.empty y297 a0_0).size + t302.size ≤ 9223372036854775807 then (some ((((rdOf ByteArray.empty y293 a0_0) ++ t301) ++ (rdOf ByteArray.empty y297 a0_0)) ++ t302)) else (none))) else (none)) else (none)) = some r := H
     have A7 := Aside0.mk A70
     clear A70
     by_cases c8 : (rdOf ByteArray.empty y293 a0_0).size + t301.size ≤ 9223372036854775807
     ·rw [if_pos c8] at H
      have c8b0 := eq_true c8
      have c8b1 : decide ((rdOf ByteArray.empty y293 a0_0).size + t301.size ≤ 9223372036854775807) = true := decide_eq_true c8
      try have c8b2 : (9223372036854775807 < (rdOf ByteArray.empty y293 a0_0).size + t301.size) = False := eq_false (Nat.not_lt.2 c8)
      by_cases c9 : (rdOf ByteArray.empty y293 a0_0).size + t301.size + (rdOf ByteArray.empty y297 a0_0).size ≤ 9223372036854775807
      ·rw [if_pos c9] at H
       have c9b0 := eq_true c9
       have c9b1 : decide ((rdOf ByteArray.empty y293 a0_0).size + t301.size + (rdOf ByteArray.empty y297 a0_0).size ≤ 9223372036854775807) = true := decide_eq_true c9
       try have c9b2 : (9223372036854775807 < (rdOf ByteArray.empty y293 a0_0).size + t301.size + (rdOf ByteArray.empty y297 a0_0).size) = False := eq_false (Nat.not_lt.2 c9)
       replace H := Option.bind_eq_some_iff.mp H
       obtain ⟨t302, A100, H⟩ := H
       replace H : (if (rdOf ByteArray.empty y293 a0_0).size + t301.size + (rdOf ByteArray.empty y297 a0_0).size + t302.size ≤ 9223372036854775807 then (some ((((rdOf ByteArray.empty y293 a0_0) ++ t301) ++ (rdOf ByteArray.empty y297 a0_0)) ++ t302)) else (none)) = some r := H
       have A10 := Aside0.mk A100
       clear A100
       by_cases c11 : (rdOf ByteArray.empty y293 a0_0).size + t301.size + (rdOf ByteArray.empty y297 a0_0).size + t302.size ≤ 9223372036854775807
       ·rw [if_pos c11] at H
        have c11b0 := eq_true c11
        have c11b1 : decide ((rdOf ByteArray.empty y293 a0_0).size + t301.size + (rdOf ByteArray.empty y297 a0_0).size + t302.size ≤ 9223372036854775807) = true := decide_eq_true c11
        try have c11b2 : (9223372036854775807 < (rdOf ByteArray.empty y293 a0_0).size + t301.size + (rdOf ByteArray.empty y297 a0_0).size + t302.size) = False := eq_false (Nat.not_lt.2 c11)
        obtain rfl := Option.some.inj H
        go_enter Try.func14, Try.ntmps14
        try go_wp2_with (first | ((with_reducible refine gate_dst (N := 1) rfl ?_); refine box_event ?hg (N := 1) ?hd (cs := #[.int .i64 a0_0, .int .i64 a0_1, .int .i64 a0_2]) (t := 25) ?hr ?_; (case hd => rfl); (case hg => rfl); (case hr => first | (go_simp; done) | (go_simp; rfl)); intro gb291 hg w12 hbox hb; have n0_ := Az (below_step (bB HB) hb); have n1_ := Az (hbox); have n2_ := Az ((by rw [hg]; exact (below_size (bB HB)) : w.heap.size ≤ gb291)); have n3_ := Az ((by rw [hg]; exact (below_size (bB HB)) : w.heap.size ≤ gb291)); clear HB; have HB := n0_; have BK291 := n1_; have GW291 := n2_; have GE291 := n3_; clear n0_ n1_ n2_ n3_; clear hb hbox hg; have hcz13_0 : w12.cell? ⟨gb291, 0, none⟩ = some (.int .i64 a0_0) := (blk_cell BK291.out 0).trans rfl; have hcz13_1 : w12.cell? ⟨gb291, 1, none⟩ = some (.int .i64 a0_1) := (blk_cell BK291.out 1).trans rfl; have hcz13_2 : w12.cell? ⟨gb291, 2, none⟩ = some (.int .i64 a0_2) := (blk_cell BK291.out 2).trans rfl; have hfz13_0 := blk_frozen BK291.out 0; have hfz13_1 := blk_frozen BK291.out 1; have hfz13_2 := blk_frozen BK291.out 2) | ((with_reducible refine gate_callee (f := 53) rfl ?_); refine goesL_ (some 6) rfl rfl Try.func53 (by kernel_rfl) rfl #[.agg #[.int .i64 a0_0, .int .i64 a0_1, .int .i64 a0_2]] rfl gf ?_; (with_reducible refine (spec_WeighOk.calls a0_0 a0_1 a0_2 true _ A2.out).mono ?_); rintro e w14 ⟨rfl, hb⟩; refine ⟨_, rfl, ?_⟩; have n0_ := Az (blk_below (bA BK291) hb); have n1_ := Az (below_step (bB HB) hb); clear BK291; clear HB; have BK291 := n0_; have HB := n1_; clear n0_ n1_; (try clear hb); (try clear hi)) | ((with_reducible refine gate_dst (N := 8) rfl ?_); refine Kd.R_lit Kd.string _ 9 ?hg (N := 8) ?hd (xs := ([(⟨#[97, 108, 108, 32]⟩ : ByteArray), (⟨#[115, 111, 109, 101, 32]⟩ : ByteArray), (⟨#[110, 111, 116, 32, 102, 101, 119, 101, 114, 32]⟩ : ByteArray), (⟨#[109, 111, 114, 101, 32]⟩ : ByteArray), (⟨#[109, 111, 115, 116, 32]⟩ : ByteArray), (⟨#[97, 116, 32, 109, 111, 115, 116, 32, 104, 97, 108, 102, 32]⟩ : ByteArray)] : List ByteArray)) (inner := [.string (⟨#[97, 108, 108, 32]⟩ : ByteArray), .string (⟨#[115, 111, 109, 101, 32]⟩ : ByteArray), .string (⟨#[110, 111, 116, 32, 102, 101, 119, 101, 114, 32]⟩ : ByteArray), .string (⟨#[109, 111, 114, 101, 32]⟩ : ByteArray), .string (⟨#[109, 111, 115, 116, 32]⟩ : ByteArray), .string (⟨#[97, 116, 32, 109, 111, 115, 116, 32, 104, 97, 108, 102, 32]⟩ : ByteArray)]) (ok := fun _ => True) (okp := fun _ => True) ?hr ?hp (fun _ hk => hk) trivial (Below.refl _ _) (Nat.le_refl _) (by simp) ?_; (case hd => rfl); (case hg => rfl); (case hr => first | (go_simp; done) | (go_simp; rfl)); (case hp => exact (Reps.one (show Kd.M Kd.string _ _ _ (⟨#[97, 108, 108, 32]⟩ : ByteArray) [.string (⟨#[97, 108, 108, 32]⟩ : ByteArray)] from rfl) (Reps.one (show Kd.M Kd.string _ _ _ (⟨#[115, 111, 109, 101, 32]⟩ : ByteArray) [.string (⟨#[115, 111, 109, 101, 32]⟩ : ByteArray)] from rfl) (Reps.one (show Kd.M Kd.string _ _ _ (⟨#[110, 111, 116, 32, 102, 101, 119, 101, 114, 32]⟩ : ByteArray) [.string (⟨#[110, 111, 116, 32, 102, 101, 119, 101, 114, 32]⟩ : ByteArray)] from rfl) (Reps.one (show Kd.M Kd.string _ _ _ (⟨#[109, 111, 114, 101, 32]⟩ : ByteArray) [.string (⟨#[109, 111, 114, 101, 32]⟩ : ByteArray)] from rfl) (Reps.one (show Kd.M Kd.string _ _ _ (⟨#[109, 111, 115, 116, 32]⟩ : ByteArray) [.string (⟨#[109, 111, 115, 116, 32]⟩ : ByteArray)] from rfl) (Reps.one (show Kd.M Kd.string _ _ _ (⟨#[97, 116, 32, 109, 111, 115, 116, 32, 104, 97, 108, 102, 32]⟩ : ByteArray) [.string (⟨#[97, 116, 32, 109, 111, 115, 116, 32, 104, 97, 108, 102, 32]⟩ : ByteArray)] from rfl) (Reps.none _ _)))))))); intro v294 w15 ho16 hb hg_ hnew_; clear hg_ hnew_; (first | rw [← Ny293.out] at ho16 | (simp only [Int.reduceToNat] at ho16; rw [← Ny293.out] at ho16)); have n0_ := Az (Kd.R_lower ho16 (below_size (bB HB))); have n1_ := Az (blk_below (bA BK291) hb); have n2_ := Az (below_step (bB HB) hb); clear BK291; clear HB; have HO295 := n0_; have BK291 := n1_; have HB := n2_; clear n0_ n1_ n2_; clear hb ho16; have hcz17_0 : w15.cell? ⟨gb291, 0, none⟩ = some (.int .i64 a0_0) := (blk_cell BK291.out 0).trans rfl; have hcz17_1 : w15.cell? ⟨gb291, 1, none⟩ = some (.int .i64 a0_1) := (blk_cell BK291.out 1).trans rfl; have hcz17_2 : w15.cell? ⟨gb291, 2, none⟩ = some (.int .i64 a0_2) := (blk_cell BK291.out 2).trans rfl; have hfz17_0 := blk_frozen BK291.out 0; have hfz17_1 := blk_frozen BK291.out 1; have hfz17_2 := blk_frozen BK291.out 2; obtain ⟨Ao18, co18, eo18⟩ := Kd.R_slice HO295.out; subst eo18; have p296 : 0 ≤ (a0_0 : Int) := of_decide_eq_true fa; have q296 : a0_0 < (y293.length : Int) := of_decide_eq_true fa; obtain ⟨ad296, e296, hx296_0⟩ := Kd.at_string (Kd.R_reads' HO295.out).2.2 a0_0 p296 q296; cases e296; replace p296 := eq_true p296; replace q296 := eq_true q296) | ((with_reducible refine gate_dst (N := 13) rfl ?_); refine Kd.R_lit Kd.string _ 9 ?hg (N := 13) ?hd (xs := ([(⟨#[32, 97, 114, 101, 32]⟩ : ByteArray), (⟨#[32, 97, 114, 101, 32]⟩ : ByteArray), (⟨#[32, 116, 104, 97, 110, 32]⟩ : ByteArray), (⟨#[32, 116, 104, 97, 110, 32]⟩ : ByteArray), (⟨#[32, 97, 114, 101, 32]⟩ : ByteArray), (⟨#[32, 97, 114, 101, 32]⟩ : ByteArray)] : List ByteArray)) (inner := [.string (⟨#[32, 97, 114, 101, 32]⟩ : ByteArray), .string (⟨#[32, 97, 114, 101, 32]⟩ : ByteArray), .string (⟨#[32, 116, 104, 97, 110, 32]⟩ : ByteArray), .string (⟨#[32, 116, 104, 97, 110, 32]⟩ : ByteArray), .string (⟨#[32, 97, 114, 101, 32]⟩ : ByteArray), .string (⟨#[32, 97, 114, 101, 32]⟩ : ByteArray)]) (ok := fun _ => True) (okp := fun _ => True) ?hr ?hp (fun _ hk => hk) trivial (Below.refl _ _) (Nat.le_refl _) (by simp) ?_; (case hd => rfl); (case hg => rfl); (case hr => first | (go_simp; done) | (go_simp; rfl)); (case hp => exact (Reps.one (show Kd.M Kd.string _ _ _ (⟨#[32, 97, 114, 101, 32]⟩ : ByteArray) [.string (⟨#[32, 97, 114, 101, 32]⟩ : ByteArray)] from rfl) (Reps.one (show Kd.M Kd.string _ _ _ (⟨#[32, 97, 114, 101, 32]⟩ : ByteArray) [.string (⟨#[32, 97, 114, 101, 32]⟩ : ByteArray)] from rfl) (Reps.one (show Kd.M Kd.string _ _ _ (⟨#[32, 116, 104, 97, 110, 32]⟩ : ByteArray) [.string (⟨#[32, 116, 104, 97, 110, 32]⟩ : ByteArray)] from rfl) (Reps.one (show Kd.M Kd.string _ _ _ (⟨#[32, 116, 104, 97, 110, 32]⟩ : ByteArray) [.string (⟨#[32, 116, 104, 97, 110, 32]⟩ : ByteArray)] from rfl) (Reps.one (show Kd.M Kd.string _ _ _ (⟨#[32, 97, 114, 101, 32]⟩ : ByteArray) [.string (⟨#[32, 97, 114, 101, 32]⟩ : ByteArray)] from rfl) (Reps.one (show Kd.M Kd.string _ _ _ (⟨#[32, 97, 114, 101, 32]⟩ : ByteArray) [.string (⟨#[32, 97, 114, 101, 32]⟩ : ByteArray)] from rfl) (Reps.none _ _)))))))); intro v298 w19 ho20 hb hg_ hnew_; clear hg_ hnew_; (first | rw [← Ny297.out] at ho20 | (simp only [Int.reduceToNat] at ho20; rw [← Ny297.out] at ho20)); have n0_ := Az (Kd.R_elder' (dR (HO295.out)) (Kd.R_base ho20) hb); have n1_ := Az (Kd.R_lower (Kd.R_new' ho20 (Kd.R_lt (dR (HO295.out)))) (below_size (bB HB))); have n2_ := Az (blk_below (bA BK291) hb); have n3_ := Az (below_step (bB HB) hb); clear HO295; clear BK291; clear HB; have HO295 := n0_; have HO299 := n1_; have BK291 := n2_; have HB := n3_; clear n0_ n1_ n2_ n3_; clear hb ho20; have hcz21_0 : w19.cell? ⟨gb291, 0, none⟩ = some (.int .i64 a0_0) := (blk_cell BK291.out 0).trans rfl; have hcz21_1 : w19.cell? ⟨gb291, 1, none⟩ = some (.int .i64 a0_1) := (blk_cell BK291.out 1).trans rfl; have hcz21_2 : w19.cell? ⟨gb291, 2, none⟩ = some (.int .i64 a0_2) := (blk_cell BK291.out 2).trans rfl; have hfz21_0 := blk_frozen BK291.out 0; have hfz21_1 := blk_frozen BK291.out 1; have hfz21_2 := blk_frozen BK291.out 2; obtain ⟨Ao22, co22, eo22⟩ := Kd.R_slice HO299.out; subst eo22; have p300 : 0 ≤ (a0_0 : Int) := of_decide_eq_true fa; have q300 : a0_0 < (y297.length : Int) := of_decide_eq_true fa; obtain ⟨ad300, e300, hx300_0⟩ := Kd.at_string (Kd.R_reads' HO299.out).2.2 a0_0 p300 q300; cases e300; replace p300 := eq_true p300; replace q300 := eq_true q300))
        have n0_ := Az (Kd.R_drew HO295.out)
        have n1_ := Az (Kd.R_drew HO299.out)
        have n2_ := Az (blk_drew BK291.out)
        have n3_ := Az (below_drew1 HB.out)
        clear HO295
        clear HO299
        clear BK291
        clear HB
        have HO295 := n0_
        have HO299 := n1_
        have BK291 := n2_
        have HB := n3_
        clear n0_ n1_ n2_ n3_
        refine start_ (n := 12) (S := fun w' => w'.cell? ⟨gb291, 0, none⟩ = some (.int .i64 a0_0) ∧ w'.cell? ⟨gb291, 1, none⟩ = some (.int .i64 a0_1) ∧ w'.cell? ⟨gb291, 2, none⟩ = some (.int .i64 a0_2)) (ds := []) #[false, false, false, false, false, false, false, false, false, false, false, false] (by kernel_rfl) rfl rfl ⟨(blk_cell BK291.out 0).trans rfl, (blk_cell BK291.out 1).trans rfl, (blk_cell BK291.out 2).trans rfl⟩ (fun hHeld => ?_); refine with_tabW spec_WeighText.tab5 spec_WeighText.bits5 (fun HT_ HW_ => ?_)
        generalize w19.drew = w23 at HO295 HO299 BK291 HB hHeld ⊢
        refine pure_ (i := 0) (N := some 18) (v := ?_) (a' := ?_) #[true, false, false, false, false, false, false, false, false, false, false, false] rfl rfl (any_of HT_.out (by kernel_rfl)) (fun _ _ _ h => h) (Or.inl ⟨by rfl, ?_⟩) ?_ ?_
        rotate_left
        ·intro w'
         go_simp
         with_reducible rfl
        rotate_left
        ·simp only [Act.put, List.setIfInBounds_toArray, List.set_cons_zero, List.set_cons_succ, i64_w, i32_w]
         rfl
        refine pure_ (i := 1) (N := some 19) (v := ?_) (a' := ?_) #[true, true, false, false, false, false, false, false, false, false, false, false] rfl rfl (any_of HT_.out (by kernel_rfl)) (fun _ _ _ h => h) (Or.inl ⟨by rfl, ?_⟩) ?_ ?_
        rotate_left
        ·intro w'
         go_simp
         with_reducible rfl
        rotate_left
        ·simp only [Act.put, List.setIfInBounds_toArray, List.set_cons_zero, List.set_cons_succ, i64_w, i32_w]
         rfl
        refine pure_ (i := 5) (N := some 23) (v := ?_) (a' := ?_) #[true, true, false, false, false, true, false, false, false, false, false, false] rfl rfl (any_of HT_.out (by kernel_rfl)) (fun _ _ _ h => h) (Or.inl ⟨by rfl, ?_⟩) ?_ ?_
        rotate_left
        ·intro w'
         go_simp
         with_reducible rfl
        rotate_left
        ·simp only [Act.put, List.setIfInBounds_toArray, List.set_cons_zero, List.set_cons_succ, i64_w, i32_w]
         rfl
        refine pure_ (i := 7) (N := some 25) (v := ?_) (a' := ?_) #[true, true, false, false, false, true, false, true, false, false, false, false] rfl rfl (any_of HT_.out (by kernel_rfl)) (fun _ _ _ h => h) (Or.inl ⟨by rfl, ?_⟩) ?_ ?_
        rotate_left
        ·intro w'
         go_simp
         with_reducible rfl
        rotate_left
        ·simp only [Act.put, List.setIfInBounds_toArray, List.set_cons_zero, List.set_cons_succ, i64_w, i32_w]
         rfl
        refine take_ (i := 2) (N := some 20) (v := ?_) (a' := ?_) #[true, true, true, false, false, true, false, true, false, false, false, false] rfl rfl (take_ofW HT_.out HW_.out (by kernel_rfl)) (fun _ _ _ h => h) (Or.inl ⟨by rfl, ?_⟩) hHeld ?_ ?_
        rotate_left
        ·rintro w' ⟨s0, s1, s2⟩
         go_simp
         with_reducible rfl
        rotate_left
        ·simp only [Act.put, List.setIfInBounds_toArray, List.set_cons_zero, List.set_cons_succ, i64_w, i32_w]
         rfl
        refine take_ (i := 8) (N := some 26) (v := ?_) (a' := ?_) #[true, true, true, false, false, true, false, true, true, false, false, false] rfl rfl (take_ofW HT_.out HW_.out (by kernel_rfl)) (fun _ _ _ h => h) (Or.inl ⟨by rfl, ?_⟩) hHeld ?_ ?_
        rotate_left
        ·rintro w' ⟨s0, s1, s2⟩
         go_simp
         with_reducible rfl
        rotate_left
        ·simp only [Act.put, List.setIfInBounds_toArray, List.set_cons_zero, List.set_cons_succ, i64_w, i32_w]
         rfl
        refine one_ (i := 3) (N := some 21) #[true, true, true, true, false, true, false, true, true, false, false, false] rfl rfl (one_of HT_.out (by kernel_rfl)) (by decide) (fun K hK => ?_)
        refine goes_ Try.func54 (by kernel_rfl) rfl #[.int .i64 a0_1] (by rfl) rfl rfl gf ?_
        with_reducible refine (spec_l5Term.calls a0_1 t301 _ A7.out).mono ?_
        rintro e w24 ⟨rfl, hb⟩
        refine ⟨_, rfl, ?_⟩
        have n0_ := Az (Kd.R_below (dR (HO295.out)) hb)
        have n1_ := Az (Kd.R_below (dR (HO299.out)) hb)
        have n2_ := Az (blk_below (bA BK291) hb)
        have n3_ := Az (below_step (bB HB) hb)
        clear HO295
        clear HO299
        clear BK291
        clear HB
        have HO295 := n0_
        have HO299 := n1_
        have BK291 := n2_
        have HB := n3_
        clear n0_ n1_ n2_ n3_
        (try clear hb)
        (try clear hb2)
        (try clear hk)
        (try clear hi)
        refine hK.out _ _ ⟨(blk_cell BK291.out 0).trans rfl, (blk_cell BK291.out 1).trans rfl, (blk_cell BK291.out 2).trans rfl⟩ (fun hHeld => ?_)
        clear hK K
        refine norm_ (a' := ?_) ?_ ?_
        rotate_left
        ·show Act.put _ (some 21) _ = _
         simp only [Act.put, List.setIfInBounds_toArray, List.set_cons_zero, List.set_cons_succ, i64_w, i32_w]
         rfl
        refine pure_ (i := 4) (N := some 22) (v := ?_) (a' := ?_) #[true, true, true, true, true, true, false, true, true, false, false, false] rfl rfl (any_of HT_.out (by kernel_rfl)) (fun _ _ _ h => h) (Or.inl ⟨by rfl, ?_⟩) ?_ ?_
        rotate_left
        ·intro w'
         go_simp
         with_reducible rfl
        rotate_left
        ·simp only [Act.put, List.setIfInBounds_toArray, List.set_cons_zero, List.set_cons_succ, i64_w, i32_w]
         rfl
        refine pure_ (i := 6) (N := some 24) (v := ?_) (a' := ?_) #[true, true, true, true, true, true, true, true, true, false, false, false] rfl rfl (any_of HT_.out (by kernel_rfl)) (fun _ _ _ h => h) (Or.inl ⟨by rfl, ?_⟩) ?_ ?_
        rotate_left
        ·intro w'
         go_simp
         with_reducible rfl
        rotate_left
        ·simp only [Act.put, List.setIfInBounds_toArray, List.set_cons_zero, List.set_cons_succ, i64_w, i32_w]
         rfl
        refine one_ (i := 9) (N := some 27) #[true, true, true, true, true, true, true, true, true, true, false, false] rfl rfl (one_of HT_.out (by kernel_rfl)) (by decide) (fun K hK => ?_)
        refine goes_ Try.func54 (by kernel_rfl) rfl #[.int .i64 a0_2] (by rfl) rfl rfl gf ?_
        with_reducible refine (spec_l5Term.calls a0_2 t302 _ A10.out).mono ?_
        rintro e w25 ⟨rfl, hb⟩
        refine ⟨_, rfl, ?_⟩
        have n0_ := Az (Kd.R_below (dR (HO295.out)) hb)
        have n1_ := Az (Kd.R_below (dR (HO299.out)) hb)
        have n2_ := Az (blk_below (bA BK291) hb)
        have n3_ := Az (below_step (bB HB) hb)
        clear HO295
        clear HO299
        clear BK291
        clear HB
        have HO295 := n0_
        have HO299 := n1_
        have BK291 := n2_
        have HB := n3_
        clear n0_ n1_ n2_ n3_
        (try clear hb)
        (try clear hb2)
        (try clear hk)
        (try clear hi)
        refine hK.out _ _ ⟨(blk_cell BK291.out 0).trans rfl, (blk_cell BK291.out 1).trans rfl, (blk_cell BK291.out 2).trans rfl⟩ (fun hHeld => ?_)
        clear hK K
        refine norm_ (a' := ?_) ?_ ?_
        rotate_left
        ·show Act.put _ (some 27) _ = _
         simp only [Act.put, List.setIfInBounds_toArray, List.set_cons_zero, List.set_cons_succ, i64_w, i32_w]
         rfl
        refine pure_ (i := 10) (N := some 28) (v := ?_) (a' := ?_) #[true, true, true, true, true, true, true, true, true, true, true, false] rfl rfl (any_of HT_.out (by kernel_rfl)) (fun _ _ _ h => h) (Or.inl ⟨by rfl, ?_⟩) ?_ ?_
        rotate_left
        ·intro w'
         go_simp
         with_reducible rfl
        rotate_left
        ·simp only [Act.put, List.setIfInBounds_toArray, List.set_cons_zero, List.set_cons_succ, i64_w, i32_w]
         rfl
        refine pure_ (i := 11) (N := some 2) (v := ?_) (a' := ?_) #[true, true, true, true, true, true, true, true, true, true, true, true] rfl rfl (any_of HT_.out (by kernel_rfl)) (fun _ _ _ h => h) (Or.inl ⟨by rfl, ?_⟩) ?_ ?_
        rotate_left
        ·intro w'
         go_simp
         with_reducible rfl
        rotate_left
        ·simp only [Act.put, List.setIfInBounds_toArray, List.set_cons_zero, List.set_cons_succ, i64_w, i32_w]
         rfl
        refine done_ (done_of HT_.out (by kernel_rfl)) ?_
        try go_wp2
        go_ret
        exact ⟨rt, (bB HB)⟩
       ·rw [if_neg c11] at H
        exact absurd H (by simp)
      ·rw [if_neg c9] at H
       exact absurd H (by simp)
     ·rw [if_neg c8] at H
      exact absurd H (by simp)
    ·rw [if_neg c6] at H
     exact absurd H (by simp)
   ·rw [if_neg c5] at H
    exact absurd H (by simp)
  ·rw [if_neg c4] at H
   exact absurd H (by simp)
 ·replace c3 := Bool.eq_false_iff.mpr c3
  subst c3
  have H1 : (some (⟨#[]⟩ : ByteArray)) = some r := by rw [if_neg (show ¬ (false = true) by decide)] at H; exact H
  clear H
  have H := H1
  clear H1
  obtain rfl := Option.some.inj H
  go_enter Try.func14, Try.ntmps14
  go_wp2_with (first | ((with_reducible refine gate_dst (N := 1) rfl ?_); refine box_event ?hg (N := 1) ?hd (cs := #[.int .i64 a0_0, .int .i64 a0_1, .int .i64 a0_2]) (t := 25) ?hr ?_; (case hd => rfl); (case hg => rfl); (case hr => first | (go_simp; done) | (go_simp; rfl)); intro gb291 hg w26 hbox hb; have n0_ := Az (below_step (bB HB) hb); have n1_ := Az (hbox); have n2_ := Az ((by rw [hg]; exact (below_size (bB HB)) : w.heap.size ≤ gb291)); have n3_ := Az ((by rw [hg]; exact (below_size (bB HB)) : w.heap.size ≤ gb291)); clear HB; have HB := n0_; have BK291 := n1_; have GW291 := n2_; have GE291 := n3_; clear n0_ n1_ n2_ n3_; clear hb hbox hg; have hcz27_0 : w26.cell? ⟨gb291, 0, none⟩ = some (.int .i64 a0_0) := (blk_cell BK291.out 0).trans rfl; have hcz27_1 : w26.cell? ⟨gb291, 1, none⟩ = some (.int .i64 a0_1) := (blk_cell BK291.out 1).trans rfl; have hcz27_2 : w26.cell? ⟨gb291, 2, none⟩ = some (.int .i64 a0_2) := (blk_cell BK291.out 2).trans rfl; have hfz27_0 := blk_frozen BK291.out 0; have hfz27_1 := blk_frozen BK291.out 1; have hfz27_2 := blk_frozen BK291.out 2) | ((with_reducible refine gate_callee (f := 53) rfl ?_); refine goesL_ (some 6) rfl rfl Try.func53 (by kernel_rfl) rfl #[.agg #[.int .i64 a0_0, .int .i64 a0_1, .int .i64 a0_2]] rfl gf ?_; (with_reducible refine (spec_WeighOk.calls a0_0 a0_1 a0_2 false _ A2.out).mono ?_); rintro e w28 ⟨rfl, hb⟩; refine ⟨_, rfl, ?_⟩; have n0_ := Az (blk_below (bA BK291) hb); have n1_ := Az (below_step (bB HB) hb); clear BK291; clear HB; have BK291 := n0_; have HB := n1_; clear n0_ n1_; (try clear hb); (try clear hi)))
  go_ret
  exact ⟨rt, (bB HB)⟩

/-! ### spec_ReadWeigh: function 17 -/
mutual
def spec_ReadWeigh.l0 : Nat → ByteArray → Int → Option (Int × Int × Int × Bool)
 | 0, _, _ => none
 | k + 1, x0, x4 => if x4 ≤ 5 then (spec_ReadWeigh.l1 k x0 x4 0) else (some (0, 0, 0, false))
def spec_ReadWeigh.l1 : Nat → ByteArray → Int → Int → Option (Int × Int × Int × Bool)
 | 0, _, _, _ => none
 | k + 1, x0, x4, x5 => if x5 < 4 then (spec_ReadWeigh.l2 k x0 x4 x5 0) else (spec_ReadWeigh.l0 k x0 (wrap64 (x4 + 1)))
def spec_ReadWeigh.l2 : Nat → ByteArray → Int → Int → Int → Option (Int × Int × Int × Bool)
 | 0, _, _, _, _ => none
 | k + 1, x0, x4, x5, x6 => if x6 < 4 then ((spec_WeighText.f x4 x5 x6).bind fun t305 => (if t305.toList = x0.toList then (some (x4, x5, x6, true)) else (spec_ReadWeigh.l2 k x0 x4 x5 (wrap64 (x6 + 1))))) else (spec_ReadWeigh.l1 k x0 x4 (wrap64 (x5 + 1)))
end
def spec_ReadWeigh.f (k : Nat) (a0 : ByteArray) : Option (Int × Int × Int × Bool) := spec_ReadWeigh.l0 k a0 0
theorem spec_ReadWeigh.mono_l : ∀ k, (∀ y0 y1, LeO (spec_ReadWeigh.l0 k y0 y1) (spec_ReadWeigh.l0 (k + 1) y0 y1)) ∧ (∀ y0 y1 y2, LeO (spec_ReadWeigh.l1 k y0 y1 y2) (spec_ReadWeigh.l1 (k + 1) y0 y1 y2)) ∧ (∀ y0 y1 y2 y3, LeO (spec_ReadWeigh.l2 k y0 y1 y2 y3) (spec_ReadWeigh.l2 (k + 1) y0 y1 y2 y3))
 | 0 => ⟨fun _ _ r h => by simp [spec_ReadWeigh.l0] at h, fun _ _ _ r h => by simp [spec_ReadWeigh.l1] at h, fun _ _ _ _ r h => by simp [spec_ReadWeigh.l2] at h⟩
 | k + 1 => by
  obtain ⟨ih0, ih1, ih2⟩ := spec_ReadWeigh.mono_l k
  refine ⟨?_, ?_, ?_⟩
  ·intro y0 y1
   unfold spec_ReadWeigh.l0
   repeat' first
   | (with_reducible exact ih0 _ _)
   | (with_reducible exact ih1 _ _ _)
   | (with_reducible exact ih2 _ _ _ _)
   | (with_reducible exact LeO.refl _)
   | (with_reducible exact LeO.none _)
   | (with_reducible refine LeO.ite ?_ ?_)
   | (with_reducible refine LeO.bind ?_ (fun _ => ?_))
   | exact ih0 _ _
   | exact ih1 _ _ _
   | exact ih2 _ _ _ _
   | exact LeO.none _
   | refine LeO.ite ?_ ?_
   | refine LeO.bind ?_ (fun _ => ?_)
  ·intro y0 y1 y2
   unfold spec_ReadWeigh.l1
   repeat' first
   | (with_reducible exact ih0 _ _)
   | (with_reducible exact ih1 _ _ _)
   | (with_reducible exact ih2 _ _ _ _)
   | (with_reducible exact LeO.refl _)
   | (with_reducible exact LeO.none _)
   | (with_reducible refine LeO.ite ?_ ?_)
   | (with_reducible refine LeO.bind ?_ (fun _ => ?_))
   | exact ih0 _ _
   | exact ih1 _ _ _
   | exact ih2 _ _ _ _
   | exact LeO.none _
   | refine LeO.ite ?_ ?_
   | refine LeO.bind ?_ (fun _ => ?_)
  ·intro y0 y1 y2 y3
   unfold spec_ReadWeigh.l2
   repeat' first
   | (with_reducible exact ih0 _ _)
   | (with_reducible exact ih1 _ _ _)
   | (with_reducible exact ih2 _ _ _ _)
   | (with_reducible exact LeO.refl _)
   | (with_reducible exact LeO.none _)
   | (with_reducible refine LeO.ite ?_ ?_)
   | (with_reducible refine LeO.bind ?_ (fun _ => ?_))
   | exact ih0 _ _
   | exact ih1 _ _ _
   | exact ih2 _ _ _ _
   | exact LeO.none _
   | refine LeO.ite ?_ ?_
   | refine LeO.bind ?_ (fun _ => ?_)
theorem spec_ReadWeigh.mono : ∀ a0 k, LeO (spec_ReadWeigh.f k a0) (spec_ReadWeigh.f (k + 1) a0) := by
 intro a0 k
 obtain ⟨ih0, ih1, ih2⟩ := spec_ReadWeigh.mono_l k
 unfold spec_ReadWeigh.f
 repeat' first
   | (with_reducible exact ih0 _ _)
   | (with_reducible exact ih1 _ _ _)
   | (with_reducible exact ih2 _ _ _ _)
   | (with_reducible exact LeO.refl _)
   | (with_reducible exact LeO.none _)
   | (with_reducible refine LeO.ite ?_ ?_)
   | (with_reducible refine LeO.bind ?_ (fun _ => ?_))
   | exact ih0 _ _
   | exact ih1 _ _ _
   | exact ih2 _ _ _ _
   | exact LeO.none _
   | refine LeO.ite ?_ ?_
   | refine LeO.bind ?_ (fun _ => ?_)
set_option maxHeartbeats 8000000 in
set_option maxRecDepth 100000 in
theorem spec_ReadWeigh.calls (k : Nat) (a0 : ByteArray) (r1 : Int) (r2 : Int) (r3 : Int) (r4 : Bool) (w : World) (h : spec_ReadWeigh.f k a0 = some (r1, r2, r3, r4)) :
  Calls Try.prog 17 #[.string a0] w fun e w' => e = .returned (.tuple #[.agg #[.int .i64 r1, .int .i64 r2, .int .i64 r3], .bool r4]) ∧ Below w.heap.size w w' := by
 have hu25 := Try.underlying25
 have HB := Az (Below.refl w.heap.size w)
 have H : (spec_ReadWeigh.l0 k a0 0) = some (r1, r2, r3, r4) := h
 clear h
 have H' := Aside0.mk H
 clear H
 go_enter Try.func17, Try.ntmps17
 go_wp2_with (first | ((with_reducible refine gate_dst (N := 2) rfl ?_); refine box_event ?hg (N := 2) ?hd (cs := #[.int .i64 0, .int .i64 0, .int .i64 0]) (t := 25) ?hr ?_; (case hd => rfl); (case hg => rfl); (case hr => first | (go_simp; done) | (go_simp; rfl)); intro gb303 hg w2 hbox hb; have n0_ := Az (below_step (bB HB) hb); have n1_ := Az (hbox); have n2_ := Az ((by rw [hg]; exact (below_size (bB HB)) : w.heap.size ≤ gb303)); have n3_ := Az ((by rw [hg]; exact (below_size (bB HB)) : w.heap.size ≤ gb303)); clear HB; have HB := n0_; have BK303 := n1_; have GW303 := n2_; have GE303 := n3_; clear n0_ n1_ n2_ n3_; clear hb hbox hg))
 go_loopg [4] k (fun kq v4 w' => ∃ (x4_1 : Int) (x304000_1 : Int) (x304001_1 : Int) (x304002_1 : Int), v4 = .int .i64 x4_1 ∧ Aside0 (spec_ReadWeigh.l0 kq a0 x4_1 = some (r1, r2, r3, r4)) ∧ Aside0 (kq ≤ k) ∧ Aside0 (w'.heap[gb303]? = some (.cells #[.int .i64 x304000_1, .int .i64 x304001_1, .int .i64 x304002_1] 25 (0, 0))) ∧ Aside0 (Below w.heap.size w w'))
 case atStart => exact ⟨(0), (0), (0), (0), mr, H', ⟨Nat.le_refl _⟩, ⟨by (with_reducible repeat (first | refine blk_drewN ?_ _ | refine blk_drew ?_ | refine blk_alloc ?_ _)); exact BK303.out⟩, ⟨(bB HB)⟩⟩
 case round =>
  clear H'
  obtain ⟨x4_1, x304000_1, x304001_1, x304002_1, rfl, HA, HK1, BK303, HB⟩ := hrel
  cases gk with
  | zero => exact absurd HA.out (by simp [spec_ReadWeigh.l0])
  | succ k1 =>
   have H := HA.out
   clear HA
   simp only [spec_ReadWeigh.l0] at H
   by_cases c3 : x4_1 ≤ 5
   ·rw [if_pos c3] at H
    have c3b0 : decide (x4_1 ≤ 5) = true := decide_eq_true c3
    clear c3
    have H' := Aside0.mk H
    clear H
    go_wp2
    go_loopg [5] k1 (fun kq v5 w' => ∃ (x5_2 : Int) (x304000_2 : Int) (x304001_2 : Int) (x304002_2 : Int), v5 = .int .i64 x5_2 ∧ Aside0 (spec_ReadWeigh.l1 kq a0 x4_1 x5_2 = some (r1, r2, r3, r4)) ∧ Aside0 (kq ≤ k1) ∧ Aside0 (w'.heap[gb303]? = some (.cells #[.int .i64 x304000_2, .int .i64 x304001_2, .int .i64 x304002_2] 25 (0, 0))) ∧ Aside0 (Below w.heap.size w w'))
    case atStart => exact ⟨(0), (x304000_1), (x304001_1), (x304002_1), mr, H', ⟨Nat.le_refl _⟩, ⟨by (with_reducible repeat (first | refine blk_drewN ?_ _ | refine blk_drew ?_ | refine blk_alloc ?_ _)); exact BK303.out⟩, ⟨(bB HB)⟩⟩
    case round =>
     clear H'
     obtain ⟨x5_2, x304000_2, x304001_2, x304002_2, rfl, HA, HK2, BK303, HB⟩ := hrel
     cases gk with
     | zero => exact absurd HA.out (by simp [spec_ReadWeigh.l1])
     | succ k2 =>
      have H := HA.out
      clear HA
      simp only [spec_ReadWeigh.l1] at H
      by_cases c4 : x5_2 < 4
      ·rw [if_pos c4] at H
       have c4b0 : decide (x5_2 < 4) = true := decide_eq_true c4
       clear c4
       have H' := Aside0.mk H
       clear H
       go_wp2
       go_loopg [6] k2 (fun kq v6 w' => ∃ (x6_3 : Int) (x304000_3 : Int) (x304001_3 : Int) (x304002_3 : Int), v6 = .int .i64 x6_3 ∧ Aside0 (spec_ReadWeigh.l2 kq a0 x4_1 x5_2 x6_3 = some (r1, r2, r3, r4)) ∧ Aside0 (kq ≤ k2) ∧ Aside0 (w'.heap[gb303]? = some (.cells #[.int .i64 x304000_3, .int .i64 x304001_3, .int .i64 x304002_3] 25 (0, 0))) ∧ Aside0 (Below w.heap.size w w'))
       case atStart => exact ⟨(0), (x304000_2), (x304001_2), (x304002_2), mr, H', ⟨Nat.le_refl _⟩, ⟨by (with_reducible repeat (first | refine blk_drewN ?_ _ | refine blk_drew ?_ | refine blk_alloc ?_ _)); exact BK303.out⟩, ⟨(bB HB)⟩⟩
       case round =>
        clear H'
        obtain ⟨x6_3, x304000_3, x304001_3, x304002_3, rfl, HA, HK3, BK303, HB⟩ := hrel
        cases gk with
        | zero => exact absurd HA.out (by simp [spec_ReadWeigh.l2])
        | succ k3 =>
         have H := HA.out
         clear HA
         simp only [spec_ReadWeigh.l2] at H
         by_cases c5 : x6_3 < 4
         ·rw [if_pos c5] at H
          have c5b0 : decide (x6_3 < 4) = true := decide_eq_true c5
          clear c5
          replace H := Option.bind_eq_some_iff.mp H
          obtain ⟨t305, A60, H⟩ := H
          replace H : (if t305.toList = a0.toList then (some (x4_1, x5_2, x6_3, true)) else (spec_ReadWeigh.l2 k3 a0 x4_1 x5_2 (wrap64 (x6_3 + 1)))) = some (r1, r2, r3, r4) := H
          have A6 := Aside0.mk A60
          clear A60
          by_cases c7 : t305.toList = a0.toList
          ·rw [if_pos c7] at H
           have c7b0 : (t305.toList == a0.toList) = true := beq_iff_eq.mpr c7
           have c7b1 : (t305.toList != a0.toList) = false := bne_eq_false_iff_eq.mpr c7
           clear c7
           simp only [Option.some.injEq, Prod.mk.injEq] at H
           obtain ⟨rfl, rfl, rfl, rfl⟩ := H
           go_wp2_with (first | ((with_reducible refine gate_dst (N := 7) rfl ?_); refine box_event ?hg (N := 7) ?hd (cs := #[.int .i64 0, .int .i64 0, .int .i64 0]) (t := 25) ?hr ?_; (case hd => rfl); (case hg => rfl); (case hr => first | (go_simp; done) | (go_simp; rfl)); intro gb304 hg w8 hbox hb; have n0_ := Az (blk_below (bA BK303) hb); have n1_ := Az (below_step (bB HB) hb); have n2_ := Az (hbox); have n3_ := Az ((by rw [hg]; exact (below_size (bB HB)) : w.heap.size ≤ gb304)); have n4_ := Az ((by rw [hg]; exact (below_size (bB HB)) : w.heap.size ≤ gb304)); have n5_ := Az ((by rw [hg]; exact Nat.ne_of_lt (blk_lt (bA BK303)) : gb303 ≠ gb304)); have n6_ := Az ((by rw [hg]; exact Nat.ne_of_gt (blk_lt (bA BK303)) : gb304 ≠ gb303)); clear BK303; clear HB; have BK303 := n0_; have HB := n1_; have BK304 := n2_; have GW304 := n3_; have GE304 := n4_; have NB303_304 := n5_; have NB304_303 := n6_; clear n0_ n1_ n2_ n3_ n4_ n5_ n6_; clear hb hbox hg; have hnb9 := NB304_303.out; have hnc9 := NB303_304.out; have hcz10_0 : w8.cell? ⟨gb304, 0, none⟩ = some (.int .i64 0) := (blk_cell BK304.out 0).trans rfl; have hcz10_1 : w8.cell? ⟨gb304, 1, none⟩ = some (.int .i64 0) := (blk_cell BK304.out 1).trans rfl; have hcz10_2 : w8.cell? ⟨gb304, 2, none⟩ = some (.int .i64 0) := (blk_cell BK304.out 2).trans rfl; have hfz10_0 := blk_frozen BK304.out 0; have hfz10_1 := blk_frozen BK304.out 1; have hfz10_2 := blk_frozen BK304.out 2) | ((with_reducible refine gate_callee (f := 14) rfl ?_); refine goesL_ (some 25) rfl rfl Try.func14 (by kernel_rfl) rfl #[.agg #[.int .i64 x4_1, .int .i64 x5_2, .int .i64 x6_3]] rfl gf ?_; (with_reducible refine (spec_WeighText.calls x4_1 x5_2 x6_3 t305 _ A6.out).mono ?_); rintro e w11 ⟨rfl, hb⟩; refine ⟨_, rfl, ?_⟩; have n0_ := Az (blk_below (g := gb303) (o := .cells #[.int .i64 x304000_3, .int .i64 x304001_3, .int .i64 x304002_3] 25 (0, 0)) (by (with_reducible repeat (first | refine blk_drewN ?_ _ | refine blk_drew ?_ | refine blk_alloc ?_ _)); refine blk_far ?_ NB303_304.out _; refine blk_far ?_ NB303_304.out _; refine blk_far ?_ NB303_304.out _; exact BK303.out) hb); have n1_ := Az (blk_below (g := gb304) (o := .cells #[.int .i64 x4_1, .int .i64 x5_2, .int .i64 x6_3] 25 (0, 0)) (by (with_reducible repeat (first | refine blk_drewN ?_ _ | refine blk_drew ?_ | refine blk_alloc ?_ _)); refine blk_put (cs := #[.int .i64 x4_1, .int .i64 x5_2, .int .i64 0]) ?_ 2 _ rfl; refine blk_put (cs := #[.int .i64 x4_1, .int .i64 0, .int .i64 0]) ?_ 1 _ rfl; refine blk_put (cs := #[.int .i64 0, .int .i64 0, .int .i64 0]) ?_ 0 _ rfl; exact BK304.out) hb); have n2_ := Az (below_step (bB HB) hb); clear BK303; clear BK304; clear HB; have BK303 := n0_; have BK304 := n1_; have HB := n2_; clear n0_ n1_ n2_; (try clear hb); have hcz12_0 : w11.cell? ⟨gb304, 0, none⟩ = some (.int .i64 x4_1) := (blk_cell BK304.out 0).trans rfl; have hcz12_1 : w11.cell? ⟨gb304, 1, none⟩ = some (.int .i64 x5_2) := (blk_cell BK304.out 1).trans rfl; have hcz12_2 : w11.cell? ⟨gb304, 2, none⟩ = some (.int .i64 x6_3) := (blk_cell BK304.out 2).trans rfl; have hfz12_0 := blk_frozen BK304.out 0; have hfz12_1 := blk_frozen BK304.out 1; have hfz12_2 := blk_frozen BK304.out 2; have hcz13_0 : w11.cell? ⟨gb303, 0, none⟩ = some (.int .i64 x304000_3) := (blk_cell BK303.out 0).trans rfl; have hcz13_1 : w11.cell? ⟨gb303, 1, none⟩ = some (.int .i64 x304001_3) := (blk_cell BK303.out 1).trans rfl; have hcz13_2 : w11.cell? ⟨gb303, 2, none⟩ = some (.int .i64 x304002_3) := (blk_cell BK303.out 2).trans rfl; have hfz13_0 := blk_frozen BK303.out 0; have hfz13_1 := blk_frozen BK303.out 1; have hfz13_2 := blk_frozen BK303.out 2))
           refine bodyPost_ret (results_ct rfl _ _ gb303 25 #[.int .i64 x4_1, .int .i64 x5_2, .int .i64 x6_3] (0, 0) _ rfl (by (with_reducible repeat (first | refine blk_drewN ?_ _ | refine blk_drew ?_ | refine blk_alloc ?_ _)); refine blk_put (cs := #[.int .i64 x4_1, .int .i64 x5_2, .int .i64 x304002_3]) ?_ 2 _ rfl; refine blk_put (cs := #[.int .i64 x4_1, .int .i64 x304001_3, .int .i64 x304002_3]) ?_ 1 _ rfl; refine blk_put (cs := #[.int .i64 x304000_3, .int .i64 x304001_3, .int .i64 x304002_3]) ?_ 0 _ rfl; exact BK303.out) Try.underlying25 rfl (by kernel_rfl)) rfl ?_
           exact ⟨rt, (bB HB)⟩
          ·rw [if_neg c7] at H
           have c7b0 : (t305.toList == a0.toList) = false := beq_eq_false_iff_ne.mpr c7
           have c7b1 : (t305.toList != a0.toList) = true := bne_iff_ne.mpr c7
           have H' := Aside0.mk H
           clear H
           go_wp2_with (first | ((with_reducible refine gate_dst (N := 7) rfl ?_); refine box_event ?hg (N := 7) ?hd (cs := #[.int .i64 0, .int .i64 0, .int .i64 0]) (t := 25) ?hr ?_; (case hd => rfl); (case hg => rfl); (case hr => first | (go_simp; done) | (go_simp; rfl)); intro gb304 hg w14 hbox hb; have n0_ := Az (blk_below (bA BK303) hb); have n1_ := Az (below_step (bB HB) hb); have n2_ := Az (hbox); have n3_ := Az ((by rw [hg]; exact (below_size (bB HB)) : w.heap.size ≤ gb304)); have n4_ := Az ((by rw [hg]; exact (below_size (bB HB)) : w.heap.size ≤ gb304)); have n5_ := Az ((by rw [hg]; exact Nat.ne_of_lt (blk_lt (bA BK303)) : gb303 ≠ gb304)); have n6_ := Az ((by rw [hg]; exact Nat.ne_of_gt (blk_lt (bA BK303)) : gb304 ≠ gb303)); clear BK303; clear HB; have BK303 := n0_; have HB := n1_; have BK304 := n2_; have GW304 := n3_; have GE304 := n4_; have NB303_304 := n5_; have NB304_303 := n6_; clear n0_ n1_ n2_ n3_ n4_ n5_ n6_; clear hb hbox hg; have hnb15 := NB304_303.out; have hnc15 := NB303_304.out; have hcz16_0 : w14.cell? ⟨gb304, 0, none⟩ = some (.int .i64 0) := (blk_cell BK304.out 0).trans rfl; have hcz16_1 : w14.cell? ⟨gb304, 1, none⟩ = some (.int .i64 0) := (blk_cell BK304.out 1).trans rfl; have hcz16_2 : w14.cell? ⟨gb304, 2, none⟩ = some (.int .i64 0) := (blk_cell BK304.out 2).trans rfl; have hfz16_0 := blk_frozen BK304.out 0; have hfz16_1 := blk_frozen BK304.out 1; have hfz16_2 := blk_frozen BK304.out 2) | ((with_reducible refine gate_callee (f := 14) rfl ?_); refine goesL_ (some 25) rfl rfl Try.func14 (by kernel_rfl) rfl #[.agg #[.int .i64 x4_1, .int .i64 x5_2, .int .i64 x6_3]] rfl gf ?_; (with_reducible refine (spec_WeighText.calls x4_1 x5_2 x6_3 t305 _ A6.out).mono ?_); rintro e w17 ⟨rfl, hb⟩; refine ⟨_, rfl, ?_⟩; have n0_ := Az (blk_below (g := gb303) (o := .cells #[.int .i64 x304000_3, .int .i64 x304001_3, .int .i64 x304002_3] 25 (0, 0)) (by (with_reducible repeat (first | refine blk_drewN ?_ _ | refine blk_drew ?_ | refine blk_alloc ?_ _)); refine blk_far ?_ NB303_304.out _; refine blk_far ?_ NB303_304.out _; refine blk_far ?_ NB303_304.out _; exact BK303.out) hb); have n1_ := Az (blk_below (g := gb304) (o := .cells #[.int .i64 x4_1, .int .i64 x5_2, .int .i64 x6_3] 25 (0, 0)) (by (with_reducible repeat (first | refine blk_drewN ?_ _ | refine blk_drew ?_ | refine blk_alloc ?_ _)); refine blk_put (cs := #[.int .i64 x4_1, .int .i64 x5_2, .int .i64 0]) ?_ 2 _ rfl; refine blk_put (cs := #[.int .i64 x4_1, .int .i64 0, .int .i64 0]) ?_ 1 _ rfl; refine blk_put (cs := #[.int .i64 0, .int .i64 0, .int .i64 0]) ?_ 0 _ rfl; exact BK304.out) hb); have n2_ := Az (below_step (bB HB) hb); clear BK303; clear BK304; clear HB; have BK303 := n0_; have BK304 := n1_; have HB := n2_; clear n0_ n1_ n2_; (try clear hb); (try clear hi)))
           go_roundg k3
           case measure => have := HK1.out; have := HK2.out; have := HK3.out; omega
           case rel => exact ⟨(wrap64 (x6_3 + 1)), (x304000_3), (x304001_3), (x304002_3), mr, H', ⟨by have := HK1.out; have := HK2.out; have := HK3.out; omega⟩, ⟨by (with_reducible repeat (first | refine blk_drewN ?_ _ | refine blk_drew ?_ | refine blk_alloc ?_ _)); exact BK303.out⟩, ⟨(bB HB)⟩⟩
         ·rw [if_neg c5] at H
          have c5b0 : decide (x6_3 < 4) = false := decide_eq_false c5
          clear c5
          have H' := Aside0.mk H
          clear H
          go_wp2
          go_roundg k3
          case measure => have := HK1.out; have := HK2.out; have := HK3.out; omega
          case rel => exact ⟨(wrap64 (x5_2 + 1)), (x304000_3), (x304001_3), (x304002_3), mr, H', ⟨by have := HK1.out; have := HK2.out; have := HK3.out; omega⟩, ⟨by (with_reducible repeat (first | refine blk_drewN ?_ _ | refine blk_drew ?_ | refine blk_alloc ?_ _)); exact BK303.out⟩, ⟨(bB HB)⟩⟩
      ·rw [if_neg c4] at H
       have c4b0 : decide (x5_2 < 4) = false := decide_eq_false c4
       clear c4
       have H' := Aside0.mk H
       clear H
       go_wp2
       go_roundg k2
       case measure => have := HK1.out; have := HK2.out; omega
       case rel => exact ⟨(wrap64 (x4_1 + 1)), (x304000_2), (x304001_2), (x304002_2), mr, H', ⟨by have := HK1.out; have := HK2.out; omega⟩, ⟨by (with_reducible repeat (first | refine blk_drewN ?_ _ | refine blk_drew ?_ | refine blk_alloc ?_ _)); exact BK303.out⟩, ⟨(bB HB)⟩⟩
   ·rw [if_neg c3] at H
    have c3b0 : decide (x4_1 ≤ 5) = false := decide_eq_false c3
    clear c3
    simp only [Option.some.injEq, Prod.mk.injEq] at H
    obtain ⟨rfl, rfl, rfl, rfl⟩ := H
    have hcz18_0 : wr.cell? ⟨gb303, 0, none⟩ = some (.int .i64 x304000_1) := (blk_cell BK303.out 0).trans rfl
    have hcz18_1 : wr.cell? ⟨gb303, 1, none⟩ = some (.int .i64 x304001_1) := (blk_cell BK303.out 1).trans rfl
    have hcz18_2 : wr.cell? ⟨gb303, 2, none⟩ = some (.int .i64 x304002_1) := (blk_cell BK303.out 2).trans rfl
    have hfz18_0 := blk_frozen BK303.out 0
    have hfz18_1 := blk_frozen BK303.out 1
    have hfz18_2 := blk_frozen BK303.out 2
    go_wp2
    refine bodyPost_ret (results_ct rfl _ _ gb303 25 #[.int .i64 0, .int .i64 0, .int .i64 0] (0, 0) _ rfl (by (with_reducible repeat (first | refine blk_drewN ?_ _ | refine blk_drew ?_ | refine blk_alloc ?_ _)); refine blk_put (cs := #[.int .i64 0, .int .i64 0, .int .i64 x304002_1]) ?_ 2 _ rfl; refine blk_put (cs := #[.int .i64 0, .int .i64 x304001_1, .int .i64 x304002_1]) ?_ 1 _ rfl; refine blk_put (cs := #[.int .i64 x304000_1, .int .i64 x304001_1, .int .i64 x304002_1]) ?_ 0 _ rfl; exact BK303.out) Try.underlying25 rfl (by kernel_rfl)) rfl ?_
    exact ⟨rt, (bB HB)⟩

end Go.Proofs.Ytnnaiaiddjkjnaa.PFnExactDeskRun
