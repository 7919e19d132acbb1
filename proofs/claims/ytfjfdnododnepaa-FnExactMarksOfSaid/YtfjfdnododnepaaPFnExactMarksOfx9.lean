-- Written by a program of this session (wip/patch_print.py, over the kit's print) and not by hand; Lean checks every word.
import Derived.Test.YtfjfdnododnepaaPFnExactMarksOfx0
import Derived.Test.YtfjfdnododnepaaPFnExactMarksOfx3
import Derived.Test.YtfjfdnododnepaaPFnExactMarksOfx7
import Derived.Test.YtfjfdnododnepaaPFnExactMarksOfx8
namespace Go.Proofs.Ytfjfdnododnepaa.PFnExactMarksOf
open Go.RowKit Go.Proofs.YtfjfdnododnepaaW.PrintWords Go.Proofs.YtfjfdnododnepaaW.PrintLast Go.Proofs.YtfjfdnododnepaaW.PrintMore
attribute [local go_sem] max2_int min2_int max_two min_two max_three min_three max_four min_four   -- for this text's walks alone
set_option linter.unusedVariables false
set_option linter.unusedSimpArgs false

/-! ### spec_SentenceOk: function 13 -/
def spec_SentenceOk.f (a0 : ByteArray) : Option (Bool) := if a0.size ≤ 17000000000000 then some (pread a0).isSome else none
theorem zeros_sets : Sets [0, 0, 0, 0] := setsOk_sets (by decide)
set_option maxHeartbeats 8000000 in
set_option maxRecDepth 100000 in
theorem spec_SentenceOk.calls (a0 : ByteArray) (r : Bool) (w : World) (h : spec_SentenceOk.f a0 = some r) :
    Calls Try.prog 13 #[.string a0] w fun e w' => e = .returned (.bool r) ∧ Below w.heap.size w w' := by
  unfold spec_SentenceOk.f at h
  split at h
  case isFalse => cases h
  rename_i hsz
  obtain rfl := Option.some.inj h
  clear h
  have HB := Aside0.mk (Below.refl w.heap.size w)
  obtain ⟨y203, hy203⟩ : ∃ y_ : List Int, y_ = (([0, 0, 0, 0] : List Int)) := ⟨_, rfl⟩
  obtain ⟨y206, hy206⟩ : ∃ y_ : List Int, y_ = (([] : List Int)) := ⟨_, rfl⟩
  obtain ⟨R, hR⟩ : ∃ R, qres y203 1 y206 (psent (a0.size + 1) a0 0) = R := ⟨_, rfl⟩
  have HX : ∀ (A : Option Addr) (c : Nat), y203.length ≤ c → ∀ (wx : World) (P : Nat → Prop) (u : Value), Below w.heap.size w wx → (∀ W_, Kept wx W_ P → Kd.C (Kd.int .i64) W_ A y203.length y203) → Kd.R (Kd.int .i64) 3 wx w.heap.size P u y206 → Calls Try.prog 32 #[.slice A y203.length c, .string a0, .int .i64 0, .int .i64 1, u] wx (PostQ w wx P R) := fun A c hc wx P u hb hs hr => by
    have := spec_l7Read.walk a0 (by omega) y203 (by rw [hy203]; exact zeros_sets) A c hc w (a0.size + 1) 0 1 y206 u P wx (by omega) (by omega) (by decide) (by decide) (by rw [hy206]; simp; omega) hb hs hr
    rw [hR] at this
    exact this
  have Ny203 := Aside0.mk hy203
  have Ny206 := Aside0.mk hy206
  have HSZ := Aside0.mk hsz
  replace HX := Aside0.mk HX
  clear hy203 hy206 hsz
  cases hp : psent (a0.size + 1) a0 0 with
  | none =>
    have hpr : (pread a0).isSome = false := by unfold pread; rw [hp]; split <;> rfl
    have HE : Aside0 (R = none) := ⟨by rw [← hR, hp]; rfl⟩
    rw [hpr]
    have hne : ((-1 : Int) == (a0.size : Int)) = false := by rw [beq_eq_false_iff_ne]; omega
    clear hR hp hpr
    go_enter Try.func13, Try.ntmps13
    go_wp2_with (first | ((with_reducible refine gate_dst (N := 7) rfl ?_); refine Kd.R_lit (Kd.int .i64) _ 3 ?hg (N := 7) ?hd (xs := ([0, 0, 0, 0] : List Int)) (inner := [.int .i64 0, .int .i64 0, .int .i64 0, .int .i64 0]) (ok := fun _ => True) (okp := fun _ => True) ?hr ?hp (fun _ hk => hk) trivial (Below.refl _ _) (Nat.le_refl _) (by simp) ?_; (case hd => rfl); (case hg => rfl); (case hr => first | (go_simp; done) | (go_simp; rfl)); (case hp => exact (Reps.one (show Kd.M (Kd.int .i64) _ _ _ 0 [.int .i64 0] from rfl) (Reps.one (show Kd.M (Kd.int .i64) _ _ _ 0 [.int .i64 0] from rfl) (Reps.one (show Kd.M (Kd.int .i64) _ _ _ 0 [.int .i64 0] from rfl) (Reps.one (show Kd.M (Kd.int .i64) _ _ _ 0 [.int .i64 0] from rfl) (Reps.none _ _)))))); intro v204 w6 ho7 hb hg_ hnew_; clear hg_ hnew_; rw [← Ny203.out] at ho7; have n1_ := Aside0.mk (below_step (by repeat (first | (with_reducible first | exact HB.out | apply below_alloc | apply pw_below_drewN | apply below_drew1) | exact HB.out)) hb); have HO205 := Aside0.mk (Kd.R_lower ho7 (below_size (by repeat (first | (with_reducible first | exact HB.out | apply below_alloc | apply pw_below_drewN | apply below_drew1) | exact HB.out)))); clear HB; have HB := n1_; clear n1_ hb ho7) | ((with_reducible refine gate_dst (N := 9) rfl ?_); refine Kd.R_lit (Kd.int .i64) _ 3 ?hg (N := 9) ?hd (xs := ([] : List Int)) (inner := []) (ok := fun _ => True) (okp := fun _ => True) ?hr ?hp (fun _ hk => hk) trivial (Below.refl _ _) (Nat.le_refl _) (by simp) ?_; (case hd => rfl); (case hg => rfl); (case hr => first | (go_simp; done) | (go_simp; rfl)); (case hp => exact (Reps.none _ _)); intro v207 w8 ho9 hb hg_ hnew_; clear hg_ hnew_; rw [← Ny206.out] at ho9; have n0_ := Aside0.mk (Kd.R_elder' (by (with_reducible repeat (first | apply Kd.R_alloc | apply Kd.R_drewN | apply Kd.R_drew)); exact HO205.out) (Kd.R_base ho9) hb); have n1_ := Aside0.mk (Kd.R_lower (Kd.R_new' ho9 (Kd.R_lt (by (with_reducible repeat (first | apply Kd.R_alloc | apply Kd.R_drewN | apply Kd.R_drew)); exact HO205.out))) (below_size (by repeat (first | (with_reducible first | exact HB.out | apply below_alloc | apply pw_below_drewN | apply below_drew1) | exact HB.out)))); have n2_ := Aside0.mk (below_step (by repeat (first | (with_reducible first | exact HB.out | apply below_alloc | apply pw_below_drewN | apply below_drew1) | exact HB.out)) hb); clear HO205; clear HB; have HO205 := n0_; have HO208 := n1_; have HB := n2_; clear n0_ n1_ n2_; clear hb ho9; obtain ⟨Ao10, co10, eo10⟩ := Kd.R_slice HO205.out; subst eo10; obtain ⟨Ao11, co11, eo11⟩ := Kd.R_slice HO208.out; subst eo11) | (have HY := (HX.out Ao10 co10 (Kd.R_reads' HO205.out).2.1 _ (fun k_ => some k_ = (.slice Ao11 y206.length co11 : Value).ownBlock) (.slice Ao11 y206.length co11) HB.out (Kd.C_kept_own (HO205.out) (fun k_ hk_ hs_ => (hk_.2) hs_)) (Kd.R_tight rfl HO208.out)); (with_reducible refine HY.mono ?_); clear HY; rintro e3 w12 hq3; rw [HE.out] at hq3; obtain ⟨hb3, hk3, x3, v3, rfl⟩ := hq3; have HB3 := Aside0.mk hb3))
    all_goals
      go_ret
      exact ⟨by first | rfl | (simp; done) | (simp [*]; done), HB3.out⟩
  | some r =>
    obtain ⟨p, e⟩ := r
    have hpl := psent_place a0 _ 0 p e (by omega) hp
    have HE : Aside0 (R = some (truv y203 p, y206 ++ sgns 1 p, e)) := ⟨by rw [← hR, hp]; rfl⟩
    have hpr : (pread a0).isSome = decide (a0.size ≤ 80 ∧ e = a0.size) := by
      unfold pread
      rw [hp]
      by_cases c : (a0.size : Int) > 80
      · rw [if_pos c]; simp; omega
      · rw [if_neg c]
        by_cases ce : e = a0.size
        · simp only; rw [if_pos ce]; simp; omega
        · simp only; rw [if_neg ce]; simp; omega
    rw [hpr]
    clear hR hp hpr
    have hsz := HSZ.out
    have hpos : 0 < a0.size := by omega
    have f1 : decide (0 < (a0.size : Int)) = true := decide_eq_true (by omega)
    have f1' : decide (0 < a0.size) = true := decide_eq_true hpos
    have HP := Aside0.mk hpos
    by_cases c : a0.size ≤ 80
    · have f2 : decide ((a0.size : Int) ≤ 80) = true := decide_eq_true (by omega)
      have f2' : decide (a0.size ≤ 80) = true := decide_eq_true c
      by_cases ce : e = a0.size
      · have f3 : ((e : Int) == (a0.size : Int)) = true := by rw [beq_iff_eq]; omega
        rw [show decide (a0.size ≤ 80 ∧ e = a0.size) = true from decide_eq_true ⟨c, ce⟩]
        clear hpl hsz hpos c ce
        go_enter Try.func13, Try.ntmps13
        go_wp2_with (first | ((with_reducible refine gate_dst (N := 7) rfl ?_); refine Kd.R_lit (Kd.int .i64) _ 3 ?hg (N := 7) ?hd (xs := ([0, 0, 0, 0] : List Int)) (inner := [.int .i64 0, .int .i64 0, .int .i64 0, .int .i64 0]) (ok := fun _ => True) (okp := fun _ => True) ?hr ?hp (fun _ hk => hk) trivial (Below.refl _ _) (Nat.le_refl _) (by simp) ?_; (case hd => rfl); (case hg => rfl); (case hr => first | (go_simp; done) | (go_simp; rfl)); (case hp => exact (Reps.one (show Kd.M (Kd.int .i64) _ _ _ 0 [.int .i64 0] from rfl) (Reps.one (show Kd.M (Kd.int .i64) _ _ _ 0 [.int .i64 0] from rfl) (Reps.one (show Kd.M (Kd.int .i64) _ _ _ 0 [.int .i64 0] from rfl) (Reps.one (show Kd.M (Kd.int .i64) _ _ _ 0 [.int .i64 0] from rfl) (Reps.none _ _)))))); intro v204 w6 ho7 hb hg_ hnew_; clear hg_ hnew_; rw [← Ny203.out] at ho7; have n1_ := Aside0.mk (below_step (by repeat (first | (with_reducible first | exact HB.out | apply below_alloc | apply pw_below_drewN | apply below_drew1) | exact HB.out)) hb); have HO205 := Aside0.mk (Kd.R_lower ho7 (below_size (by repeat (first | (with_reducible first | exact HB.out | apply below_alloc | apply pw_below_drewN | apply below_drew1) | exact HB.out)))); clear HB; have HB := n1_; clear n1_ hb ho7) | ((with_reducible refine gate_dst (N := 9) rfl ?_); refine Kd.R_lit (Kd.int .i64) _ 3 ?hg (N := 9) ?hd (xs := ([] : List Int)) (inner := []) (ok := fun _ => True) (okp := fun _ => True) ?hr ?hp (fun _ hk => hk) trivial (Below.refl _ _) (Nat.le_refl _) (by simp) ?_; (case hd => rfl); (case hg => rfl); (case hr => first | (go_simp; done) | (go_simp; rfl)); (case hp => exact (Reps.none _ _)); intro v207 w8 ho9 hb hg_ hnew_; clear hg_ hnew_; rw [← Ny206.out] at ho9; have n0_ := Aside0.mk (Kd.R_elder' (by (with_reducible repeat (first | apply Kd.R_alloc | apply Kd.R_drewN | apply Kd.R_drew)); exact HO205.out) (Kd.R_base ho9) hb); have n1_ := Aside0.mk (Kd.R_lower (Kd.R_new' ho9 (Kd.R_lt (by (with_reducible repeat (first | apply Kd.R_alloc | apply Kd.R_drewN | apply Kd.R_drew)); exact HO205.out))) (below_size (by repeat (first | (with_reducible first | exact HB.out | apply below_alloc | apply pw_below_drewN | apply below_drew1) | exact HB.out)))); have n2_ := Aside0.mk (below_step (by repeat (first | (with_reducible first | exact HB.out | apply below_alloc | apply pw_below_drewN | apply below_drew1) | exact HB.out)) hb); clear HO205; clear HB; have HO205 := n0_; have HO208 := n1_; have HB := n2_; clear n0_ n1_ n2_; clear hb ho9; obtain ⟨Ao10, co10, eo10⟩ := Kd.R_slice HO205.out; subst eo10; obtain ⟨Ao11, co11, eo11⟩ := Kd.R_slice HO208.out; subst eo11) | (have HY := (HX.out Ao10 co10 (Kd.R_reads' HO205.out).2.1 _ (fun k_ => some k_ = (.slice Ao11 y206.length co11 : Value).ownBlock) (.slice Ao11 y206.length co11) HB.out (Kd.C_kept_own (HO205.out) (fun k_ hk_ hs_ => (hk_.2) hs_)) (Kd.R_tight rfl HO208.out)); (with_reducible refine HY.mono ?_); clear HY; rintro e3 w12 hq3; rw [HE.out] at hq3; obtain ⟨hb3, hk3, v3, rfl, hr3⟩ := hq3; have HB3 := Aside0.mk hb3))
        go_ret
        exact ⟨by first | rfl | (simp; done), HB3.out⟩
      · have f3 : ((e : Int) == (a0.size : Int)) = false := by rw [beq_eq_false_iff_ne]; omega
        rw [show decide (a0.size ≤ 80 ∧ e = a0.size) = false from decide_eq_false (fun h => ce h.2)]
        clear hpl hsz hpos c ce
        go_enter Try.func13, Try.ntmps13
        go_wp2_with (first | ((with_reducible refine gate_dst (N := 7) rfl ?_); refine Kd.R_lit (Kd.int .i64) _ 3 ?hg (N := 7) ?hd (xs := ([0, 0, 0, 0] : List Int)) (inner := [.int .i64 0, .int .i64 0, .int .i64 0, .int .i64 0]) (ok := fun _ => True) (okp := fun _ => True) ?hr ?hp (fun _ hk => hk) trivial (Below.refl _ _) (Nat.le_refl _) (by simp) ?_; (case hd => rfl); (case hg => rfl); (case hr => first | (go_simp; done) | (go_simp; rfl)); (case hp => exact (Reps.one (show Kd.M (Kd.int .i64) _ _ _ 0 [.int .i64 0] from rfl) (Reps.one (show Kd.M (Kd.int .i64) _ _ _ 0 [.int .i64 0] from rfl) (Reps.one (show Kd.M (Kd.int .i64) _ _ _ 0 [.int .i64 0] from rfl) (Reps.one (show Kd.M (Kd.int .i64) _ _ _ 0 [.int .i64 0] from rfl) (Reps.none _ _)))))); intro v204 w6 ho7 hb hg_ hnew_; clear hg_ hnew_; rw [← Ny203.out] at ho7; have n1_ := Aside0.mk (below_step (by repeat (first | (with_reducible first | exact HB.out | apply below_alloc | apply pw_below_drewN | apply below_drew1) | exact HB.out)) hb); have HO205 := Aside0.mk (Kd.R_lower ho7 (below_size (by repeat (first | (with_reducible first | exact HB.out | apply below_alloc | apply pw_below_drewN | apply below_drew1) | exact HB.out)))); clear HB; have HB := n1_; clear n1_ hb ho7) | ((with_reducible refine gate_dst (N := 9) rfl ?_); refine Kd.R_lit (Kd.int .i64) _ 3 ?hg (N := 9) ?hd (xs := ([] : List Int)) (inner := []) (ok := fun _ => True) (okp := fun _ => True) ?hr ?hp (fun _ hk => hk) trivial (Below.refl _ _) (Nat.le_refl _) (by simp) ?_; (case hd => rfl); (case hg => rfl); (case hr => first | (go_simp; done) | (go_simp; rfl)); (case hp => exact (Reps.none _ _)); intro v207 w8 ho9 hb hg_ hnew_; clear hg_ hnew_; rw [← Ny206.out] at ho9; have n0_ := Aside0.mk (Kd.R_elder' (by (with_reducible repeat (first | apply Kd.R_alloc | apply Kd.R_drewN | apply Kd.R_drew)); exact HO205.out) (Kd.R_base ho9) hb); have n1_ := Aside0.mk (Kd.R_lower (Kd.R_new' ho9 (Kd.R_lt (by (with_reducible repeat (first | apply Kd.R_alloc | apply Kd.R_drewN | apply Kd.R_drew)); exact HO205.out))) (below_size (by repeat (first | (with_reducible first | exact HB.out | apply below_alloc | apply pw_below_drewN | apply below_drew1) | exact HB.out)))); have n2_ := Aside0.mk (below_step (by repeat (first | (with_reducible first | exact HB.out | apply below_alloc | apply pw_below_drewN | apply below_drew1) | exact HB.out)) hb); clear HO205; clear HB; have HO205 := n0_; have HO208 := n1_; have HB := n2_; clear n0_ n1_ n2_; clear hb ho9; obtain ⟨Ao10, co10, eo10⟩ := Kd.R_slice HO205.out; subst eo10; obtain ⟨Ao11, co11, eo11⟩ := Kd.R_slice HO208.out; subst eo11) | (have HY := (HX.out Ao10 co10 (Kd.R_reads' HO205.out).2.1 _ (fun k_ => some k_ = (.slice Ao11 y206.length co11 : Value).ownBlock) (.slice Ao11 y206.length co11) HB.out (Kd.C_kept_own (HO205.out) (fun k_ hk_ hs_ => (hk_.2) hs_)) (Kd.R_tight rfl HO208.out)); (with_reducible refine HY.mono ?_); clear HY; rintro e3 w12 hq3; rw [HE.out] at hq3; obtain ⟨hb3, hk3, v3, rfl, hr3⟩ := hq3; have HB3 := Aside0.mk hb3))
        go_ret
        exact ⟨by first | rfl | (simp; done), HB3.out⟩
    · have f2 : decide ((a0.size : Int) ≤ 80) = false := decide_eq_false (by omega)
      have f2' : decide (a0.size ≤ 80) = false := decide_eq_false c
      rw [show decide (a0.size ≤ 80 ∧ e = a0.size) = false from decide_eq_false (fun h => c h.1)]
      clear hpl hsz hpos c
      go_enter Try.func13, Try.ntmps13
      go_wp2_with (first | ((with_reducible refine gate_dst (N := 7) rfl ?_); refine Kd.R_lit (Kd.int .i64) _ 3 ?hg (N := 7) ?hd (xs := ([0, 0, 0, 0] : List Int)) (inner := [.int .i64 0, .int .i64 0, .int .i64 0, .int .i64 0]) (ok := fun _ => True) (okp := fun _ => True) ?hr ?hp (fun _ hk => hk) trivial (Below.refl _ _) (Nat.le_refl _) (by simp) ?_; (case hd => rfl); (case hg => rfl); (case hr => first | (go_simp; done) | (go_simp; rfl)); (case hp => exact (Reps.one (show Kd.M (Kd.int .i64) _ _ _ 0 [.int .i64 0] from rfl) (Reps.one (show Kd.M (Kd.int .i64) _ _ _ 0 [.int .i64 0] from rfl) (Reps.one (show Kd.M (Kd.int .i64) _ _ _ 0 [.int .i64 0] from rfl) (Reps.one (show Kd.M (Kd.int .i64) _ _ _ 0 [.int .i64 0] from rfl) (Reps.none _ _)))))); intro v204 w6 ho7 hb hg_ hnew_; clear hg_ hnew_; rw [← Ny203.out] at ho7; have n1_ := Aside0.mk (below_step (by repeat (first | (with_reducible first | exact HB.out | apply below_alloc | apply pw_below_drewN | apply below_drew1) | exact HB.out)) hb); have HO205 := Aside0.mk (Kd.R_lower ho7 (below_size (by repeat (first | (with_reducible first | exact HB.out | apply below_alloc | apply pw_below_drewN | apply below_drew1) | exact HB.out)))); clear HB; have HB := n1_; clear n1_ hb ho7) | ((with_reducible refine gate_dst (N := 9) rfl ?_); refine Kd.R_lit (Kd.int .i64) _ 3 ?hg (N := 9) ?hd (xs := ([] : List Int)) (inner := []) (ok := fun _ => True) (okp := fun _ => True) ?hr ?hp (fun _ hk => hk) trivial (Below.refl _ _) (Nat.le_refl _) (by simp) ?_; (case hd => rfl); (case hg => rfl); (case hr => first | (go_simp; done) | (go_simp; rfl)); (case hp => exact (Reps.none _ _)); intro v207 w8 ho9 hb hg_ hnew_; clear hg_ hnew_; rw [← Ny206.out] at ho9; have n0_ := Aside0.mk (Kd.R_elder' (by (with_reducible repeat (first | apply Kd.R_alloc | apply Kd.R_drewN | apply Kd.R_drew)); exact HO205.out) (Kd.R_base ho9) hb); have n1_ := Aside0.mk (Kd.R_lower (Kd.R_new' ho9 (Kd.R_lt (by (with_reducible repeat (first | apply Kd.R_alloc | apply Kd.R_drewN | apply Kd.R_drew)); exact HO205.out))) (below_size (by repeat (first | (with_reducible first | exact HB.out | apply below_alloc | apply pw_below_drewN | apply below_drew1) | exact HB.out)))); have n2_ := Aside0.mk (below_step (by repeat (first | (with_reducible first | exact HB.out | apply below_alloc | apply pw_below_drewN | apply below_drew1) | exact HB.out)) hb); clear HO205; clear HB; have HO205 := n0_; have HO208 := n1_; have HB := n2_; clear n0_ n1_ n2_; clear hb ho9; obtain ⟨Ao10, co10, eo10⟩ := Kd.R_slice HO205.out; subst eo10; obtain ⟨Ao11, co11, eo11⟩ := Kd.R_slice HO208.out; subst eo11) | (have HY := (HX.out Ao10 co10 (Kd.R_reads' HO205.out).2.1 _ (fun k_ => some k_ = (.slice Ao11 y206.length co11 : Value).ownBlock) (.slice Ao11 y206.length co11) HB.out (Kd.C_kept_own (HO205.out) (fun k_ hk_ hs_ => (hk_.2) hs_)) (Kd.R_tight rfl HO208.out)); (with_reducible refine HY.mono ?_); clear HY; rintro e3 w12 hq3; rw [HE.out] at hq3; obtain ⟨hb3, hk3, v3, rfl, hr3⟩ := hq3; have HB3 := Aside0.mk hb3))
      go_ret
      exact ⟨by first | rfl | (simp; done), HB3.out⟩

/-! ### spec_MarksOf: function 19 -/
def spec_MarksOf.l0 : Nat → List Int → ByteArray → Int → Option (ByteArray)
  | 0, _, _, _ => none
  | k + 1, x4, x6, x7 => if x7 < (x4.length : Int) then ((some (([(⟨#[45]⟩ : ByteArray), (⟨#[61]⟩ : ByteArray), (⟨#[43]⟩ : ByteArray)] : List ByteArray) : List ByteArray)).bind fun y220 => (if 0 ≤ x7 then (if 0 ≤ (wrap64 ((rd x4 x7) + 1)) then (if (wrap64 ((rd x4 x7) + 1)) < (y220.length : Int) then (if x6.size + (rdOf ByteArray.empty y220 (wrap64 ((rd x4 x7) + 1))).size ≤ 9223372036854775807 then (spec_MarksOf.l0 k x4 (x6 ++ (rdOf ByteArray.empty y220 (wrap64 ((rd x4 x7) + 1)))) (wrap64 (x7 + 1))) else (none)) else (none)) else (none)) else (none))) else (some x6)
def spec_MarksOf.f (k : Nat) (a0 : ByteArray) : Option (ByteArray) := (spec_SentenceOk.f a0).bind fun t208 => (if t208 = true then ((spec_l7Read.f (([0, 0, 0, 0] : List Int)) a0 0 1 (([] : List Int))).bind fun bt215 => (spec_MarksOf.l0 k bt215.2.1 (⟨#[]⟩ : ByteArray) 0)) else (some (⟨#[]⟩ : ByteArray)))
theorem spec_MarksOf.mono_l : ∀ k, (∀ y0 y1 y2, LeO (spec_MarksOf.l0 k y0 y1 y2) (spec_MarksOf.l0 (k + 1) y0 y1 y2))
  | 0 => fun _ _ _ r h => by simp [spec_MarksOf.l0] at h
  | k + 1 => by
    have ih0 := spec_MarksOf.mono_l k
    · intro y0 y1 y2
      unfold spec_MarksOf.l0
      repeat' first
      | (with_reducible exact ih0 _ _ _)
      | (with_reducible exact LeO.refl _)
      | (with_reducible exact LeO.none _)
      | (with_reducible refine LeO.ite ?_ ?_)
      | (with_reducible refine LeO.bind ?_ (fun _ => ?_))
      | exact ih0 _ _ _
      | exact LeO.none _
      | refine LeO.ite ?_ ?_
      | refine LeO.bind ?_ (fun _ => ?_)
theorem spec_MarksOf.mono : ∀ a0 k, LeO (spec_MarksOf.f k a0) (spec_MarksOf.f (k + 1) a0) := by
  intro a0 k
  have ih0 := spec_MarksOf.mono_l k
  unfold spec_MarksOf.f
  repeat' first
      | (with_reducible exact ih0 _ _ _)
      | (with_reducible exact LeO.refl _)
      | (with_reducible exact LeO.none _)
      | (with_reducible refine LeO.ite ?_ ?_)
      | (with_reducible refine LeO.bind ?_ (fun _ => ?_))
      | exact ih0 _ _ _
      | exact LeO.none _
      | refine LeO.ite ?_ ?_
      | refine LeO.bind ?_ (fun _ => ?_)
set_option maxHeartbeats 8000000 in
set_option maxRecDepth 100000 in
theorem spec_MarksOf.calls (k : Nat) (a0 : ByteArray) (r : ByteArray) (w : World) (h : spec_MarksOf.f k a0 = some r) :
    Calls Try.prog 19 #[.string a0] w fun e w' => e = .returned (.string r) ∧ Below w.heap.size w w' := by
  have HB := Aside0.mk (Below.refl w.heap.size w)
  have H : ((spec_SentenceOk.f a0).bind fun t208 => (if t208 = true then ((spec_l7Read.f (([0, 0, 0, 0] : List Int)) a0 0 1 (([] : List Int))).bind fun bt215 => (spec_MarksOf.l0 k bt215.2.1 (⟨#[]⟩ : ByteArray) 0)) else (some (⟨#[]⟩ : ByteArray)))) = some r := h
  clear h
  replace H := Option.bind_eq_some_iff.mp H
  obtain ⟨t208, A20, H⟩ := H
  replace H : (if t208 = true then ((spec_l7Read.f (([0, 0, 0, 0] : List Int)) a0 0 1 (([] : List Int))).bind fun bt215 => (spec_MarksOf.l0 k bt215.2.1 (⟨#[]⟩ : ByteArray) 0)) else (some (⟨#[]⟩ : ByteArray))) = some r := H
  have A2 := Aside0.mk A20
  clear A20
  by_cases c3 : t208 = true
  · subst c3
    have H1 : ((spec_l7Read.f (([0, 0, 0, 0] : List Int)) a0 0 1 (([] : List Int))).bind fun bt215 => (spec_MarksOf.l0 k bt215.2.1 (⟨#[]⟩ : ByteArray) 0)) = some r := by rw [if_pos rfl] at H; exact H
    clear H
    have H := H1
    clear H1
    obtain ⟨y209, hy209⟩ : ∃ y_ : List Int, y_ = (([0, 0, 0, 0] : List Int)) := ⟨_, rfl⟩
    replace H : ((spec_l7Read.f y209 a0 0 1 (([] : List Int))).bind fun bt215 => (spec_MarksOf.l0 k bt215.2.1 (⟨#[]⟩ : ByteArray) 0)) = some r := by first | (rw [hy209]; with_reducible exact H) | (have H2_ := (Option.bind_some _ _).symm.trans H; rw [hy209]; with_reducible exact H2_) | (have H2_ := (Option.bind_some _ _).symm.trans H; with_reducible exact H2_) | with_reducible exact H | (rw [hy209]; exact H) | exact H
    have Ny209 := Aside0.mk hy209
    clear hy209
    obtain ⟨y212, hy212⟩ : ∃ y_ : List Int, y_ = (([] : List Int)) := ⟨_, rfl⟩
    replace H : ((spec_l7Read.f y209 a0 0 1 y212).bind fun bt215 => (spec_MarksOf.l0 k bt215.2.1 (⟨#[]⟩ : ByteArray) 0)) = some r := by first | (rw [hy212]; with_reducible exact H) | (have H2_ := (Option.bind_some _ _).symm.trans H; rw [hy212]; with_reducible exact H2_) | (have H2_ := (Option.bind_some _ _).symm.trans H; with_reducible exact H2_) | with_reducible exact H | (rw [hy212]; exact H) | exact H
    have Ny212 := Aside0.mk hy212
    clear hy212
    replace H := Option.bind_eq_some_iff.mp H
    obtain ⟨⟨t215, t216, t219⟩, A40, H⟩ := H
    replace H : (spec_MarksOf.l0 k t216 (⟨#[]⟩ : ByteArray) 0) = some r := H
    have A4 := Aside0.mk A40
    clear A40
    have H' := Aside0.mk H
    clear H
    go_enter Try.func19, Try.ntmps19
    go_wp2_with (first | ((with_reducible refine gate_callee (f := 13) rfl ?_); refine goesL_ (some 9) rfl rfl Try.func13 (by kernel_rfl) rfl #[.string a0] rfl (by (try simp only [List.map_toArray, List.map_cons, List.map_nil]); first | done | rfl | (simp only [List.length_drop, List.length_take]; rfl)) ?_; (with_reducible refine (spec_SentenceOk.calls a0 true _ A2.out).mono ?_); rintro e w5 ⟨rfl, hb⟩; refine ⟨_, rfl, ?_⟩; have n0_ := Aside0.mk (below_step (by repeat (first | (with_reducible first | exact HB.out | apply below_alloc | apply pw_below_drewN | apply below_drew1) | exact HB.out)) hb); clear HB; have HB := n0_; clear n0_; (try clear hb); (try clear hb2); (try clear hk); (try clear hi)) | ((with_reducible refine gate_dst (N := 12) rfl ?_); refine Kd.R_lit (Kd.int .i64) _ 3 ?hg (N := 12) ?hd (xs := ([0, 0, 0, 0] : List Int)) (inner := [.int .i64 0, .int .i64 0, .int .i64 0, .int .i64 0]) (ok := fun _ => True) (okp := fun _ => True) ?hr ?hp (fun _ hk => hk) trivial (Below.refl _ _) (Nat.le_refl _) (by simp) ?_; (case hd => rfl); (case hg => rfl); (case hr => first | (go_simp; done) | (go_simp; rfl)); (case hp => exact (Reps.one (show Kd.M (Kd.int .i64) _ _ _ 0 [.int .i64 0] from rfl) (Reps.one (show Kd.M (Kd.int .i64) _ _ _ 0 [.int .i64 0] from rfl) (Reps.one (show Kd.M (Kd.int .i64) _ _ _ 0 [.int .i64 0] from rfl) (Reps.one (show Kd.M (Kd.int .i64) _ _ _ 0 [.int .i64 0] from rfl) (Reps.none _ _)))))); intro v210 w6 ho7 hb hg_ hnew_; clear hg_ hnew_; (first | rw [← Ny209.out] at ho7 | (simp only [Int.reduceToNat] at ho7; rw [← Ny209.out] at ho7)); have n0_ := Aside0.mk (Kd.R_lower ho7 (below_size (by repeat (first | (with_reducible first | exact HB.out | apply below_alloc | apply pw_below_drewN | apply below_drew1) | exact HB.out)))); have n1_ := Aside0.mk (below_step (by repeat (first | (with_reducible first | exact HB.out | apply below_alloc | apply pw_below_drewN | apply below_drew1) | exact HB.out)) hb); clear HB; have HO211 := n0_; have HB := n1_; clear n0_ n1_; clear hb ho7) | ((with_reducible refine gate_dst (N := 14) rfl ?_); refine Kd.R_lit (Kd.int .i64) _ 3 ?hg (N := 14) ?hd (xs := ([] : List Int)) (inner := []) (ok := fun _ => True) (okp := fun _ => True) ?hr ?hp (fun _ hk => hk) trivial (Below.refl _ _) (Nat.le_refl _) (by simp) ?_; (case hd => rfl); (case hg => rfl); (case hr => first | (go_simp; done) | (go_simp; rfl)); (case hp => exact (Reps.none _ _)); intro v213 w8 ho9 hb hg_ hnew_; clear hg_ hnew_; (first | rw [← Ny212.out] at ho9 | (simp only [Int.reduceToNat] at ho9; rw [← Ny212.out] at ho9)); have n0_ := Aside0.mk (Kd.R_elder' (by (with_reducible repeat (first | apply Kd.R_alloc | apply Kd.R_drewN | apply Kd.R_drew)); exact HO211.out) (Kd.R_base ho9) hb); have n1_ := Aside0.mk (Kd.R_lower (Kd.R_new' ho9 (Kd.R_lt (by (with_reducible repeat (first | apply Kd.R_alloc | apply Kd.R_drewN | apply Kd.R_drew)); exact HO211.out))) (below_size (by repeat (first | (with_reducible first | exact HB.out | apply below_alloc | apply pw_below_drewN | apply below_drew1) | exact HB.out)))); have n2_ := Aside0.mk (below_step (by repeat (first | (with_reducible first | exact HB.out | apply below_alloc | apply pw_below_drewN | apply below_drew1) | exact HB.out)) hb); clear HO211; clear HB; have HO211 := n0_; have HO214 := n1_; have HB := n2_; clear n0_ n1_ n2_; clear hb ho9; obtain ⟨Ao10, co10, eo10⟩ := Kd.R_slice HO211.out; subst eo10; obtain ⟨Ao11, co11, eo11⟩ := Kd.R_slice HO214.out; subst eo11) | ((with_reducible refine gate_callee (f := 32) rfl ?_); refine goesL_ (some 15) rfl rfl Try.func32 (by kernel_rfl) rfl #[.slice Ao10 y209.length co10, .string a0, .int .i64 0, .int .i64 1, .slice Ao11 y212.length co11] rfl (by (try simp only [List.map_toArray, List.map_cons, List.map_nil]); first | done | rfl | (simp only [List.length_drop, List.length_take]; rfl)) ?_; (with_reducible refine (spec_l7Read.calls _ _ y209 a0 0 1 (fun k_ => some k_ = (.slice Ao11 y212.length co11 : Value).ownBlock) (.slice Ao11 y212.length co11) y212 t215 t216 t219 w _ ?side1 ?side2 ?side3 ?side4 A4.out).mono ?_); (case side1 => repeat (first | (with_reducible first | exact HB.out | apply below_alloc | apply pw_below_drewN | apply below_drew1) | exact HB.out)); (case side2 => exact Kd.C_kept_own (HO211.out) (fun k_ hk_ hs_ => (hk_.2) hs_)); (case side3 => exact (Kd.R_reads' HO211.out).2.1); (case side4 => exact Kd.R_tight rfl HO214.out); rintro e w12 ⟨v217, rfl, ho0, hb, hkp⟩; refine ⟨_, rfl, ?_⟩; have n0_ := Aside0.mk (Kd.R_mono (ok' := fun k_ => some k_ ≠ (v217 : Value).ownBlock) (Kd.R_keptB (HO211.out) hkp (fun k_ hk_ hs_ => (hk_.2) hs_)) (fun k_ hk_ => fun e_ => Or.elim (ho0.1 k_ e_.symm) (fun hs_ => hk_.2.1 hs_) (fun hn_ => Nat.not_le.2 hk_.2.2 hn_))); have n1_ := Aside0.mk (Kd.R_mono (ok' := fun k_ => some k_ ≠ (.slice Ao10 y209.length co10 : Value).ownBlock) ho0 (fun k_ hk_ => Or.elim hk_ (fun hs_ => fun e_ => (((HO211.out).1 k_ e_.symm).2) hs_) (fun hn_ => (Kd.fresh' (Kd.R_lt (by (with_reducible repeat (first | apply Kd.R_alloc | apply Kd.R_drewN | apply Kd.R_drew)); exact HO211.out)) k_ hn_)))); have n2_ := Aside0.mk (hb); clear HO211; clear HB; clear HO214; have HO211 := n0_; have HO218 := n1_; have HB := n2_; clear n0_ n1_ n2_; (try clear hb); (try clear hkp); (try clear ho0)))
    go_loopg [6, 7] k (fun kq v6 v7 w' => ∃ (x6_1 : ByteArray) (x7_1 : Int), v6 = .string x6_1 ∧ v7 = .int .i64 x7_1 ∧ Aside0 (spec_MarksOf.l0 kq t216 x6_1 x7_1 = some r) ∧ Aside0 (kq ≤ k) ∧ Aside0 (Kd.R (Kd.int .i64) 3 w' w.heap.size (fun _ => True) v217 t216) ∧ Aside0 (Below w.heap.size w w'))
    case atStart => exact ⟨((⟨#[]⟩ : ByteArray)), (0), (by first | rfl | (simp; done) | (simp [*]; done)), (by first | rfl | (simp; done) | (simp [*]; done)), H', ⟨Nat.le_refl _⟩, ⟨by (with_reducible repeat (first | apply Kd.R_alloc | apply Kd.R_drewN | apply Kd.R_drew)); exact Kd.R_mono HO218.out (fun _ hk => trivial)⟩, ⟨by repeat (first | (with_reducible first | exact HB.out | apply below_alloc | apply pw_below_drewN | apply below_drew1) | exact HB.out)⟩⟩
    case round =>
      clear H'
      try clear c1
      try clear p2
      try clear c3
      obtain ⟨x6_1, x7_1, rfl, rfl, HA, HK1, HO_4, HB⟩ := hrel
      cases gk with
      | zero => exact absurd HA.out (by simp [spec_MarksOf.l0])
      | succ k1 =>
        have H := HA.out
        clear HA
        simp only [spec_MarksOf.l0] at H
        by_cases c13 : x7_1 < (t216.length : Int)
        · rw [if_pos c13] at H
          have c13b0 : decide (x7_1 < (t216.length : Int)) = true := decide_eq_true c13
          clear c13
          obtain ⟨y220, hy220⟩ : ∃ y_ : List ByteArray, y_ = (([(⟨#[45]⟩ : ByteArray), (⟨#[61]⟩ : ByteArray), (⟨#[43]⟩ : ByteArray)] : List ByteArray)) := ⟨_, rfl⟩
          replace H : (if 0 ≤ x7_1 then (if 0 ≤ (wrap64 ((rd t216 x7_1) + 1)) then (if (wrap64 ((rd t216 x7_1) + 1)) < (y220.length : Int) then (if x6_1.size + (rdOf ByteArray.empty y220 (wrap64 ((rd t216 x7_1) + 1))).size ≤ 9223372036854775807 then (spec_MarksOf.l0 k1 t216 (x6_1 ++ (rdOf ByteArray.empty y220 (wrap64 ((rd t216 x7_1) + 1)))) (wrap64 (x7_1 + 1))) else (none)) else (none)) else (none)) else (none)) = some r := by first | (rw [hy220]; with_reducible exact H) | (have H2_ := (Option.bind_some _ _).symm.trans H; rw [hy220]; with_reducible exact H2_) | (have H2_ := (Option.bind_some _ _).symm.trans H; with_reducible exact H2_) | with_reducible exact H | (rw [hy220]; exact H) | exact H
          have Ny220 := Aside0.mk hy220
          clear hy220
          by_cases c14 : 0 ≤ x7_1
          · rw [if_pos c14] at H
            have c14b0 : decide (0 ≤ x7_1) = true := decide_eq_true c14
            clear c14
            obtain ⟨ji15, hji15⟩ : ∃ j_ : Int, (wrap64 ((rd t216 x7_1) + 1)) = j_ := ⟨_, rfl⟩
            replace H : (if 0 ≤ (ji15) then (if (ji15) < (y220.length : Int) then (if x6_1.size + (rdOf ByteArray.empty y220 (ji15)).size ≤ 9223372036854775807 then (spec_MarksOf.l0 k1 t216 (x6_1 ++ (rdOf ByteArray.empty y220 (ji15))) (wrap64 (x7_1 + 1))) else (none)) else (none)) else (none)) = some r := by first | (rw [hji15] at H; exact H) | (simp only [hji15] at H ⊢; exact H)
            have hji15w : (IntKind.i64.wrap ((rd t216 x7_1) + 1)) = ji15 := (i64_w _).trans hji15
            by_cases c16 : 0 ≤ (ji15)
            · rw [if_pos c16] at H
              have c16b0 : decide (0 ≤ (ji15)) = true := decide_eq_true c16
              clear c16
              by_cases c17 : (ji15) < (y220.length : Int)
              · rw [if_pos c17] at H
                have c17b0 : decide ((ji15) < (y220.length : Int)) = true := decide_eq_true c17
                clear c17
                by_cases c18 : x6_1.size + (rdOf ByteArray.empty y220 (ji15)).size ≤ 9223372036854775807
                · rw [if_pos c18] at H
                  have c18b0 := eq_true c18
                  have c18b1 : decide (x6_1.size + (rdOf ByteArray.empty y220 (ji15)).size ≤ 9223372036854775807) = true := decide_eq_true c18
                  try have c18b2 : (9223372036854775807 < x6_1.size + (rdOf ByteArray.empty y220 (ji15)).size) = False := eq_false (Nat.not_lt.2 c18)
                  have H' := Aside0.mk H
                  clear H
                  obtain ⟨Ao19, co19, eo19⟩ := Kd.R_slice HO_4.out
                  subst eo19
                  go_wp2_with (first | ((with_reducible refine gate_dst (N := 26) rfl ?_); refine Kd.R_lit Kd.string _ 9 ?hg (N := 26) ?hd (xs := ([(⟨#[45]⟩ : ByteArray), (⟨#[61]⟩ : ByteArray), (⟨#[43]⟩ : ByteArray)] : List ByteArray)) (inner := [.string (⟨#[45]⟩ : ByteArray), .string (⟨#[61]⟩ : ByteArray), .string (⟨#[43]⟩ : ByteArray)]) (ok := fun _ => True) (okp := fun _ => True) ?hr ?hp (fun _ hk => hk) trivial (Below.refl _ _) (Nat.le_refl _) (by simp) ?_; (case hd => rfl); (case hg => rfl); (case hr => first | (go_simp; done) | (go_simp; rfl)); (case hp => exact (Reps.one (show Kd.M Kd.string _ _ _ (⟨#[45]⟩ : ByteArray) [.string (⟨#[45]⟩ : ByteArray)] from rfl) (Reps.one (show Kd.M Kd.string _ _ _ (⟨#[61]⟩ : ByteArray) [.string (⟨#[61]⟩ : ByteArray)] from rfl) (Reps.one (show Kd.M Kd.string _ _ _ (⟨#[43]⟩ : ByteArray) [.string (⟨#[43]⟩ : ByteArray)] from rfl) (Reps.none _ _))))); intro v221 w20 ho21 hb hg_ hnew_; clear hg_ hnew_; (first | rw [← Ny220.out] at ho21 | (simp only [Int.reduceToNat] at ho21; rw [← Ny220.out] at ho21)); have n0_ := Aside0.mk (Kd.R_below (by (with_reducible repeat (first | apply Kd.R_alloc | apply Kd.R_drewN | apply Kd.R_drew)); exact HO_4.out) hb); have n1_ := Aside0.mk (Kd.R_lower ho21 (below_size (by repeat (first | (with_reducible first | exact HB.out | apply below_alloc | apply pw_below_drewN | apply below_drew1) | exact HB.out)))); have n2_ := Aside0.mk (below_step (by repeat (first | (with_reducible first | exact HB.out | apply below_alloc | apply pw_below_drewN | apply below_drew1) | exact HB.out)) hb); clear HO_4; clear HB; have HO_4 := n0_; have HO222 := n1_; have HB := n2_; clear n0_ n1_ n2_; clear hb ho21; have p223 : 0 ≤ (x7_1 : Int) := of_decide_eq_true (by first | (with_reducible assumption) | assumption); have q223 : x7_1 < (t216.length : Int) := of_decide_eq_true (by first | (with_reducible assumption) | assumption); obtain ⟨ad223, e223, hx223_0⟩ := Kd.at_int (Kd.R_reads' HO_4.out).2.2 x7_1 p223 q223; cases e223; replace p223 := eq_true p223; replace q223 := eq_true q223; obtain ⟨Ao22, co22, eo22⟩ := Kd.R_slice HO222.out; subst eo22; have p224 : 0 ≤ ((ji15) : Int) := of_decide_eq_true (by first | (with_reducible assumption) | assumption); have q224 : (ji15) < (y220.length : Int) := of_decide_eq_true (by first | (with_reducible assumption) | assumption); obtain ⟨ad224, e224, hx224_0⟩ := Kd.at_string (Kd.R_reads' HO222.out).2.2 (ji15) p224 q224; cases e224; replace p224 := eq_true p224; replace q224 := eq_true q224))
                  go_roundg k1
                  case measure => have := HK1.out; omega
                  case rel => exact ⟨(x6_1 ++ (rdOf ByteArray.empty y220 (ji15))), (wrap64 (x7_1 + 1)), (by first | rfl | (simp; done) | (simp only [← hji15] <;> (first | rfl | simp)) | (simp [*]; done)), (by first | rfl | (simp; done) | (simp [*]; done)), H', ⟨by have := HK1.out; omega⟩, ⟨by (with_reducible repeat (first | apply Kd.R_alloc | apply Kd.R_drewN | apply Kd.R_drew)); exact HO_4.out⟩, ⟨by repeat (first | (with_reducible first | exact HB.out | apply below_alloc | apply pw_below_drewN | apply below_drew1) | exact HB.out)⟩⟩
                · rw [if_neg c18] at H
                  exact absurd H (by simp)
              · rw [if_neg c17] at H
                exact absurd H (by simp)
            · rw [if_neg c16] at H
              exact absurd H (by simp)
          · rw [if_neg c14] at H
            exact absurd H (by simp)
        · rw [if_neg c13] at H
          have c13b0 : decide (x7_1 < (t216.length : Int)) = false := decide_eq_false c13
          clear c13
          obtain rfl := Option.some.inj H
          obtain ⟨Ao23, co23, eo23⟩ := Kd.R_slice HO_4.out
          subst eo23
          go_wp2
          go_ret
          exact ⟨by first | rfl | (simp [errW_none, errW_some] <;> rfl) | (simp [*, errW_none, errW_some] <;> rfl), by repeat (first | (with_reducible first | exact HB.out | apply below_alloc | apply pw_below_drewN | apply below_drew1) | exact HB.out)⟩
  · replace c3 := Bool.eq_false_iff.mpr c3
    subst c3
    have H1 : (some (⟨#[]⟩ : ByteArray)) = some r := by rw [if_neg (show ¬ (false = true) by decide)] at H; exact H
    clear H
    have H := H1
    clear H1
    obtain rfl := Option.some.inj H
    go_enter Try.func19, Try.ntmps19
    go_wp2_with (first | ((with_reducible refine gate_callee (f := 13) rfl ?_); refine goesL_ (some 9) rfl rfl Try.func13 (by kernel_rfl) rfl #[.string a0] rfl (by (try simp only [List.map_toArray, List.map_cons, List.map_nil]); first | done | rfl | (simp only [List.length_drop, List.length_take]; rfl)) ?_; (with_reducible refine (spec_SentenceOk.calls a0 false _ A2.out).mono ?_); rintro e w24 ⟨rfl, hb⟩; refine ⟨_, rfl, ?_⟩; have n0_ := Aside0.mk (below_step (by repeat (first | (with_reducible first | exact HB.out | apply below_alloc | apply pw_below_drewN | apply below_drew1) | exact HB.out)) hb); clear HB; have HB := n0_; clear n0_; (try clear hb); (try clear hb2); (try clear hk); (try clear hi)))
    go_ret
    exact ⟨by first | rfl | (simp [errW_none, errW_some] <;> rfl) | (simp [*, errW_none, errW_some] <;> rfl), by repeat (first | (with_reducible first | exact HB.out | apply below_alloc | apply pw_below_drewN | apply below_drew1) | exact HB.out)⟩

/-! ### impl_turnBy: function 53 -/
def impl_turnBy.f (a0 : Int) (a1 : Bool) (a2 : Bool) : Option (Int) := if a1 = true then (some a0) else (if a2 = true then (some (wrap64 (-a0))) else (some 0))
set_option maxHeartbeats 8000000 in
set_option maxRecDepth 100000 in
theorem impl_turnBy.calls (a0 : Int) (a1 : Bool) (a2 : Bool) (r : Int) (w : World) (h : impl_turnBy.f a0 a1 a2 = some r) :
    Calls Try.prog 53 #[.int .i64 a0, .bool a1, .bool a2] w fun e w' => e = .returned (.int .i64 r) ∧ Drawn0 w w' := by
  have H : (if a1 = true then (some a0) else (if a2 = true then (some (wrap64 (-a0))) else (some 0))) = some r := h
  clear h
  by_cases c4 : a1 = true
  · subst c4
    have H1 : (some a0) = some r := by rw [if_pos rfl] at H; exact H
    clear H
    have H := H1
    clear H1
    obtain rfl := Option.some.inj H
    go_enter Try.func53, Try.ntmps53
    go_wp2
    go_ret
    exact ⟨by first | rfl | (simp; done) | (simp [*]; done), by repeat (first | exact Drawn0.refl _ | apply Drawn0.step)⟩
  · replace c4 := Bool.eq_false_iff.mpr c4
    subst c4
    have H1 : (if a2 = true then (some (wrap64 (-a0))) else (some 0)) = some r := by rw [if_neg (show ¬ (false = true) by decide)] at H; exact H
    clear H
    have H := H1
    clear H1
    by_cases c5 : a2 = true
    · subst c5
      have H1 : (some (wrap64 (-a0))) = some r := by rw [if_pos rfl] at H; exact H
      clear H
      have H := H1
      clear H1
      obtain rfl := Option.some.inj H
      go_enter Try.func53, Try.ntmps53
      go_wp2
      go_ret
      exact ⟨by first | rfl | (simp; done) | (simp [*]; done), by repeat (first | exact Drawn0.refl _ | apply Drawn0.step)⟩
    · replace c5 := Bool.eq_false_iff.mpr c5
      subst c5
      have H1 : (some 0) = some r := by rw [if_neg (show ¬ (false = true) by decide)] at H; exact H
      clear H
      have H := H1
      clear H1
      obtain rfl := Option.some.inj H
      go_enter Try.func53, Try.ntmps53
      go_wp2
      go_ret
      exact ⟨by first | rfl | (simp; done) | (simp [*]; done), by repeat (first | exact Drawn0.refl _ | apply Drawn0.step)⟩

/-! ### impl_placeOf: function 63 -/
def impl_placeOf.f (a0 : Int) (a1 : Int) : Option (Int) := some (wrap64 ((wrap64 (Int.tdiv (wrap64 (a0 * (wrap64 (a0 + 1)))) 2)) + a1))
set_option maxHeartbeats 8000000 in
set_option maxRecDepth 100000 in
theorem impl_placeOf.calls (a0 : Int) (a1 : Int) (r : Int) (w : World) (h : impl_placeOf.f a0 a1 = some r) :
    Calls Try.prog 63 #[.int .i64 a0, .int .i64 a1] w fun e w' => e = .returned (.int .i64 r) ∧ Drawn0 w w' := by
  have H : (some (wrap64 ((wrap64 (Int.tdiv (wrap64 (a0 * (wrap64 (a0 + 1)))) 2)) + a1))) = some r := h
  clear h
  obtain rfl := Option.some.inj H
  go_enter Try.func63, Try.ntmps63
  go_wp2
  go_ret
  exact ⟨by first | rfl | (simp; done) | (simp [*]; done), by repeat (first | exact Drawn0.refl _ | apply Drawn0.step)⟩

/-! ### impl_holds: function 59 -/
def impl_holds.f (l0 : List Int) (a1 : Int) (a2 : Int) : Option (Bool) := (impl_placeOf.f a1 a2).bind fun t225 => (if 0 ≤ t225 then (if t225 < (l0.length : Int) then (some ((rd l0 t225) == 1)) else (none)) else (none))
set_option maxHeartbeats 8000000 in
set_option maxRecDepth 100000 in
theorem impl_holds.calls (A0 : Option Addr) (c0 : Nat) (l0 : List Int) (a1 : Int) (a2 : Int) (r : Bool) (w : World) (hr0 : Kd.C (Kd.int .i64) w A0 l0.length l0) (hc0 : l0.length ≤ c0) (h : impl_holds.f l0 a1 a2 = some r) :
    Calls Try.prog 59 #[.slice A0 l0.length c0, .int .i64 a1, .int .i64 a2] w fun e w' => e = .returned (.bool r) ∧ Drawn0 w w' := by
  have HR0 := Aside0.mk hr0
  have HC0 := Aside0.mk hc0
  clear hr0 hc0
  have H : ((impl_placeOf.f a1 a2).bind fun t225 => (if 0 ≤ t225 then (if t225 < (l0.length : Int) then (some ((rd l0 t225) == 1)) else (none)) else (none))) = some r := h
  clear h
  replace H := Option.bind_eq_some_iff.mp H
  obtain ⟨t225, A40, H⟩ := H
  replace H : (if 0 ≤ t225 then (if t225 < (l0.length : Int) then (some ((rd l0 t225) == 1)) else (none)) else (none)) = some r := H
  have A4 := Aside0.mk A40
  clear A40
  by_cases c5 : 0 ≤ t225
  · rw [if_pos c5] at H
    have c5b0 : decide (0 ≤ t225) = true := decide_eq_true c5
    clear c5
    by_cases c6 : t225 < (l0.length : Int)
    · rw [if_pos c6] at H
      have c6b0 : decide (t225 < (l0.length : Int)) = true := decide_eq_true c6
      clear c6
      obtain rfl := Option.some.inj H
      go_enter Try.func59, Try.ntmps59
      go_wp2_with (first | ((with_reducible refine gate_callee (f := 63) rfl ?_); refine goesL_ (some 10) rfl rfl Try.func63 (by kernel_rfl) rfl #[.int .i64 a1, .int .i64 a2] rfl (by (try simp only [List.map_toArray, List.map_cons, List.map_nil]); first | done | rfl | (simp only [List.length_drop, List.length_take]; rfl)) ?_; (with_reducible refine (impl_placeOf.calls a1 a2 t225 _ A4.out).mono ?_); rintro e w' ⟨rfl, ⟨nd, rfl⟩⟩; refine ⟨_, rfl, ?_⟩; have p226 : 0 ≤ (t225 : Int) := of_decide_eq_true (by first | (with_reducible assumption) | assumption); have q226 : t225 < (l0.length : Int) := of_decide_eq_true (by first | (with_reducible assumption) | assumption); obtain ⟨ad226, e226, hx226_0⟩ := Kd.at_int HR0.out t225 p226 q226; cases e226; replace p226 := eq_true p226; replace q226 := eq_true q226))
      go_ret
      exact ⟨by first | rfl | (simp; done) | (simp [*]; done), by repeat (first | exact Drawn0.refl _ | apply Drawn0.step)⟩
    · rw [if_neg c6] at H
      exact absurd H (by simp)
  · rw [if_neg c5] at H
    exact absurd H (by simp)

/-! ### impl_stays: function 75 -/
theorem iplc_all : ∀ a s : Fin 6, impl_placeOf.f (a.val : Int) (s.val : Int) = some ((a.val * (a.val + 1) / 2 + s.val : Nat) : Int) := by decide +kernel
theorem ihold {l : List Int} (hl : l.length = 21) (a s : Nat) (hs : s ≤ a) (ha : a ≤ 5) : impl_holds.f l (a : Int) (s : Int) = some (hold l a s) := by
  unfold impl_holds.f
  have hp := iplc_all ⟨a, by omega⟩ ⟨s, by omega⟩
  simp only at hp
  rw [hp]
  have hlt : a * (a + 1) / 2 + s < 21 := by rcases (show a = 0 ∨ a = 1 ∨ a = 2 ∨ a = 3 ∨ a = 4 ∨ a = 5 by omega) with rfl | rfl | rfl | rfl | rfl | rfl <;> omega
  simp only [Option.bind_some]
  rw [if_pos (by omega), if_pos (by omega)]
  unfold rd hold
  rw [Int.toNat_natCast]
theorem stay_true {t : List Int} {p : Nat → Nat → Bool} (h : ∀ a s : Nat, a < 6 → s ≤ a → (!(hold t a s) || p a s) = true) : stay t p = true := by
  unfold stay
  rw [List.all_eq_true]
  intro a ha
  rw [List.all_eq_true]
  intro s hs
  exact h a s (List.mem_range.1 ha) (by have := List.mem_range.1 hs; omega)
theorem stay_false {t : List Int} {p : Nat → Nat → Bool} (a s : Nat) (ha : a < 6) (hs : s ≤ a) (h1 : hold t a s = true) (h2 : p a s = false) : stay t p = false := by
  cases hc : stay t p with
  | false => rfl
  | true =>
    unfold stay at hc
    rw [List.all_eq_true] at hc
    have := hc a (List.mem_range.2 ha)
    rw [List.all_eq_true] at this
    have := this s (List.mem_range.2 (by omega))
    rw [h1, h2] at this
    exact absurd this (by decide)
theorem bool_re {a b : Bool} (h : a = b) : Ending.returned (.bool a) = .returned (.bool b) := by rw [h]
set_option maxHeartbeats 8000000 in
set_option maxRecDepth 100000 in
theorem impl_stays.calls (c : Nat) (caps : Array Value) (p : Nat → Nat → Bool) (A0 : Option Addr) (c0 : Nat) (l0 : List Int) (w : World) (h21 : l0.length = 21) (hr0 : Kd.C (Kd.int .i64) w A0 l0.length l0) (hc0 : l0.length ≤ c0) (hen : ∀ (args : Array Value) (wx : World), (callFunc c args).run Try.prog wx = .ok (.enter c args) wx)
    (hso : ∀ n, ∀ a s : Nat, s ≤ a → a ≤ 5 → Calls Try.prog c (#[.int .i64 a, .int .i64 s] ++ caps) (w.drewN n) fun e w' => e = .returned (.bool (p a s)) ∧ Drawn0 (w.drewN n) w') :
    Calls Try.prog 75 #[.slice A0 l0.length c0, .func (.func c) #[] caps] w fun e w' => e = .returned (.bool (stay l0 p)) ∧ Drawn0 w w' := by
  have HSO := Aside0.mk hso
  have HH := Aside0.mk (fun (n a s : Nat) (hs : s ≤ a) (ha : a ≤ 5) => impl_holds.calls A0 c0 l0 (a : Int) (s : Int) _ (w.drewN n) (Kd.C_drewN hr0 n) hc0 (ihold h21 a s hs ha))
  clear hso hr0 hc0 h21
  go_enter Try.func75, Try.ntmps75
  go_wp2
  go_loopg [7] 7 (fun kq v7 w' => ∃ (a n : Nat), v7 = .int .i64 a ∧ Aside0 (kq + a = 7 ∧ a ≤ 6 ∧ ∀ a' s' : Nat, a' < a → s' ≤ a' → (!(hold l0 a' s') || p a' s') = true) ∧ w' = w.drewN n)
  case atStart => exact ⟨0, 0, rfl, ⟨by omega, by omega, fun a' s' h => absurd h (by omega)⟩, rfl⟩
  case round =>
    obtain ⟨a, n, rfl, HA, rfl⟩ := hrel
    cases gk with
    | zero => exact absurd HA.out (by omega)
    | succ k1 =>
      by_cases ha : a < 6
      · have c5b : decide ((a : Int) < 6) = true := by simp; omega
        have E1 : Aside0 (wrap64 ((a : Int) + 1) = (a : Int) + 1) := ⟨by unfold wrap64; omega⟩
        have E1v : Aside0 (IntKind.i64.wrap ((a : Int) + 1) = (a : Int) + 1) := ⟨by rw [IntKind.wrap_i64]; omega⟩
        have HL := Aside0.mk ha
        clear ha
        have e1 := E1.out
        have e1v := E1v.out
        go_wp2
        go_loopg [12] (a + 2) (fun kq v12 w' => ∃ (s n : Nat), v12 = .int .i64 s ∧ Aside0 (kq + s = a + 2 ∧ s ≤ a + 1 ∧ ∀ s' : Nat, s' < s → (!(hold l0 a s') || p a s') = true) ∧ w' = w.drewN n)
        case atStart => exact ⟨0, n, rfl, ⟨by omega, by omega, fun s' h => absurd h (by omega)⟩, rfl⟩
        case round =>
          obtain ⟨s, m, rfl, HA2, rfl⟩ := hrel
          cases gk with
          | zero => exact absurd HA2.out (by omega)
          | succ k2 =>
            by_cases hs : s < a + 1
            · have c6b : decide ((s : Int) < (a : Int) + 1) = true := by simp; omega
              have E2 : Aside0 (wrap64 ((s : Int) + 1) = (s : Int) + 1) := ⟨by have := HL.out; unfold wrap64; omega⟩
              have HB := Aside0.mk (fun n => HH.out n a s (by omega) (by have := HL.out; omega))
              have HC := Aside0.mk (fun n => HSO.out n a s (by omega) (by have := HL.out; omega))
              have HS := Aside0.mk hs
              clear hs
              cases hX : hold l0 a s with
              | false =>
                rw [hX] at HB
                have HX := Aside0.mk hX
                clear hX
                have e2 := E2.out
                go_wp2_with (go_at_call 59; (with_reducible refine (HB.out _).mono ?_); rintro e w' ⟨rfl, ⟨nd, rfl⟩⟩; rw [World.drewN_drewN])
                go_roundg k2
                case measure => omega
                case rel =>
                  refine ⟨s + 1, _, (by go_num), ⟨by have := HA2.out.1; omega, by have := HS.out; omega, fun s' hs' => ?_⟩, rfl⟩
                  by_cases hss : s' = s
                  · subst hss; rw [HX.out]; rfl
                  · exact HA2.out.2.2 s' (by omega)
              | true =>
                rw [hX] at HB
                have HX := Aside0.mk hX
                clear hX
                cases hY : p a s with
                | true =>
                  rw [hY] at HC
                  have HY := Aside0.mk hY
                  clear hY
                  have e2 := E2.out
                  go_wp2_with (first | (go_at_call 59; (with_reducible refine (HB.out _).mono ?_); rintro e w' ⟨rfl, ⟨nd, rfl⟩⟩; rw [World.drewN_drewN]) | ((with_reducible refine (HC.out _).mono ?_); rintro e w' ⟨rfl, ⟨nd2, rfl⟩⟩; rw [World.drewN_drewN]))
                  go_roundg k2
                  case measure => omega
                  case rel =>
                    refine ⟨s + 1, _, (by go_num), ⟨by have := HA2.out.1; omega, by have := HS.out; omega, fun s' hs' => ?_⟩, rfl⟩
                    by_cases hss : s' = s
                    · subst hss; rw [HY.out]; simp
                    · exact HA2.out.2.2 s' (by omega)
                | false =>
                  rw [hY] at HC
                  have HE : Aside0 (stay l0 p = false) := ⟨stay_false a s HL.out (by have := HS.out; omega) HX.out hY⟩
                  clear hY
                  have e2 := E2.out
                  go_wp2_with (first | (go_at_call 59; (with_reducible refine (HB.out _).mono ?_); rintro e w' ⟨rfl, ⟨nd, rfl⟩⟩; rw [World.drewN_drewN]) | ((with_reducible refine (HC.out _).mono ?_); rintro e w' ⟨rfl, ⟨nd2, rfl⟩⟩; rw [World.drewN_drewN]))
                  go_ret
                  exact ⟨bool_re HE.out.symm, by repeat (first | exact Drawn0.refl _ | apply Drawn0.step)⟩
            · have c6b : decide ((s : Int) < (a : Int) + 1) = false := by simp; omega
              have es : s = a + 1 := by have := HA2.out; omega
              have HS := Aside0.mk es
              clear hs es
              go_wp2
              go_roundg k1
              case measure => omega
              case rel =>
                refine ⟨a + 1, _, (by go_num), ⟨by have := HA.out.1; omega, by have := HL.out; omega, fun a' s' ha' hs' => ?_⟩, rfl⟩
                by_cases haa : a' = a
                · subst haa; exact HA2.out.2.2 s' (by have := HS.out; omega)
                · exact HA.out.2.2 a' s' (by omega) hs'
      · have c5b : decide ((a : Int) < 6) = false := by simp; omega
        have HE : Aside0 (stay l0 p = true) := ⟨stay_true (fun a' s' ha' hs' => HA.out.2.2 a' s' (by omega) hs')⟩
        clear ha
        go_wp2
        go_ret
        exact ⟨bool_re HE.out.symm, by repeat (first | exact Drawn0.refl _ | apply Drawn0.step)⟩

/-! ### impl_moreAre: function 54 -/
def impl_moreAre.q (l0 : List Int) : Nat → Nat → Bool := fun a s => a == 5 || (hold l0 (a + 1) s && hold l0 (a + 1) (s + 1))
set_option maxHeartbeats 8000000 in
set_option maxRecDepth 100000 in
theorem impl_moreAre.inner (g : Nat) (A0 : Option Addr) (c0 : Nat) (l0 : List Int) (h21 : l0.length = 21) (a s : Nat) (w : World) (hg : w.cell? ⟨g, 0, none⟩ = some (.slice A0 l0.length c0)) (hr0 : Kd.C (Kd.int .i64) w A0 l0.length l0) (hc0 : l0.length ≤ c0) (hs : s ≤ a) (ha : a ≤ 5) :
    Calls Try.prog 76 (#[.int .i64 a, .int .i64 s] ++ #[.pointer (some ⟨g, 0, none⟩)]) w fun e w' => e = .returned (.bool (impl_moreAre.q l0 a s)) ∧ Drawn0 w w' := by
  by_cases c : a = 5
  · have HV : Aside0 (impl_moreAre.q l0 a s = true) := ⟨by simp [impl_moreAre.q, c]⟩
    have cb : ((a : Int) == 5) = true := by simp [c]
    have HR0 := Aside0.mk hr0
    clear hr0 hc0 hs ha h21 c
    go_enter Try.func76, Try.ntmps76
    go_wp2
    go_ret
    exact ⟨bool_re (by first | (rw [HV.out]; done) | (rw [HV.out]; first | rfl | (simp; done))), by repeat (first | exact Drawn0.refl _ | apply Drawn0.step)⟩
  · have HV : Aside0 (impl_moreAre.q l0 a s = (hold l0 (a + 1) s && hold l0 (a + 1) (s + 1))) := ⟨by simp [impl_moreAre.q, c]⟩
    have cb : ((a : Int) == 5) = false := by simp; omega
    have H1 := Aside0.mk (fun wx (hx : Kd.C (Kd.int .i64) wx A0 l0.length l0) => impl_holds.calls A0 c0 l0 ((a : Int) + 1) ((s : Int)) (hold l0 (a + 1) (s)) wx hx hc0 (by rw [show ((a : Int) + 1 : Int) = ((a + 1 : Nat) : Int) by omega, show ((s : Int) : Int) = ((s : Nat) : Int) by omega]; exact ihold h21 _ _ (by omega) (by omega)))
    have H2 := Aside0.mk (fun wx (hx : Kd.C (Kd.int .i64) wx A0 l0.length l0) => impl_holds.calls A0 c0 l0 ((a : Int) + 1) ((s : Int) + 1) (hold l0 (a + 1) (s + 1)) wx hx hc0 (by rw [show ((a : Int) + 1 : Int) = ((a + 1 : Nat) : Int) by omega, show ((s : Int) + 1 : Int) = ((s + 1 : Nat) : Int) by omega]; exact ihold h21 _ _ (by omega) (by omega)))
    have E1 : Aside0 (wrap64 ((a : Int) + 1) = (a : Int) + 1) := ⟨by unfold wrap64; omega⟩
    have E2 : Aside0 (wrap64 ((s : Int) + 1) = (s : Int) + 1) := ⟨by unfold wrap64; omega⟩
    obtain ⟨X, hX⟩ : ∃ X, hold l0 (a + 1) s = X := ⟨_, rfl⟩
    rw [hX] at H1 HV
    clear hX
    cases X
    all_goals
      have HR0 := Aside0.mk hr0
      clear hr0 hc0 hs ha h21 c
      have e1 := E1.out
      have e2 := E2.out
      go_enter Try.func76, Try.ntmps76
      go_wp2_with (first | (go_at_call 59; (with_reducible refine (H1.out w HR0.out).mono ?_); rintro e w' ⟨rfl, ⟨nd, rfl⟩⟩) | (go_at_call 59; (with_reducible refine (H1.out (w.drewN _) (Kd.C_drewN HR0.out _)).mono ?_); rintro e w' ⟨rfl, ⟨nd, rfl⟩⟩) | (go_at_call 59; (with_reducible refine (H2.out w HR0.out).mono ?_); rintro e w' ⟨rfl, ⟨nd, rfl⟩⟩) | (go_at_call 59; (with_reducible refine (H2.out (w.drewN _) (Kd.C_drewN HR0.out _)).mono ?_); rintro e w' ⟨rfl, ⟨nd, rfl⟩⟩))
      go_ret
      exact ⟨bool_re (by first | (rw [HV.out]; done) | (rw [HV.out]; first | rfl | (simp; done))), by repeat (first | exact Drawn0.refl _ | apply Drawn0.step)⟩
set_option maxHeartbeats 8000000 in
set_option maxRecDepth 100000 in
theorem impl_moreAre.calls (A0 : Option Addr) (c0 : Nat) (l0 : List Int) (w : World) (h21 : l0.length = 21) (hr0 : Kd.C (Kd.int .i64) w A0 l0.length l0) (hc0 : l0.length ≤ c0) :
    Calls Try.prog 54 #[.slice A0 l0.length c0] w fun e w' => e = .returned (.bool (mAre l0)) ∧ Below w.heap.size w w' := by
  have hC := Kd.C_alloc hr0 (.cells #[.slice A0 l0.length c0] 29)
  have HT := Aside0.mk (impl_stays.calls 76 #[.pointer (some ⟨w.heap.size, 0, none⟩)] (impl_moreAre.q l0) A0 c0 l0 (w.alloc (.cells #[.slice A0 l0.length c0] 29)) h21 hC hc0 (fun args wx => enters_ Try.func76 (by kernel_rfl) rfl args wx)
    (fun n a s hs ha => impl_moreAre.inner w.heap.size A0 c0 l0 h21 a s ((w.alloc (.cells #[.slice A0 l0.length c0] 29)).drewN n) (by rw [World.cell?_drewN, World.cell?_alloc_at _ _ _ _ rfl]; rfl) (Kd.C_drewN hC n) hc0 hs ha))
  clear hr0 hc0 h21 hC
  have hmf : ∀ (fn : Fn) (first cap : Array Value) (w : World), (Instr.makeFunc fn first cap).run Try.prog w = .ok (.func fn first cap) w := fun _ _ _ _ => rfl
  go_enter Try.func54, Try.ntmps54
  go_wp2_with (first | (go_at_call 75; (with_reducible refine HT.out.mono ?_); rintro e w' ⟨rfl, ⟨nd, rfl⟩⟩))
  go_ret
  exact ⟨rfl, by repeat (first | exact below_alloc (Below.refl _ _) _ | apply pw_below_drewN)⟩

/-! ### impl_fewerAre: function 55 -/
def impl_fewerAre.q (l0 : List Int) : Nat → Nat → Bool := fun a s => (s == 0 || hold l0 (a - 1) (s - 1)) && (s == a || hold l0 (a - 1) s)
set_option maxHeartbeats 8000000 in
set_option maxRecDepth 100000 in
theorem impl_fewerAre.inner (g : Nat) (A0 : Option Addr) (c0 : Nat) (l0 : List Int) (h21 : l0.length = 21) (a s : Nat) (w : World) (hg : w.cell? ⟨g, 0, none⟩ = some (.slice A0 l0.length c0)) (hr0 : Kd.C (Kd.int .i64) w A0 l0.length l0) (hc0 : l0.length ≤ c0) (hs : s ≤ a) (ha : a ≤ 5) :
    Calls Try.prog 77 (#[.int .i64 a, .int .i64 s] ++ #[.pointer (some ⟨g, 0, none⟩)]) w fun e w' => e = .returned (.bool (impl_fewerAre.q l0 a s)) ∧ Drawn0 w w' := by
  by_cases c : s = 0
  · by_cases d : s = a
    · skip
      have cb : ((s : Int) == 0) = true := by simp; omega
      have cb2 : ((s : Int) == (a : Int)) = true := by simp; omega
      have hz : (s == 0) = true := by simp [c]
      have he : (s == a) = true := by simp [d]
      have HV : Aside0 (impl_fewerAre.q l0 a s = (true && true)) := ⟨by unfold impl_fewerAre.q; simp only [hz, he, Bool.true_or, Bool.false_or]⟩
      clear hz he
      have E1 : Aside0 (wrap64 ((a : Int) - 1) = (a : Int) - 1) := ⟨by unfold wrap64; omega⟩
      have E2 : Aside0 (wrap64 ((s : Int) - 1) = (s : Int) - 1) := ⟨by unfold wrap64; omega⟩
      have HR0 := Aside0.mk hr0
      clear hr0 hc0 hs ha h21 c d
      have e1 := E1.out
      have e2 := E2.out
      go_enter Try.func77, Try.ntmps77
      go_wp2
      go_ret
      exact ⟨bool_re (by first | (rw [HV.out]; done) | (rw [HV.out]; first | rfl | (simp; done))), by repeat (first | exact Drawn0.refl _ | apply Drawn0.step)⟩
    · skip
      have cb : ((s : Int) == 0) = true := by simp; omega
      have cb2 : ((s : Int) == (a : Int)) = false := by simp; omega
      have hz : (s == 0) = true := by simp [c]
      have he : (s == a) = false := by simp [d]
      have HV : Aside0 (impl_fewerAre.q l0 a s = (true && hold l0 (a - 1) s)) := ⟨by unfold impl_fewerAre.q; simp only [hz, he, Bool.true_or, Bool.false_or]⟩
      clear hz he
      have H2 := Aside0.mk (fun wx (hx : Kd.C (Kd.int .i64) wx A0 l0.length l0) => impl_holds.calls A0 c0 l0 ((a : Int) - 1) ((s : Int)) (hold l0 (a - 1) (s)) wx hx hc0 (by rw [show ((a : Int) - 1 : Int) = ((a - 1 : Nat) : Int) by omega, show ((s : Int) : Int) = ((s : Nat) : Int) by omega]; exact ihold h21 _ _ (by omega) (by omega)))
      have E1 : Aside0 (wrap64 ((a : Int) - 1) = (a : Int) - 1) := ⟨by unfold wrap64; omega⟩
      have E2 : Aside0 (wrap64 ((s : Int) - 1) = (s : Int) - 1) := ⟨by unfold wrap64; omega⟩
      have HR0 := Aside0.mk hr0
      clear hr0 hc0 hs ha h21 c d
      have e1 := E1.out
      have e2 := E2.out
      go_enter Try.func77, Try.ntmps77
      go_wp2_with (first | (go_at_call 59; (with_reducible refine (H2.out w HR0.out).mono ?_); rintro e w' ⟨rfl, ⟨nd, rfl⟩⟩) | (go_at_call 59; (with_reducible refine (H2.out (w.drewN _) (Kd.C_drewN HR0.out _)).mono ?_); rintro e w' ⟨rfl, ⟨nd, rfl⟩⟩))
      go_ret
      exact ⟨bool_re (by first | (rw [HV.out]; done) | (rw [HV.out]; first | rfl | (simp; done))), by repeat (first | exact Drawn0.refl _ | apply Drawn0.step)⟩
  · by_cases d : s = a
    · skip
      have cb : ((s : Int) == 0) = false := by simp; omega
      have cb2 : ((s : Int) == (a : Int)) = true := by simp; omega
      have hz : (s == 0) = false := by simp [c]
      have he : (s == a) = true := by simp [d]
      have HV : Aside0 (impl_fewerAre.q l0 a s = (hold l0 (a - 1) (s - 1) && true)) := ⟨by unfold impl_fewerAre.q; simp only [hz, he, Bool.true_or, Bool.false_or]⟩
      clear hz he
      have H1 := Aside0.mk (fun wx (hx : Kd.C (Kd.int .i64) wx A0 l0.length l0) => impl_holds.calls A0 c0 l0 ((a : Int) - 1) ((s : Int) - 1) (hold l0 (a - 1) (s - 1)) wx hx hc0 (by rw [show ((a : Int) - 1 : Int) = ((a - 1 : Nat) : Int) by omega, show ((s : Int) - 1 : Int) = ((s - 1 : Nat) : Int) by omega]; exact ihold h21 _ _ (by omega) (by omega)))
      have E1 : Aside0 (wrap64 ((a : Int) - 1) = (a : Int) - 1) := ⟨by unfold wrap64; omega⟩
      have E2 : Aside0 (wrap64 ((s : Int) - 1) = (s : Int) - 1) := ⟨by unfold wrap64; omega⟩
      obtain ⟨X, hX⟩ : ∃ X, hold l0 (a - 1) (s - 1) = X := ⟨_, rfl⟩
      rw [hX] at H1 HV
      clear hX
      cases X
      all_goals
        have HR0 := Aside0.mk hr0
        clear hr0 hc0 hs ha h21 c d
        have e1 := E1.out
        have e2 := E2.out
        go_enter Try.func77, Try.ntmps77
        go_wp2_with (first | (go_at_call 59; (with_reducible refine (H1.out w HR0.out).mono ?_); rintro e w' ⟨rfl, ⟨nd, rfl⟩⟩) | (go_at_call 59; (with_reducible refine (H1.out (w.drewN _) (Kd.C_drewN HR0.out _)).mono ?_); rintro e w' ⟨rfl, ⟨nd, rfl⟩⟩))
        go_ret
        exact ⟨bool_re (by first | (rw [HV.out]; done) | (rw [HV.out]; first | rfl | (simp; done))), by repeat (first | exact Drawn0.refl _ | apply Drawn0.step)⟩
    · skip
      have cb : ((s : Int) == 0) = false := by simp; omega
      have cb2 : ((s : Int) == (a : Int)) = false := by simp; omega
      have hz : (s == 0) = false := by simp [c]
      have he : (s == a) = false := by simp [d]
      have HV : Aside0 (impl_fewerAre.q l0 a s = (hold l0 (a - 1) (s - 1) && hold l0 (a - 1) s)) := ⟨by unfold impl_fewerAre.q; simp only [hz, he, Bool.true_or, Bool.false_or]⟩
      clear hz he
      have H1 := Aside0.mk (fun wx (hx : Kd.C (Kd.int .i64) wx A0 l0.length l0) => impl_holds.calls A0 c0 l0 ((a : Int) - 1) ((s : Int) - 1) (hold l0 (a - 1) (s - 1)) wx hx hc0 (by rw [show ((a : Int) - 1 : Int) = ((a - 1 : Nat) : Int) by omega, show ((s : Int) - 1 : Int) = ((s - 1 : Nat) : Int) by omega]; exact ihold h21 _ _ (by omega) (by omega)))
      have H2 := Aside0.mk (fun wx (hx : Kd.C (Kd.int .i64) wx A0 l0.length l0) => impl_holds.calls A0 c0 l0 ((a : Int) - 1) ((s : Int)) (hold l0 (a - 1) (s)) wx hx hc0 (by rw [show ((a : Int) - 1 : Int) = ((a - 1 : Nat) : Int) by omega, show ((s : Int) : Int) = ((s : Nat) : Int) by omega]; exact ihold h21 _ _ (by omega) (by omega)))
      have E1 : Aside0 (wrap64 ((a : Int) - 1) = (a : Int) - 1) := ⟨by unfold wrap64; omega⟩
      have E2 : Aside0 (wrap64 ((s : Int) - 1) = (s : Int) - 1) := ⟨by unfold wrap64; omega⟩
      obtain ⟨X, hX⟩ : ∃ X, hold l0 (a - 1) (s - 1) = X := ⟨_, rfl⟩
      rw [hX] at H1 HV
      clear hX
      cases X
      all_goals
        have HR0 := Aside0.mk hr0
        clear hr0 hc0 hs ha h21 c d
        have e1 := E1.out
        have e2 := E2.out
        go_enter Try.func77, Try.ntmps77
        go_wp2_with (first | (go_at_call 59; (with_reducible refine (H1.out w HR0.out).mono ?_); rintro e w' ⟨rfl, ⟨nd, rfl⟩⟩) | (go_at_call 59; (with_reducible refine (H1.out (w.drewN _) (Kd.C_drewN HR0.out _)).mono ?_); rintro e w' ⟨rfl, ⟨nd, rfl⟩⟩) | (go_at_call 59; (with_reducible refine (H2.out w HR0.out).mono ?_); rintro e w' ⟨rfl, ⟨nd, rfl⟩⟩) | (go_at_call 59; (with_reducible refine (H2.out (w.drewN _) (Kd.C_drewN HR0.out _)).mono ?_); rintro e w' ⟨rfl, ⟨nd, rfl⟩⟩))
        go_ret
        exact ⟨bool_re (by first | (rw [HV.out]; done) | (rw [HV.out]; first | rfl | (simp; done))), by repeat (first | exact Drawn0.refl _ | apply Drawn0.step)⟩
set_option maxHeartbeats 8000000 in
set_option maxRecDepth 100000 in
theorem impl_fewerAre.calls (A0 : Option Addr) (c0 : Nat) (l0 : List Int) (w : World) (h21 : l0.length = 21) (hr0 : Kd.C (Kd.int .i64) w A0 l0.length l0) (hc0 : l0.length ≤ c0) :
    Calls Try.prog 55 #[.slice A0 l0.length c0] w fun e w' => e = .returned (.bool (fAre l0)) ∧ Below w.heap.size w w' := by
  have hC := Kd.C_alloc hr0 (.cells #[.slice A0 l0.length c0] 29)
  have HT := Aside0.mk (impl_stays.calls 77 #[.pointer (some ⟨w.heap.size, 0, none⟩)] (impl_fewerAre.q l0) A0 c0 l0 (w.alloc (.cells #[.slice A0 l0.length c0] 29)) h21 hC hc0 (fun args wx => enters_ Try.func77 (by kernel_rfl) rfl args wx)
    (fun n a s hs ha => impl_fewerAre.inner w.heap.size A0 c0 l0 h21 a s ((w.alloc (.cells #[.slice A0 l0.length c0] 29)).drewN n) (by rw [World.cell?_drewN, World.cell?_alloc_at _ _ _ _ rfl]; rfl) (Kd.C_drewN hC n) hc0 hs ha))
  clear hr0 hc0 h21 hC
  have hmf : ∀ (fn : Fn) (first cap : Array Value) (w : World), (Instr.makeFunc fn first cap).run Try.prog w = .ok (.func fn first cap) w := fun _ _ _ _ => rfl
  go_enter Try.func55, Try.ntmps55
  go_wp2_with (first | (go_at_call 75; (with_reducible refine HT.out.mono ?_); rintro e w' ⟨rfl, ⟨nd, rfl⟩⟩))
  go_ret
  exact ⟨rfl, by repeat (first | exact below_alloc (Below.refl _ _) _ | apply pw_below_drewN)⟩

/-! ### impl_moreDo: function 56 -/
def impl_moreDo.q (l0 : List Int) : Nat → Nat → Bool := fun a s => s == a || hold l0 a (s + 1)
set_option maxHeartbeats 8000000 in
set_option maxRecDepth 100000 in
theorem impl_moreDo.inner (g : Nat) (A0 : Option Addr) (c0 : Nat) (l0 : List Int) (h21 : l0.length = 21) (a s : Nat) (w : World) (hg : w.cell? ⟨g, 0, none⟩ = some (.slice A0 l0.length c0)) (hr0 : Kd.C (Kd.int .i64) w A0 l0.length l0) (hc0 : l0.length ≤ c0) (hs : s ≤ a) (ha : a ≤ 5) :
    Calls Try.prog 78 (#[.int .i64 a, .int .i64 s] ++ #[.pointer (some ⟨g, 0, none⟩)]) w fun e w' => e = .returned (.bool (impl_moreDo.q l0 a s)) ∧ Drawn0 w w' := by
  by_cases c : s = a
  · have HV : Aside0 (impl_moreDo.q l0 a s = true) := ⟨by simp [impl_moreDo.q, c]⟩
    have cb : ((s : Int) == (a : Int)) = true := by simp [c]
    have HR0 := Aside0.mk hr0
    clear hr0 hc0 hs ha h21 c
    go_enter Try.func78, Try.ntmps78
    go_wp2
    go_ret
    exact ⟨bool_re (by first | (rw [HV.out]; done) | (rw [HV.out]; first | rfl | (simp; done))), by repeat (first | exact Drawn0.refl _ | apply Drawn0.step)⟩
  · have HV : Aside0 (impl_moreDo.q l0 a s = hold l0 a (s + 1)) := ⟨by simp [impl_moreDo.q, c]⟩
    have cb : ((s : Int) == (a : Int)) = false := by simp; omega
    have H1 := Aside0.mk (fun wx (hx : Kd.C (Kd.int .i64) wx A0 l0.length l0) => impl_holds.calls A0 c0 l0 ((a : Int)) ((s : Int) + 1) (hold l0 (a) (s + 1)) wx hx hc0 (by rw [show ((a : Int) : Int) = ((a : Nat) : Int) by omega, show ((s : Int) + 1 : Int) = ((s + 1 : Nat) : Int) by omega]; exact ihold h21 _ _ (by omega) (by omega)))
    have E1 : Aside0 (wrap64 ((s : Int) + 1) = (s : Int) + 1) := ⟨by unfold wrap64; omega⟩
    have HR0 := Aside0.mk hr0
    clear hr0 hc0 hs ha h21 c
    have e1 := E1.out
    go_enter Try.func78, Try.ntmps78
    go_wp2_with (first | (go_at_call 59; (with_reducible refine (H1.out w HR0.out).mono ?_); rintro e w' ⟨rfl, ⟨nd, rfl⟩⟩) | (go_at_call 59; (with_reducible refine (H1.out (w.drewN _) (Kd.C_drewN HR0.out _)).mono ?_); rintro e w' ⟨rfl, ⟨nd, rfl⟩⟩))
    go_ret
    exact ⟨bool_re (by first | (rw [HV.out]; done) | (rw [HV.out]; first | rfl | (simp; done))), by repeat (first | exact Drawn0.refl _ | apply Drawn0.step)⟩
set_option maxHeartbeats 8000000 in
set_option maxRecDepth 100000 in
theorem impl_moreDo.calls (A0 : Option Addr) (c0 : Nat) (l0 : List Int) (w : World) (h21 : l0.length = 21) (hr0 : Kd.C (Kd.int .i64) w A0 l0.length l0) (hc0 : l0.length ≤ c0) :
    Calls Try.prog 56 #[.slice A0 l0.length c0] w fun e w' => e = .returned (.bool (mDo l0)) ∧ Below w.heap.size w w' := by
  have hC := Kd.C_alloc hr0 (.cells #[.slice A0 l0.length c0] 29)
  have HT := Aside0.mk (impl_stays.calls 78 #[.pointer (some ⟨w.heap.size, 0, none⟩)] (impl_moreDo.q l0) A0 c0 l0 (w.alloc (.cells #[.slice A0 l0.length c0] 29)) h21 hC hc0 (fun args wx => enters_ Try.func78 (by kernel_rfl) rfl args wx)
    (fun n a s hs ha => impl_moreDo.inner w.heap.size A0 c0 l0 h21 a s ((w.alloc (.cells #[.slice A0 l0.length c0] 29)).drewN n) (by rw [World.cell?_drewN, World.cell?_alloc_at _ _ _ _ rfl]; rfl) (Kd.C_drewN hC n) hc0 hs ha))
  clear hr0 hc0 h21 hC
  have hmf : ∀ (fn : Fn) (first cap : Array Value) (w : World), (Instr.makeFunc fn first cap).run Try.prog w = .ok (.func fn first cap) w := fun _ _ _ _ => rfl
  go_enter Try.func56, Try.ntmps56
  go_wp2_with (first | (go_at_call 75; (with_reducible refine HT.out.mono ?_); rintro e w' ⟨rfl, ⟨nd, rfl⟩⟩))
  go_ret
  exact ⟨rfl, by repeat (first | exact below_alloc (Below.refl _ _) _ | apply pw_below_drewN)⟩

/-! ### impl_fewerDo: function 57 -/
def impl_fewerDo.q (l0 : List Int) : Nat → Nat → Bool := fun a s => s == 0 || hold l0 a (s - 1)
set_option maxHeartbeats 8000000 in
set_option maxRecDepth 100000 in
theorem impl_fewerDo.inner (g : Nat) (A0 : Option Addr) (c0 : Nat) (l0 : List Int) (h21 : l0.length = 21) (a s : Nat) (w : World) (hg : w.cell? ⟨g, 0, none⟩ = some (.slice A0 l0.length c0)) (hr0 : Kd.C (Kd.int .i64) w A0 l0.length l0) (hc0 : l0.length ≤ c0) (hs : s ≤ a) (ha : a ≤ 5) :
    Calls Try.prog 79 (#[.int .i64 a, .int .i64 s] ++ #[.pointer (some ⟨g, 0, none⟩)]) w fun e w' => e = .returned (.bool (impl_fewerDo.q l0 a s)) ∧ Drawn0 w w' := by
  by_cases c : s = 0
  · have HV : Aside0 (impl_fewerDo.q l0 a s = true) := ⟨by simp [impl_fewerDo.q, c]⟩
    have cb : ((s : Int) == 0) = true := by simp [c]
    have HR0 := Aside0.mk hr0
    clear hr0 hc0 hs ha h21 c
    go_enter Try.func79, Try.ntmps79
    go_wp2
    go_ret
    exact ⟨bool_re (by first | (rw [HV.out]; done) | (rw [HV.out]; first | rfl | (simp; done))), by repeat (first | exact Drawn0.refl _ | apply Drawn0.step)⟩
  · have HV : Aside0 (impl_fewerDo.q l0 a s = hold l0 a (s - 1)) := ⟨by simp [impl_fewerDo.q, c]⟩
    have cb : ((s : Int) == 0) = false := by simp; omega
    have H1 := Aside0.mk (fun wx (hx : Kd.C (Kd.int .i64) wx A0 l0.length l0) => impl_holds.calls A0 c0 l0 ((a : Int)) ((s : Int) - 1) (hold l0 (a) (s - 1)) wx hx hc0 (by rw [show ((a : Int) : Int) = ((a : Nat) : Int) by omega, show ((s : Int) - 1 : Int) = ((s - 1 : Nat) : Int) by omega]; exact ihold h21 _ _ (by omega) (by omega)))
    have E1 : Aside0 (wrap64 ((s : Int) - 1) = (s : Int) - 1) := ⟨by unfold wrap64; omega⟩
    have HR0 := Aside0.mk hr0
    clear hr0 hc0 hs ha h21 c
    have e1 := E1.out
    go_enter Try.func79, Try.ntmps79
    go_wp2_with (first | (go_at_call 59; (with_reducible refine (H1.out w HR0.out).mono ?_); rintro e w' ⟨rfl, ⟨nd, rfl⟩⟩) | (go_at_call 59; (with_reducible refine (H1.out (w.drewN _) (Kd.C_drewN HR0.out _)).mono ?_); rintro e w' ⟨rfl, ⟨nd, rfl⟩⟩))
    go_ret
    exact ⟨bool_re (by first | (rw [HV.out]; done) | (rw [HV.out]; first | rfl | (simp; done))), by repeat (first | exact Drawn0.refl _ | apply Drawn0.step)⟩
set_option maxHeartbeats 8000000 in
set_option maxRecDepth 100000 in
theorem impl_fewerDo.calls (A0 : Option Addr) (c0 : Nat) (l0 : List Int) (w : World) (h21 : l0.length = 21) (hr0 : Kd.C (Kd.int .i64) w A0 l0.length l0) (hc0 : l0.length ≤ c0) :
    Calls Try.prog 57 #[.slice A0 l0.length c0] w fun e w' => e = .returned (.bool (fDo l0)) ∧ Below w.heap.size w w' := by
  have hC := Kd.C_alloc hr0 (.cells #[.slice A0 l0.length c0] 29)
  have HT := Aside0.mk (impl_stays.calls 79 #[.pointer (some ⟨w.heap.size, 0, none⟩)] (impl_fewerDo.q l0) A0 c0 l0 (w.alloc (.cells #[.slice A0 l0.length c0] 29)) h21 hC hc0 (fun args wx => enters_ Try.func79 (by kernel_rfl) rfl args wx)
    (fun n a s hs ha => impl_fewerDo.inner w.heap.size A0 c0 l0 h21 a s ((w.alloc (.cells #[.slice A0 l0.length c0] 29)).drewN n) (by rw [World.cell?_drewN, World.cell?_alloc_at _ _ _ _ rfl]; rfl) (Kd.C_drewN hC n) hc0 hs ha))
  clear hr0 hc0 h21 hC
  have hmf : ∀ (fn : Fn) (first cap : Array Value) (w : World), (Instr.makeFunc fn first cap).run Try.prog w = .ok (.func fn first cap) w := fun _ _ _ _ => rfl
  go_enter Try.func57, Try.ntmps57
  go_wp2_with (first | (go_at_call 75; (with_reducible refine HT.out.mono ?_); rintro e w' ⟨rfl, ⟨nd, rfl⟩⟩))
  go_ret
  exact ⟨rfl, by repeat (first | exact below_alloc (Below.refl _ _) _ | apply pw_below_drewN)⟩

end Go.Proofs.Ytfjfdnododnepaa.PFnExactMarksOf
