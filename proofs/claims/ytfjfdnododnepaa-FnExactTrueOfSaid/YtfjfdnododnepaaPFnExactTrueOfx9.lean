-- Written by a program of this session (wip/patch_print.py, over the kit's print) and not by hand; Lean checks every word.
import Derived.Test.YtfjfdnododnepaaPFnExactTrueOfx0
import Derived.Test.YtfjfdnododnepaaPFnExactTrueOfx1
import Derived.Test.YtfjfdnododnepaaPFnExactTrueOfx3
import Derived.Test.YtfjfdnododnepaaPFnExactTrueOfx5
import Derived.Test.YtfjfdnododnepaaPFnExactTrueOfx7
import Derived.Test.YtfjfdnododnepaaPFnExactTrueOfx8
namespace Go.Proofs.Ytfjfdnododnepaa.PFnExactTrueOf
open Go.RowKit Go.Proofs.YtfjfdnododnepaaW.PrintWords Go.Proofs.YtfjfdnododnepaaW.PrintLast Go.Proofs.YtfjfdnododnepaaW.PrintMore
attribute [local go_sem] max2_int min2_int max_two min_two max_three min_three max_four min_four   -- for this text's walks alone
set_option linter.unusedVariables false
set_option linter.unusedSimpArgs false

/-! ### spec_SentenceOk: function 13 -/
def spec_SentenceOk.f (a0 : ByteArray) : Option (Bool) := if a0.size ≤ 17000000000000 then some (pread a0).isSome else none
theorem zeros_sets : Sets [0, 0, 0, 0] := setsOk_sets (by decide)
set_option maxHeartbeats 8000000 in
set_option maxRecDepth 100000 in
theorem spec_SentenceOk.calls (a0 : ByteArray) (r : Bool) (w : World) (h : spec_SentenceOk.f a0 = some r) :
    Calls Try.prog 13 #[.string a0] w fun e w' => e = .returned (.bool r) ∧ Below w.heap.size w w' := by
  unfold spec_SentenceOk.f at h
  split at h
  case isFalse => cases h
  rename_i hsz
  obtain rfl := Option.some.inj h
  clear h
  have HB := Aside0.mk (Below.refl w.heap.size w)
  obtain ⟨y203, hy203⟩ : ∃ y_ : List Int, y_ = (([0, 0, 0, 0] : List Int)) := ⟨_, rfl⟩
  obtain ⟨y206, hy206⟩ : ∃ y_ : List Int, y_ = (([] : List Int)) := ⟨_, rfl⟩
  obtain ⟨R, hR⟩ : ∃ R, qres y203 1 y206 (psent (a0.size + 1) a0 0) = R := ⟨_, rfl⟩
  have HX : ∀ (A : Option Addr) (c : Nat), y203.length ≤ c → ∀ (wx : World) (P : Nat → Prop) (u : Value), Below w.heap.size w wx → (∀ W_, Kept wx W_ P → Kd.C (Kd.int .i64) W_ A y203.length y203) → Kd.R (Kd.int .i64) 3 wx w.heap.size P u y206 → Calls Try.prog 32 #[.slice A y203.length c, .string a0, .int .i64 0, .int .i64 1, u] wx (PostQ w wx P R) := fun A c hc wx P u hb hs hr => by
    have := spec_l7Read.walk a0 (by omega) y203 (by rw [hy203]; exact zeros_sets) A c hc w (a0.size + 1) 0 1 y206 u P wx (by omega) (by omega) (by decide) (by decide) (by rw [hy206]; simp; omega) hb hs hr
    rw [hR] at this
    exact this
  have Ny203 := Aside0.mk hy203
  have Ny206 := Aside0.mk hy206
  have HSZ := Aside0.mk hsz
  replace HX := Aside0.mk HX
  clear hy203 hy206 hsz
  cases hp : psent (a0.size + 1) a0 0 with
  | none =>
    have hpr : (pread a0).isSome = false := by unfold pread; rw [hp]; split <;> rfl
    have HE : Aside0 (R = none) := ⟨by rw [← hR, hp]; rfl⟩
    rw [hpr]
    have hne : ((-1 : Int) == (a0.size : Int)) = false := by rw [beq_eq_false_iff_ne]; omega
    clear hR hp hpr
    go_enter Try.func13, Try.ntmps13
    go_wp2_with (first | ((with_reducible refine gate_dst (N := 7) rfl ?_); refine Kd.R_lit (Kd.int .i64) _ 3 ?hg (N := 7) ?hd (xs := ([0, 0, 0, 0] : List Int)) (inner := [.int .i64 0, .int .i64 0, .int .i64 0, .int .i64 0]) (ok := fun _ => True) (okp := fun _ => True) ?hr ?hp (fun _ hk => hk) trivial (Below.refl _ _) (Nat.le_refl _) (by simp) ?_; (case hd => rfl); (case hg => rfl); (case hr => first | (go_simp; done) | (go_simp; rfl)); (case hp => exact (Reps.one (show Kd.M (Kd.int .i64) _ _ _ 0 [.int .i64 0] from rfl) (Reps.one (show Kd.M (Kd.int .i64) _ _ _ 0 [.int .i64 0] from rfl) (Reps.one (show Kd.M (Kd.int .i64) _ _ _ 0 [.int .i64 0] from rfl) (Reps.one (show Kd.M (Kd.int .i64) _ _ _ 0 [.int .i64 0] from rfl) (Reps.none _ _)))))); intro v204 w6 ho7 hb hg_ hnew_; clear hg_ hnew_; rw [← Ny203.out] at ho7; have n1_ := Aside0.mk (below_step (by repeat (first | (with_reducible first | exact HB.out | apply below_alloc | apply pw_below_drewN | apply below_drew1) | exact HB.out)) hb); have HO205 := Aside0.mk (Kd.R_lower ho7 (below_size (by repeat (first | (with_reducible first | exact HB.out | apply below_alloc | apply pw_below_drewN | apply below_drew1) | exact HB.out)))); clear HB; have HB := n1_; clear n1_ hb ho7) | ((with_reducible refine gate_dst (N := 9) rfl ?_); refine Kd.R_lit (Kd.int .i64) _ 3 ?hg (N := 9) ?hd (xs := ([] : List Int)) (inner := []) (ok := fun _ => True) (okp := fun _ => True) ?hr ?hp (fun _ hk => hk) trivial (Below.refl _ _) (Nat.le_refl _) (by simp) ?_; (case hd => rfl); (case hg => rfl); (case hr => first | (go_simp; done) | (go_simp; rfl)); (case hp => exact (Reps.none _ _)); intro v207 w8 ho9 hb hg_ hnew_; clear hg_ hnew_; rw [← Ny206.out] at ho9; have n0_ := Aside0.mk (Kd.R_elder' (by (with_reducible repeat (first | apply Kd.R_alloc | apply Kd.R_drewN | apply Kd.R_drew)); exact HO205.out) (Kd.R_base ho9) hb); have n1_ := Aside0.mk (Kd.R_lower (Kd.R_new' ho9 (Kd.R_lt (by (with_reducible repeat (first | apply Kd.R_alloc | apply Kd.R_drewN | apply Kd.R_drew)); exact HO205.out))) (below_size (by repeat (first | (with_reducible first | exact HB.out | apply below_alloc | apply pw_below_drewN | apply below_drew1) | exact HB.out)))); have n2_ := Aside0.mk (below_step (by repeat (first | (with_reducible first | exact HB.out | apply below_alloc | apply pw_below_drewN | apply below_drew1) | exact HB.out)) hb); clear HO205; clear HB; have HO205 := n0_; have HO208 := n1_; have HB := n2_; clear n0_ n1_ n2_; clear hb ho9; obtain ⟨Ao10, co10, eo10⟩ := Kd.R_slice HO205.out; subst eo10; obtain ⟨Ao11, co11, eo11⟩ := Kd.R_slice HO208.out; subst eo11) | (have HY := (HX.out Ao10 co10 (Kd.R_reads' HO205.out).2.1 _ (fun k_ => some k_ = (.slice Ao11 y206.length co11 : Value).ownBlock) (.slice Ao11 y206.length co11) HB.out (Kd.C_kept_own (HO205.out) (fun k_ hk_ hs_ => (hk_.2) hs_)) (Kd.R_tight rfl HO208.out)); (with_reducible refine HY.mono ?_); clear HY; rintro e3 w12 hq3; rw [HE.out] at hq3; obtain ⟨hb3, hk3, x3, v3, rfl⟩ := hq3; have HB3 := Aside0.mk hb3))
    all_goals
      go_ret
      exact ⟨by first | rfl | (simp; done) | (simp [*]; done), HB3.out⟩
  | some r =>
    obtain ⟨p, e⟩ := r
    have hpl := psent_place a0 _ 0 p e (by omega) hp
    have HE : Aside0 (R = some (truv y203 p, y206 ++ sgns 1 p, e)) := ⟨by rw [← hR, hp]; rfl⟩
    have hpr : (pread a0).isSome = decide (a0.size ≤ 80 ∧ e = a0.size) := by
      unfold pread
      rw [hp]
      by_cases c : (a0.size : Int) > 80
      · rw [if_pos c]; simp; omega
      · rw [if_neg c]
        by_cases ce : e = a0.size
        · simp only; rw [if_pos ce]; simp; omega
        · simp only; rw [if_neg ce]; simp; omega
    rw [hpr]
    clear hR hp hpr
    have hsz := HSZ.out
    have hpos : 0 < a0.size := by omega
    have f1 : decide (0 < (a0.size : Int)) = true := decide_eq_true (by omega)
    have f1' : decide (0 < a0.size) = true := decide_eq_true hpos
    have HP := Aside0.mk hpos
    by_cases c : a0.size ≤ 80
    · have f2 : decide ((a0.size : Int) ≤ 80) = true := decide_eq_true (by omega)
      have f2' : decide (a0.size ≤ 80) = true := decide_eq_true c
      by_cases ce : e = a0.size
      · have f3 : ((e : Int) == (a0.size : Int)) = true := by rw [beq_iff_eq]; omega
        rw [show decide (a0.size ≤ 80 ∧ e = a0.size) = true from decide_eq_true ⟨c, ce⟩]
        clear hpl hsz hpos c ce
        go_enter Try.func13, Try.ntmps13
        go_wp2_with (first | ((with_reducible refine gate_dst (N := 7) rfl ?_); refine Kd.R_lit (Kd.int .i64) _ 3 ?hg (N := 7) ?hd (xs := ([0, 0, 0, 0] : List Int)) (inner := [.int .i64 0, .int .i64 0, .int .i64 0, .int .i64 0]) (ok := fun _ => True) (okp := fun _ => True) ?hr ?hp (fun _ hk => hk) trivial (Below.refl _ _) (Nat.le_refl _) (by simp) ?_; (case hd => rfl); (case hg => rfl); (case hr => first | (go_simp; done) | (go_simp; rfl)); (case hp => exact (Reps.one (show Kd.M (Kd.int .i64) _ _ _ 0 [.int .i64 0] from rfl) (Reps.one (show Kd.M (Kd.int .i64) _ _ _ 0 [.int .i64 0] from rfl) (Reps.one (show Kd.M (Kd.int .i64) _ _ _ 0 [.int .i64 0] from rfl) (Reps.one (show Kd.M (Kd.int .i64) _ _ _ 0 [.int .i64 0] from rfl) (Reps.none _ _)))))); intro v204 w6 ho7 hb hg_ hnew_; clear hg_ hnew_; rw [← Ny203.out] at ho7; have n1_ := Aside0.mk (below_step (by repeat (first | (with_reducible first | exact HB.out | apply below_alloc | apply pw_below_drewN | apply below_drew1) | exact HB.out)) hb); have HO205 := Aside0.mk (Kd.R_lower ho7 (below_size (by repeat (first | (with_reducible first | exact HB.out | apply below_alloc | apply pw_below_drewN | apply below_drew1) | exact HB.out)))); clear HB; have HB := n1_; clear n1_ hb ho7) | ((with_reducible refine gate_dst (N := 9) rfl ?_); refine Kd.R_lit (Kd.int .i64) _ 3 ?hg (N := 9) ?hd (xs := ([] : List Int)) (inner := []) (ok := fun _ => True) (okp := fun _ => True) ?hr ?hp (fun _ hk => hk) trivial (Below.refl _ _) (Nat.le_refl _) (by simp) ?_; (case hd => rfl); (case hg => rfl); (case hr => first | (go_simp; done) | (go_simp; rfl)); (case hp => exact (Reps.none _ _)); intro v207 w8 ho9 hb hg_ hnew_; clear hg_ hnew_; rw [← Ny206.out] at ho9; have n0_ := Aside0.mk (Kd.R_elder' (by (with_reducible repeat (first | apply Kd.R_alloc | apply Kd.R_drewN | apply Kd.R_drew)); exact HO205.out) (Kd.R_base ho9) hb); have n1_ := Aside0.mk (Kd.R_lower (Kd.R_new' ho9 (Kd.R_lt (by (with_reducible repeat (first | apply Kd.R_alloc | apply Kd.R_drewN | apply Kd.R_drew)); exact HO205.out))) (below_size (by repeat (first | (with_reducible first | exact HB.out | apply below_alloc | apply pw_below_drewN | apply below_drew1) | exact HB.out)))); have n2_ := Aside0.mk (below_step (by repeat (first | (with_reducible first | exact HB.out | apply below_alloc | apply pw_below_drewN | apply below_drew1) | exact HB.out)) hb); clear HO205; clear HB; have HO205 := n0_; have HO208 := n1_; have HB := n2_; clear n0_ n1_ n2_; clear hb ho9; obtain ⟨Ao10, co10, eo10⟩ := Kd.R_slice HO205.out; subst eo10; obtain ⟨Ao11, co11, eo11⟩ := Kd.R_slice HO208.out; subst eo11) | (have HY := (HX.out Ao10 co10 (Kd.R_reads' HO205.out).2.1 _ (fun k_ => some k_ = (.slice Ao11 y206.length co11 : Value).ownBlock) (.slice Ao11 y206.length co11) HB.out (Kd.C_kept_own (HO205.out) (fun k_ hk_ hs_ => (hk_.2) hs_)) (Kd.R_tight rfl HO208.out)); (with_reducible refine HY.mono ?_); clear HY; rintro e3 w12 hq3; rw [HE.out] at hq3; obtain ⟨hb3, hk3, v3, rfl, hr3⟩ := hq3; have HB3 := Aside0.mk hb3))
        go_ret
        exact ⟨by first | rfl | (simp; done), HB3.out⟩
      · have f3 : ((e : Int) == (a0.size : Int)) = false := by rw [beq_eq_false_iff_ne]; omega
        rw [show decide (a0.size ≤ 80 ∧ e = a0.size) = false from decide_eq_false (fun h => ce h.2)]
        clear hpl hsz hpos c ce
        go_enter Try.func13, Try.ntmps13
        go_wp2_with (first | ((with_reducible refine gate_dst (N := 7) rfl ?_); refine Kd.R_lit (Kd.int .i64) _ 3 ?hg (N := 7) ?hd (xs := ([0, 0, 0, 0] : List Int)) (inner := [.int .i64 0, .int .i64 0, .int .i64 0, .int .i64 0]) (ok := fun _ => True) (okp := fun _ => True) ?hr ?hp (fun _ hk => hk) trivial (Below.refl _ _) (Nat.le_refl _) (by simp) ?_; (case hd => rfl); (case hg => rfl); (case hr => first | (go_simp; done) | (go_simp; rfl)); (case hp => exact (Reps.one (show Kd.M (Kd.int .i64) _ _ _ 0 [.int .i64 0] from rfl) (Reps.one (show Kd.M (Kd.int .i64) _ _ _ 0 [.int .i64 0] from rfl) (Reps.one (show Kd.M (Kd.int .i64) _ _ _ 0 [.int .i64 0] from rfl) (Reps.one (show Kd.M (Kd.int .i64) _ _ _ 0 [.int .i64 0] from rfl) (Reps.none _ _)))))); intro v204 w6 ho7 hb hg_ hnew_; clear hg_ hnew_; rw [← Ny203.out] at ho7; have n1_ := Aside0.mk (below_step (by repeat (first | (with_reducible first | exact HB.out | apply below_alloc | apply pw_below_drewN | apply below_drew1) | exact HB.out)) hb); have HO205 := Aside0.mk (Kd.R_lower ho7 (below_size (by repeat (first | (with_reducible first | exact HB.out | apply below_alloc | apply pw_below_drewN | apply below_drew1) | exact HB.out)))); clear HB; have HB := n1_; clear n1_ hb ho7) | ((with_reducible refine gate_dst (N := 9) rfl ?_); refine Kd.R_lit (Kd.int .i64) _ 3 ?hg (N := 9) ?hd (xs := ([] : List Int)) (inner := []) (ok := fun _ => True) (okp := fun _ => True) ?hr ?hp (fun _ hk => hk) trivial (Below.refl _ _) (Nat.le_refl _) (by simp) ?_; (case hd => rfl); (case hg => rfl); (case hr => first | (go_simp; done) | (go_simp; rfl)); (case hp => exact (Reps.none _ _)); intro v207 w8 ho9 hb hg_ hnew_; clear hg_ hnew_; rw [← Ny206.out] at ho9; have n0_ := Aside0.mk (Kd.R_elder' (by (with_reducible repeat (first | apply Kd.R_alloc | apply Kd.R_drewN | apply Kd.R_drew)); exact HO205.out) (Kd.R_base ho9) hb); have n1_ := Aside0.mk (Kd.R_lower (Kd.R_new' ho9 (Kd.R_lt (by (with_reducible repeat (first | apply Kd.R_alloc | apply Kd.R_drewN | apply Kd.R_drew)); exact HO205.out))) (below_size (by repeat (first | (with_reducible first | exact HB.out | apply below_alloc | apply pw_below_drewN | apply below_drew1) | exact HB.out)))); have n2_ := Aside0.mk (below_step (by repeat (first | (with_reducible first | exact HB.out | apply below_alloc | apply pw_below_drewN | apply below_drew1) | exact HB.out)) hb); clear HO205; clear HB; have HO205 := n0_; have HO208 := n1_; have HB := n2_; clear n0_ n1_ n2_; clear hb ho9; obtain ⟨Ao10, co10, eo10⟩ := Kd.R_slice HO205.out; subst eo10; obtain ⟨Ao11, co11, eo11⟩ := Kd.R_slice HO208.out; subst eo11) | (have HY := (HX.out Ao10 co10 (Kd.R_reads' HO205.out).2.1 _ (fun k_ => some k_ = (.slice Ao11 y206.length co11 : Value).ownBlock) (.slice Ao11 y206.length co11) HB.out (Kd.C_kept_own (HO205.out) (fun k_ hk_ hs_ => (hk_.2) hs_)) (Kd.R_tight rfl HO208.out)); (with_reducible refine HY.mono ?_); clear HY; rintro e3 w12 hq3; rw [HE.out] at hq3; obtain ⟨hb3, hk3, v3, rfl, hr3⟩ := hq3; have HB3 := Aside0.mk hb3))
        go_ret
        exact ⟨by first | rfl | (simp; done), HB3.out⟩
    · have f2 : decide ((a0.size : Int) ≤ 80) = false := decide_eq_false (by omega)
      have f2' : decide (a0.size ≤ 80) = false := decide_eq_false c
      rw [show decide (a0.size ≤ 80 ∧ e = a0.size) = false from decide_eq_false (fun h => c h.1)]
      clear hpl hsz hpos c
      go_enter Try.func13, Try.ntmps13
      go_wp2_with (first | ((with_reducible refine gate_dst (N := 7) rfl ?_); refine Kd.R_lit (Kd.int .i64) _ 3 ?hg (N := 7) ?hd (xs := ([0, 0, 0, 0] : List Int)) (inner := [.int .i64 0, .int .i64 0, .int .i64 0, .int .i64 0]) (ok := fun _ => True) (okp := fun _ => True) ?hr ?hp (fun _ hk => hk) trivial (Below.refl _ _) (Nat.le_refl _) (by simp) ?_; (case hd => rfl); (case hg => rfl); (case hr => first | (go_simp; done) | (go_simp; rfl)); (case hp => exact (Reps.one (show Kd.M (Kd.int .i64) _ _ _ 0 [.int .i64 0] from rfl) (Reps.one (show Kd.M (Kd.int .i64) _ _ _ 0 [.int .i64 0] from rfl) (Reps.one (show Kd.M (Kd.int .i64) _ _ _ 0 [.int .i64 0] from rfl) (Reps.one (show Kd.M (Kd.int .i64) _ _ _ 0 [.int .i64 0] from rfl) (Reps.none _ _)))))); intro v204 w6 ho7 hb hg_ hnew_; clear hg_ hnew_; rw [← Ny203.out] at ho7; have n1_ := Aside0.mk (below_step (by repeat (first | (with_reducible first | exact HB.out | apply below_alloc | apply pw_below_drewN | apply below_drew1) | exact HB.out)) hb); have HO205 := Aside0.mk (Kd.R_lower ho7 (below_size (by repeat (first | (with_reducible first | exact HB.out | apply below_alloc | apply pw_below_drewN | apply below_drew1) | exact HB.out)))); clear HB; have HB := n1_; clear n1_ hb ho7) | ((with_reducible refine gate_dst (N := 9) rfl ?_); refine Kd.R_lit (Kd.int .i64) _ 3 ?hg (N := 9) ?hd (xs := ([] : List Int)) (inner := []) (ok := fun _ => True) (okp := fun _ => True) ?hr ?hp (fun _ hk => hk) trivial (Below.refl _ _) (Nat.le_refl _) (by simp) ?_; (case hd => rfl); (case hg => rfl); (case hr => first | (go_simp; done) | (go_simp; rfl)); (case hp => exact (Reps.none _ _)); intro v207 w8 ho9 hb hg_ hnew_; clear hg_ hnew_; rw [← Ny206.out] at ho9; have n0_ := Aside0.mk (Kd.R_elder' (by (with_reducible repeat (first | apply Kd.R_alloc | apply Kd.R_drewN | apply Kd.R_drew)); exact HO205.out) (Kd.R_base ho9) hb); have n1_ := Aside0.mk (Kd.R_lower (Kd.R_new' ho9 (Kd.R_lt (by (with_reducible repeat (first | apply Kd.R_alloc | apply Kd.R_drewN | apply Kd.R_drew)); exact HO205.out))) (below_size (by repeat (first | (with_reducible first | exact HB.out | apply below_alloc | apply pw_below_drewN | apply below_drew1) | exact HB.out)))); have n2_ := Aside0.mk (below_step (by repeat (first | (with_reducible first | exact HB.out | apply below_alloc | apply pw_below_drewN | apply below_drew1) | exact HB.out)) hb); clear HO205; clear HB; have HO205 := n0_; have HO208 := n1_; have HB := n2_; clear n0_ n1_ n2_; clear hb ho9; obtain ⟨Ao10, co10, eo10⟩ := Kd.R_slice HO205.out; subst eo10; obtain ⟨Ao11, co11, eo11⟩ := Kd.R_slice HO208.out; subst eo11) | (have HY := (HX.out Ao10 co10 (Kd.R_reads' HO205.out).2.1 _ (fun k_ => some k_ = (.slice Ao11 y206.length co11 : Value).ownBlock) (.slice Ao11 y206.length co11) HB.out (Kd.C_kept_own (HO205.out) (fun k_ hk_ hs_ => (hk_.2) hs_)) (Kd.R_tight rfl HO208.out)); (with_reducible refine HY.mono ?_); clear HY; rintro e3 w12 hq3; rw [HE.out] at hq3; obtain ⟨hb3, hk3, v3, rfl, hr3⟩ := hq3; have HB3 := Aside0.mk hb3))
      go_ret
      exact ⟨by first | rfl | (simp; done), HB3.out⟩

/-! ### spec_l7Sets: function 38 -/
def spec_l7Sets.l0 : Nat → List Int → Int → Option (Bool)
  | 0, _, _ => none
  | k + 1, x0, x3 => if x3 < (x0.length : Int) then (if 0 ≤ x3 then ((spec_l1In.f (rd x0 x3) 0 7).bind fun t209 => (if t209 = true then (spec_l7Sets.l0 k x0 (wrap64 (x3 + 1))) else (some false))) else (none)) else (some ((x0.length : Int) == 4))
def spec_l7Sets.f (k : Nat) (l0 : List Int) : Option (Bool) := spec_l7Sets.l0 k l0 0
theorem spec_l7Sets.mono_l : ∀ k, (∀ y0 y1, LeO (spec_l7Sets.l0 k y0 y1) (spec_l7Sets.l0 (k + 1) y0 y1))
  | 0 => fun _ _ r h => by simp [spec_l7Sets.l0] at h
  | k + 1 => by
    have ih0 := spec_l7Sets.mono_l k
    · intro y0 y1
      unfold spec_l7Sets.l0
      repeat' first
      | (with_reducible exact ih0 _ _)
      | (with_reducible exact LeO.refl _)
      | (with_reducible exact LeO.none _)
      | (with_reducible refine LeO.ite ?_ ?_)
      | (with_reducible refine LeO.bind ?_ (fun _ => ?_))
      | exact ih0 _ _
      | exact LeO.none _
      | refine LeO.ite ?_ ?_
      | refine LeO.bind ?_ (fun _ => ?_)
theorem spec_l7Sets.mono : ∀ a0 k, LeO (spec_l7Sets.f k a0) (spec_l7Sets.f (k + 1) a0) := by
  intro a0 k
  have ih0 := spec_l7Sets.mono_l k
  unfold spec_l7Sets.f
  repeat' first
      | (with_reducible exact ih0 _ _)
      | (with_reducible exact LeO.refl _)
      | (with_reducible exact LeO.none _)
      | (with_reducible refine LeO.ite ?_ ?_)
      | (with_reducible refine LeO.bind ?_ (fun _ => ?_))
      | exact ih0 _ _
      | exact LeO.none _
      | refine LeO.ite ?_ ?_
      | refine LeO.bind ?_ (fun _ => ?_)
set_option maxHeartbeats 8000000 in
set_option maxRecDepth 100000 in
theorem spec_l7Sets.calls (k : Nat) (A0 : Option Addr) (c0 : Nat) (l0 : List Int) (r : Bool) (w : World) (hr0 : Kd.C (Kd.int .i64) w A0 l0.length l0) (hc0 : l0.length ≤ c0) (h : spec_l7Sets.f k l0 = some r) :
    Calls Try.prog 38 #[.slice A0 l0.length c0] w fun e w' => e = .returned (.bool r) ∧ Drawn0 w w' := by
  have HR0 := Aside0.mk hr0
  have HC0 := Aside0.mk hc0
  clear hr0 hc0
  have H : (spec_l7Sets.l0 k l0 0) = some r := h
  clear h
  have H' := Aside0.mk H
  clear H
  go_enter Try.func38, Try.ntmps38
  go_wp2
  go_loopg [3] k (fun kq v3 w' => ∃ (x3_1 : Int), v3 = .int .i64 x3_1 ∧ Aside0 (spec_l7Sets.l0 kq l0 x3_1 = some r) ∧ Aside0 (kq ≤ k) ∧ Drawn0 w w')
  case atStart => exact ⟨(0), (by first | rfl | (simp; done) | (simp [*]; done)), H', ⟨Nat.le_refl _⟩, by repeat (first | exact Drawn0.refl _ | apply Drawn0.step)⟩
  case round =>
    clear H'
    obtain ⟨x3_1, rfl, HA, HK1, ⟨m1, rfl⟩⟩ := hrel
    cases gk with
    | zero => exact absurd HA.out (by simp [spec_l7Sets.l0])
    | succ k1 =>
      have H := HA.out
      clear HA
      simp only [spec_l7Sets.l0] at H
      by_cases c2 : x3_1 < (l0.length : Int)
      · rw [if_pos c2] at H
        have c2b0 : decide (x3_1 < (l0.length : Int)) = true := decide_eq_true c2
        clear c2
        by_cases c3 : 0 ≤ x3_1
        · rw [if_pos c3] at H
          have c3b0 : decide (0 ≤ x3_1) = true := decide_eq_true c3
          clear c3
          replace H := Option.bind_eq_some_iff.mp H
          obtain ⟨t209, A40, H⟩ := H
          replace H : (if t209 = true then (spec_l7Sets.l0 k1 l0 (wrap64 (x3_1 + 1))) else (some false)) = some r := H
          have A4 := Aside0.mk A40
          clear A40
          by_cases c5 : t209 = true
          · subst c5
            have H1 : (spec_l7Sets.l0 k1 l0 (wrap64 (x3_1 + 1))) = some r := by rw [if_pos rfl] at H; exact H
            clear H
            have H := H1
            clear H1
            have H' := Aside0.mk H
            clear H
            have p208 : 0 ≤ (x3_1 : Int) := of_decide_eq_true (by first | (with_reducible assumption) | assumption)
            have q208 : x3_1 < (l0.length : Int) := of_decide_eq_true (by first | (with_reducible assumption) | assumption)
            obtain ⟨ad208, e208, hx208_0⟩ := Kd.at_int HR0.out x3_1 p208 q208
            cases e208
            replace p208 := eq_true p208
            replace q208 := eq_true q208
            go_wp2_with (first | ((with_reducible refine gate_callee (f := 34) rfl ?_); refine goesL_ (some 14) rfl rfl Try.func34 (by kernel_rfl) rfl #[.int .i64 (rd l0 x3_1), .int .i64 0, .int .i64 7] rfl (by (try simp only [List.map_toArray, List.map_cons, List.map_nil]); first | done | rfl | (simp only [List.length_drop, List.length_take]; rfl)) ?_; (with_reducible refine (spec_l1In.calls (rd l0 x3_1) 0 7 true _ A4.out).mono ?_); rintro e w' ⟨rfl, ⟨nd, rfl⟩⟩; refine ⟨_, rfl, ?_⟩))
            go_roundg k1
            case measure => have := HK1.out; omega
            case rel => exact ⟨(wrap64 (x3_1 + 1)), (by first | rfl | (simp; done) | (simp [*]; done)), H', ⟨by have := HK1.out; omega⟩, by repeat (first | exact Drawn0.refl _ | apply Drawn0.step)⟩
          · replace c5 := Bool.eq_false_iff.mpr c5
            subst c5
            have H1 : (some false) = some r := by rw [if_neg (show ¬ (false = true) by decide)] at H; exact H
            clear H
            have H := H1
            clear H1
            obtain rfl := Option.some.inj H
            have p208 : 0 ≤ (x3_1 : Int) := of_decide_eq_true (by first | (with_reducible assumption) | assumption)
            have q208 : x3_1 < (l0.length : Int) := of_decide_eq_true (by first | (with_reducible assumption) | assumption)
            obtain ⟨ad208, e208, hx208_0⟩ := Kd.at_int HR0.out x3_1 p208 q208
            cases e208
            replace p208 := eq_true p208
            replace q208 := eq_true q208
            go_wp2_with (first | ((with_reducible refine gate_callee (f := 34) rfl ?_); refine goesL_ (some 14) rfl rfl Try.func34 (by kernel_rfl) rfl #[.int .i64 (rd l0 x3_1), .int .i64 0, .int .i64 7] rfl (by (try simp only [List.map_toArray, List.map_cons, List.map_nil]); first | done | rfl | (simp only [List.length_drop, List.length_take]; rfl)) ?_; (with_reducible refine (spec_l1In.calls (rd l0 x3_1) 0 7 false _ A4.out).mono ?_); rintro e w' ⟨rfl, ⟨nd, rfl⟩⟩; refine ⟨_, rfl, ?_⟩))
            go_ret
            exact ⟨by first | rfl | (simp; done) | (simp [*]; done), by repeat (first | exact Drawn0.refl _ | apply Drawn0.step)⟩
        · rw [if_neg c3] at H
          exact absurd H (by simp)
      · rw [if_neg c2] at H
        have c2b0 : decide (x3_1 < (l0.length : Int)) = false := decide_eq_false c2
        clear c2
        obtain rfl := Option.some.inj H
        go_wp2
        go_ret
        exact ⟨by first | rfl | (simp; done) | (simp [*]; done), by repeat (first | exact Drawn0.refl _ | apply Drawn0.step)⟩

/-! ### spec_TrueOf: function 21 -/
def spec_TrueOf.f (k : Nat) (l0 : List Int) (a1 : ByteArray) : Option (Bool) := (spec_SentenceOk.f a1).bind fun t210 => (if t210 = true then ((spec_l7Sets.f k l0).bind fun t211 => (if t211 = true then ((spec_l7Read.f l0 a1 0 1 (([] : List Int))).bind fun bt215 => (some bt215.1)) else (some false))) else (some false))
theorem spec_TrueOf.mono : ∀ a0 a1 k, LeO (spec_TrueOf.f k a0 a1) (spec_TrueOf.f (k + 1) a0 a1) := by
  intro a0 a1 k
  unfold spec_TrueOf.f
  repeat' first
      | (with_reducible exact spec_l7Sets.mono _ _)
      | (with_reducible exact LeO.refl _)
      | (with_reducible exact LeO.none _)
      | (with_reducible refine LeO.ite ?_ ?_)
      | (with_reducible refine LeO.bind ?_ (fun _ => ?_))
      | exact spec_l7Sets.mono _ _
      | exact LeO.none _
      | refine LeO.ite ?_ ?_
      | refine LeO.bind ?_ (fun _ => ?_)
set_option maxHeartbeats 8000000 in
set_option maxRecDepth 100000 in
theorem spec_TrueOf.calls (k : Nat) (A0 : Option Addr) (c0 : Nat) (l0 : List Int) (a1 : ByteArray) (r : Bool) (w : World) (hr0 : Kd.C (Kd.int .i64) w A0 l0.length l0) (hc0 : l0.length ≤ c0) (h : spec_TrueOf.f k l0 a1 = some r) :
    Calls Try.prog 21 #[.slice A0 l0.length c0, .string a1] w fun e w' => e = .returned (.bool r) ∧ Below w.heap.size w w' := by
  have HR0 := Aside0.mk hr0
  have HC0 := Aside0.mk hc0
  clear hr0 hc0
  have HB := Aside0.mk (Below.refl w.heap.size w)
  have H : ((spec_SentenceOk.f a1).bind fun t210 => (if t210 = true then ((spec_l7Sets.f k l0).bind fun t211 => (if t211 = true then ((spec_l7Read.f l0 a1 0 1 (([] : List Int))).bind fun bt215 => (some bt215.1)) else (some false))) else (some false))) = some r := h
  clear h
  replace H := Option.bind_eq_some_iff.mp H
  obtain ⟨t210, A30, H⟩ := H
  replace H : (if t210 = true then ((spec_l7Sets.f k l0).bind fun t211 => (if t211 = true then ((spec_l7Read.f l0 a1 0 1 (([] : List Int))).bind fun bt215 => (some bt215.1)) else (some false))) else (some false)) = some r := H
  have A3 := Aside0.mk A30
  clear A30
  by_cases c4 : t210 = true
  · subst c4
    have H1 : ((spec_l7Sets.f k l0).bind fun t211 => (if t211 = true then ((spec_l7Read.f l0 a1 0 1 (([] : List Int))).bind fun bt215 => (some bt215.1)) else (some false))) = some r := by rw [if_pos rfl] at H; exact H
    clear H
    have H := H1
    clear H1
    replace H := Option.bind_eq_some_iff.mp H
    obtain ⟨t211, A50, H⟩ := H
    replace H : (if t211 = true then ((spec_l7Read.f l0 a1 0 1 (([] : List Int))).bind fun bt215 => (some bt215.1)) else (some false)) = some r := H
    have A5 := Aside0.mk A50
    clear A50
    by_cases c6 : t211 = true
    · subst c6
      have H1 : ((spec_l7Read.f l0 a1 0 1 (([] : List Int))).bind fun bt215 => (some bt215.1)) = some r := by rw [if_pos rfl] at H; exact H
      clear H
      have H := H1
      clear H1
      obtain ⟨y212, hy212⟩ : ∃ y_ : List Int, y_ = (([] : List Int)) := ⟨_, rfl⟩
      replace H : ((spec_l7Read.f l0 a1 0 1 y212).bind fun bt215 => (some bt215.1)) = some r := by first | (rw [hy212]; with_reducible exact H) | (have H2_ := (Option.bind_some _ _).symm.trans H; rw [hy212]; with_reducible exact H2_) | (have H2_ := (Option.bind_some _ _).symm.trans H; with_reducible exact H2_) | with_reducible exact H | (rw [hy212]; exact H) | exact H
      have Ny212 := Aside0.mk hy212
      clear hy212
      replace H := Option.bind_eq_some_iff.mp H
      obtain ⟨⟨t215, t216, t219⟩, A70, H⟩ := H
      replace H : (some t215) = some r := H
      have A7 := Aside0.mk A70
      clear A70
      obtain rfl := Option.some.inj H
      go_enter Try.func21, Try.ntmps21
      go_wp2_with (first | ((with_reducible refine gate_callee (f := 13) rfl ?_); refine goesL_ (some 9) rfl rfl Try.func13 (by kernel_rfl) rfl #[.string a1] rfl (by (try simp only [List.map_toArray, List.map_cons, List.map_nil]); first | done | rfl | (simp only [List.length_drop, List.length_take]; rfl)) ?_; (with_reducible refine (spec_SentenceOk.calls a1 true _ A3.out).mono ?_); rintro e w8 ⟨rfl, hb⟩; refine ⟨_, rfl, ?_⟩; have n0_ := Aside0.mk (below_step (by repeat (first | (with_reducible first | exact HB.out | apply below_alloc | apply pw_below_drewN | apply below_drew1) | exact HB.out)) hb); clear HB; have HB := n0_; clear n0_; (try clear hb); (try clear hb2); (try clear hk); (try clear hi)) | (go_at_call 38; (with_reducible refine (spec_l7Sets.calls k _ _ l0 true _ ?side1 ?side2 A5.out).mono ?_); (case side1 => repeat (first | exact (Kd.C_below HR0.out HB.out) | (with_reducible refine Kd.C_alloc ?_ _) | (with_reducible refine Kd.C_drewN ?_ _) | (with_reducible refine Kd.C_drew ?_))); (case side2 => exact HC0.out); rintro e w' ⟨rfl, ⟨nd, rfl⟩⟩) | ((with_reducible refine gate_dst (N := 19) rfl ?_); refine Kd.R_lit (Kd.int .i64) _ 3 ?hg (N := 19) ?hd (xs := ([] : List Int)) (inner := []) (ok := fun _ => True) (okp := fun _ => True) ?hr ?hp (fun _ hk => hk) trivial (Below.refl _ _) (Nat.le_refl _) (by simp) ?_; (case hd => rfl); (case hg => rfl); (case hr => first | (go_simp; done) | (go_simp; rfl)); (case hp => exact (Reps.none _ _)); intro v213 w9 ho10 hb hg_ hnew_; clear hg_ hnew_; (first | rw [← Ny212.out] at ho10 | (simp only [Int.reduceToNat] at ho10; rw [← Ny212.out] at ho10)); have n0_ := Aside0.mk (Kd.R_lower ho10 (below_size (by repeat (first | (with_reducible first | exact HB.out | apply below_alloc | apply pw_below_drewN | apply below_drew1) | exact HB.out)))); have n1_ := Aside0.mk (below_step (by repeat (first | (with_reducible first | exact HB.out | apply below_alloc | apply pw_below_drewN | apply below_drew1) | exact HB.out)) hb); clear HB; have HO214 := n0_; have HB := n1_; clear n0_ n1_; clear hb ho10; obtain ⟨Ao11, co11, eo11⟩ := Kd.R_slice HO214.out; subst eo11) | ((with_reducible refine gate_callee (f := 32) rfl ?_); refine goesL_ (some 20) rfl rfl Try.func32 (by kernel_rfl) rfl #[.slice A0 l0.length c0, .string a1, .int .i64 0, .int .i64 1, .slice Ao11 y212.length co11] rfl (by (try simp only [List.map_toArray, List.map_cons, List.map_nil]); first | done | rfl | (simp only [List.length_drop, List.length_take]; rfl)) ?_; (with_reducible refine (spec_l7Read.calls _ _ l0 a1 0 1 (fun k_ => some k_ = (.slice Ao11 y212.length co11 : Value).ownBlock) (.slice Ao11 y212.length co11) y212 t215 t216 t219 w _ ?side1 ?side2 ?side3 ?side4 A7.out).mono ?_); (case side1 => repeat (first | (with_reducible first | exact HB.out | apply below_alloc | apply pw_below_drewN | apply below_drew1) | exact HB.out)); (case side2 => exact Kd.C_kept_came (Kd.heap_int .i64) HR0.out (by repeat (first | (with_reducible first | exact HB.out | apply below_alloc | apply pw_below_drewN | apply below_drew1) | exact HB.out)) (fun k_ hs_ => (fun e_ => Kd.R_base HO214.out k_ e_.symm) hs_)); (case side3 => exact HC0.out); (case side4 => exact Kd.R_tight rfl HO214.out); rintro e w12 ⟨v217, rfl, ho0, hb, hkp⟩; refine ⟨_, rfl, ?_⟩; have n0_ := Aside0.mk (Kd.R_mono (ok' := fun k_ => True) ho0 (fun k_ hk_ => trivial)); have n1_ := Aside0.mk (hb); clear HB; clear HO214; have HO218 := n0_; have HB := n1_; clear n0_ n1_; (try clear hb); (try clear hkp); (try clear ho0)))
      go_ret
      exact ⟨by first | rfl | (simp [errW_none, errW_some] <;> rfl) | (simp [*, errW_none, errW_some] <;> rfl), by repeat (first | (with_reducible first | exact HB.out | apply below_alloc | apply pw_below_drewN | apply below_drew1) | exact HB.out)⟩
    · replace c6 := Bool.eq_false_iff.mpr c6
      subst c6
      have H1 : (some false) = some r := by rw [if_neg (show ¬ (false = true) by decide)] at H; exact H
      clear H
      have H := H1
      clear H1
      obtain rfl := Option.some.inj H
      go_enter Try.func21, Try.ntmps21
      go_wp2_with (first | ((with_reducible refine gate_callee (f := 13) rfl ?_); refine goesL_ (some 9) rfl rfl Try.func13 (by kernel_rfl) rfl #[.string a1] rfl (by (try simp only [List.map_toArray, List.map_cons, List.map_nil]); first | done | rfl | (simp only [List.length_drop, List.length_take]; rfl)) ?_; (with_reducible refine (spec_SentenceOk.calls a1 true _ A3.out).mono ?_); rintro e w13 ⟨rfl, hb⟩; refine ⟨_, rfl, ?_⟩; have n0_ := Aside0.mk (below_step (by repeat (first | (with_reducible first | exact HB.out | apply below_alloc | apply pw_below_drewN | apply below_drew1) | exact HB.out)) hb); clear HB; have HB := n0_; clear n0_; (try clear hb); (try clear hb2); (try clear hk); (try clear hi)) | (go_at_call 38; (with_reducible refine (spec_l7Sets.calls k _ _ l0 false _ ?side1 ?side2 A5.out).mono ?_); (case side1 => repeat (first | exact (Kd.C_below HR0.out HB.out) | (with_reducible refine Kd.C_alloc ?_ _) | (with_reducible refine Kd.C_drewN ?_ _) | (with_reducible refine Kd.C_drew ?_))); (case side2 => exact HC0.out); rintro e w' ⟨rfl, ⟨nd, rfl⟩⟩))
      go_ret
      exact ⟨by first | rfl | (simp [errW_none, errW_some] <;> rfl) | (simp [*, errW_none, errW_some] <;> rfl), by repeat (first | (with_reducible first | exact HB.out | apply below_alloc | apply pw_below_drewN | apply below_drew1) | exact HB.out)⟩
  · replace c4 := Bool.eq_false_iff.mpr c4
    subst c4
    have H1 : (some false) = some r := by rw [if_neg (show ¬ (false = true) by decide)] at H; exact H
    clear H
    have H := H1
    clear H1
    obtain rfl := Option.some.inj H
    go_enter Try.func21, Try.ntmps21
    go_wp2_with (first | ((with_reducible refine gate_callee (f := 13) rfl ?_); refine goesL_ (some 9) rfl rfl Try.func13 (by kernel_rfl) rfl #[.string a1] rfl (by (try simp only [List.map_toArray, List.map_cons, List.map_nil]); first | done | rfl | (simp only [List.length_drop, List.length_take]; rfl)) ?_; (with_reducible refine (spec_SentenceOk.calls a1 false _ A3.out).mono ?_); rintro e w14 ⟨rfl, hb⟩; refine ⟨_, rfl, ?_⟩; have n0_ := Aside0.mk (below_step (by repeat (first | (with_reducible first | exact HB.out | apply below_alloc | apply pw_below_drewN | apply below_drew1) | exact HB.out)) hb); clear HB; have HB := n0_; clear n0_; (try clear hb); (try clear hb2); (try clear hk); (try clear hi)))
    go_ret
    exact ⟨by first | rfl | (simp [errW_none, errW_some] <;> rfl) | (simp [*, errW_none, errW_some] <;> rfl), by repeat (first | (with_reducible first | exact HB.out | apply below_alloc | apply pw_below_drewN | apply below_drew1) | exact HB.out)⟩

/-! ### laws_toIntS: function 22 -/
def laws_toIntS.l0 : Nat → List Int → List Int → Int → Option (List Int)
  | 0, _, _, _ => none
  | k + 1, x0, x3, x4 => if x4 < (x0.length : Int) then (if 0 ≤ x4 then (if x4 < (x3.length : Int) then (laws_toIntS.l0 k x0 (x3.set (x4 : Int).toNat (rd x0 x4)) (wrap64 (x4 + 1))) else (none)) else (none)) else (some x3)
def laws_toIntS.f (k : Nat) (l0 : List Int) : Option (List Int) := if 0 ≤ (l0.length : Int) then (if ((l0.length : Int) : Int).toNat ≤ 35184372088832 then (laws_toIntS.l0 k l0 (List.replicate ((l0.length : Int) : Int).toNat 0) 0) else (none)) else (none)
theorem laws_toIntS.mono_l : ∀ k, (∀ y0 y1 y2, LeO (laws_toIntS.l0 k y0 y1 y2) (laws_toIntS.l0 (k + 1) y0 y1 y2))
  | 0 => fun _ _ _ r h => by simp [laws_toIntS.l0] at h
  | k + 1 => by
    have ih0 := laws_toIntS.mono_l k
    · intro y0 y1 y2
      unfold laws_toIntS.l0
      repeat' first
      | (with_reducible exact ih0 _ _ _)
      | (with_reducible exact LeO.refl _)
      | (with_reducible exact LeO.none _)
      | (with_reducible refine LeO.ite ?_ ?_)
      | (with_reducible refine LeO.bind ?_ (fun _ => ?_))
      | exact ih0 _ _ _
      | exact LeO.none _
      | refine LeO.ite ?_ ?_
      | refine LeO.bind ?_ (fun _ => ?_)
theorem laws_toIntS.mono : ∀ a0 k, LeO (laws_toIntS.f k a0) (laws_toIntS.f (k + 1) a0) := by
  intro a0 k
  have ih0 := laws_toIntS.mono_l k
  unfold laws_toIntS.f
  repeat' first
      | (with_reducible exact ih0 _ _ _)
      | (with_reducible exact LeO.refl _)
      | (with_reducible exact LeO.none _)
      | (with_reducible refine LeO.ite ?_ ?_)
      | (with_reducible refine LeO.bind ?_ (fun _ => ?_))
      | exact ih0 _ _ _
      | exact LeO.none _
      | refine LeO.ite ?_ ?_
      | refine LeO.bind ?_ (fun _ => ?_)
set_option maxHeartbeats 8000000 in
set_option maxRecDepth 100000 in
theorem laws_toIntS.calls (k : Nat) (A0 : Option Addr) (c0 : Nat) (l0 : List Int) (r : List Int) (w : World) (hr0 : Kd.C (Kd.int .i64) w A0 l0.length l0) (hc0 : l0.length ≤ c0) (h : laws_toIntS.f k l0 = some r) :
    Calls Try.prog 22 #[.slice A0 l0.length c0] w fun e w' => ∃ v0_ : Value, e = .returned (v0_) ∧ Kd.R (Kd.int .i64) 3 w' w.heap.size (fun _ => True) v0_ r ∧ Below w.heap.size w w' := by
  have HR0 := Aside0.mk hr0
  have HC0 := Aside0.mk hc0
  clear hr0 hc0
  have HB := Aside0.mk (Below.refl w.heap.size w)
  have H : (if 0 ≤ (l0.length : Int) then (if ((l0.length : Int) : Int).toNat ≤ 35184372088832 then (laws_toIntS.l0 k l0 (List.replicate ((l0.length : Int) : Int).toNat 0) 0) else (none)) else (none)) = some r := h
  clear h
  by_cases c2 : 0 ≤ (l0.length : Int)
  · rw [if_pos c2] at H
    have c2b0 := eq_true c2
    have c2b1 : decide (0 ≤ (l0.length : Int)) = true := decide_eq_true c2
    clear c2
    by_cases c3 : ((l0.length : Int) : Int).toNat ≤ 35184372088832
    · rw [if_pos c3] at H
      have c3b0 := eq_true c3
      have c3b1 : decide (((l0.length : Int) : Int).toNat ≤ 35184372088832) = true := decide_eq_true c3
      clear c3
      obtain ⟨y220, hy220⟩ : ∃ y_ : List Int, y_ = (List.replicate ((l0.length : Int) : Int).toNat 0) := ⟨_, rfl⟩
      replace H : (laws_toIntS.l0 k l0 y220 0) = some r := by first | (rw [hy220]; with_reducible exact H) | (have H2_ := (Option.bind_some _ _).symm.trans H; rw [hy220]; with_reducible exact H2_) | (have H2_ := (Option.bind_some _ _).symm.trans H; with_reducible exact H2_) | with_reducible exact H | (rw [hy220]; exact H) | exact H
      have Ny220 := Aside0.mk hy220
      clear hy220
      have H' := Aside0.mk H
      clear H
      go_enter Try.func22, Try.ntmps22
      go_wp2_with (first | ((with_reducible refine gate_dst (N := 7) rfl ?_); refine Kd.R_make (Kd.int .i64) _ 3 rfl (N := 7) rfl 29 _ _ rfl (l0.length : Int) rfl rfl Try.underlying29 (.int .i64 0) 8 info3 rfl (by decide) (by omega) 0 (ok := fun _ => True) (okp := fun _ => True) rfl (fun _ hk => hk) trivial (of_decide_eq_true (by first | (with_reducible assumption) | assumption)) (Nat.le_trans (Nat.mul_le_mul_right _ (of_decide_eq_true (by first | (with_reducible assumption) | assumption) : (l0.length : Int).toNat ≤ 35184372088832)) (by omega)) (Below.refl _ _) (Nat.le_refl _) ?_; intro v221 w4 ho5 hb hg_ hnew_; clear hg_ hnew_; (first | rw [← Ny220.out] at ho5 | (simp only [Int.reduceToNat] at ho5; rw [← Ny220.out] at ho5)); have n0_ := Aside0.mk (Kd.R_lower ho5 (below_size (by repeat (first | (with_reducible first | exact HB.out | apply below_alloc | apply pw_below_drewN | apply below_drew1) | exact HB.out)))); have n1_ := Aside0.mk (below_step (by repeat (first | (with_reducible first | exact HB.out | apply below_alloc | apply pw_below_drewN | apply below_drew1) | exact HB.out)) hb); clear HB; have HO222 := n0_; have HB := n1_; clear n0_ n1_; clear hb ho5))
      go_loopg [4] k (fun kq v4 w' => ∃ (x3_1 : List Int) (x4_1 : Int), v4 = .int .i64 x4_1 ∧ Aside0 (laws_toIntS.l0 kq l0 x3_1 x4_1 = some r) ∧ Aside0 (kq ≤ k) ∧ Aside0 (Kd.R (Kd.int .i64) 3 w' w.heap.size (fun _ => True) v221 x3_1) ∧ Aside0 (Below w.heap.size w w'))
      case atStart => exact ⟨(y220), (0), (by first | rfl | (simp; done) | (simp [*]; done)), H', ⟨Nat.le_refl _⟩, ⟨by (with_reducible repeat (first | apply Kd.R_alloc | apply Kd.R_drewN | apply Kd.R_drew)); exact HO222.out⟩, ⟨by repeat (first | (with_reducible first | exact HB.out | apply below_alloc | apply pw_below_drewN | apply below_drew1) | exact HB.out)⟩⟩
      case round =>
        clear H'
        try clear c2
        try clear c2b0
        try clear c2b1
        try clear p2
        try clear c3
        try clear c3b0
        try clear c3b1
        obtain ⟨x3_1, x4_1, rfl, HA, HK1, HO_3, HB⟩ := hrel
        cases gk with
        | zero => exact absurd HA.out (by simp [laws_toIntS.l0])
        | succ k1 =>
          have H := HA.out
          clear HA
          simp only [laws_toIntS.l0] at H
          by_cases c6 : x4_1 < (l0.length : Int)
          · rw [if_pos c6] at H
            have c6b0 : decide (x4_1 < (l0.length : Int)) = true := decide_eq_true c6
            clear c6
            by_cases c7 : 0 ≤ x4_1
            · rw [if_pos c7] at H
              have c7b0 : decide (0 ≤ x4_1) = true := decide_eq_true c7
              clear c7
              by_cases c8 : x4_1 < (x3_1.length : Int)
              · rw [if_pos c8] at H
                have c8b0 : decide (x4_1 < (x3_1.length : Int)) = true := decide_eq_true c8
                clear c8
                obtain ⟨y224, hy224⟩ : ∃ y_ : List Int, y_ = (x3_1.set (x4_1 : Int).toNat (rd l0 x4_1)) := ⟨_, rfl⟩
                replace H : (laws_toIntS.l0 k1 l0 y224 (wrap64 (x4_1 + 1))) = some r := by first | (rw [hy224]; with_reducible exact H) | (have H2_ := (Option.bind_some _ _).symm.trans H; rw [hy224]; with_reducible exact H2_) | (have H2_ := (Option.bind_some _ _).symm.trans H; with_reducible exact H2_) | with_reducible exact H | (rw [hy224]; exact H) | exact H
                have Ny224 := Aside0.mk hy224
                clear hy224
                have H' := Aside0.mk H
                clear H
                have p223 : 0 ≤ (x4_1 : Int) := of_decide_eq_true (by first | (with_reducible assumption) | assumption)
                have q223 : x4_1 < (l0.length : Int) := of_decide_eq_true (by first | (with_reducible assumption) | assumption)
                obtain ⟨ad223, e223, hx223_0⟩ := Kd.at_int HR0.out x4_1 p223 q223
                cases e223
                replace hx223_0 := (HB.out.cell (World.block_lt_of_cell? w _ hx223_0)).trans hx223_0
                replace p223 := eq_true p223
                replace q223 := eq_true q223
                have p9 : 0 ≤ (x4_1 : Int) := of_decide_eq_true (by first | (with_reducible assumption) | assumption)
                have q9 : (x4_1 : Int) < ((x3_1.length : Int) : Int) := of_decide_eq_true (by first | (with_reducible assumption) | assumption)
                obtain ⟨go9, co9, eo9, gb9, gl9, cl9, HG9⟩ := Kd.R_form HO_3.out (by omega)
                (first | cases eo9 | (injection eo9 with ea_ en_ ec_; (first | subst ea_ | (injection ea_ with ea_; subst ea_)); subst ec_; clear en_))
                have GB9 := Aside0.mk gb9
                have GG9 := Aside0.mk HG9
                clear gb9 gl9 HG9
                obtain ⟨hx9_0, hf9_0⟩ := Kd.R_celln 0 HO_3.out (x4_1 : Int) p9 q9
                replace p9 := eq_true p9
                replace q9 := eq_true q9
                have HP10 := Kd.R_putg HO_3.out (x4_1 : Int) (rd l0 x4_1)
                go_wp2_with (first | ((with_reducible refine gate_store (t := 3) (p := 20) rfl ?_); refine store_event (t := 3) (p := 20) (v := ?vo_w11) (w1 := (wr.setCell ⟨go9, (x4_1 : Int).toNat, none⟩ (.int .i64 (rd l0 x4_1)))) ?hg ?ho ?hn ?hr ?_; (case ho => rfl); (case hg => rfl); (case hn => rfl); (case hr => first | (go_simp; done) | (go_simp; rfl)); intro w11 hw; have hg : wr.grownBy w11 (some go9) := (by rw [hw]; exact HP10.2); have hp_ : Kd.R (Kd.int .i64) 3 w11 w.heap.size (fun _ => True) (.slice (some ⟨go9, 0, none⟩) x3_1.length co9) y224 := (by rw [hw, Ny224.out]; exact HP10.1); clear HP10; have n0_ := Aside0.mk (hp_); have n1_ := Aside0.mk ((by rw [hw]; exact below_set (HB.out) GB9.out : Below w.heap.size w w11)); clear HO_3; clear HB; have HO_3 := n0_; have HB := n1_; clear n0_ n1_; clear hg hw hp_))
                go_roundg k1
                case measure => have := HK1.out; omega
                case rel => exact ⟨(y224), (wrap64 (x4_1 + 1)), (by first | rfl | (simp; done) | (simp [*]; done)), H', ⟨by have := HK1.out; omega⟩, ⟨by (with_reducible repeat (first | apply Kd.R_alloc | apply Kd.R_drewN | apply Kd.R_drew)); exact HO_3.out⟩, ⟨by repeat (first | (with_reducible first | exact HB.out | apply below_alloc | apply pw_below_drewN | apply below_drew1) | exact HB.out)⟩⟩
              · rw [if_neg c8] at H
                exact absurd H (by simp)
            · rw [if_neg c7] at H
              exact absurd H (by simp)
          · rw [if_neg c6] at H
            have c6b0 : decide (x4_1 < (l0.length : Int)) = false := decide_eq_false c6
            clear c6
            obtain rfl := Option.some.inj H
            go_wp2
            go_ret
            exact ⟨_, by first | rfl | (simp [errW_none, errW_some] <;> rfl) | (simp [*, errW_none, errW_some] <;> rfl), by (with_reducible repeat (first | apply Kd.R_alloc | apply Kd.R_drewN | apply Kd.R_drew)); exact HO_3.out, by repeat (first | (with_reducible first | exact HB.out | apply below_alloc | apply pw_below_drewN | apply below_drew1) | exact HB.out)⟩
    · rw [if_neg c3] at H
      exact absurd H (by simp)
  · rw [if_neg c2] at H
    exact absurd H (by simp)

/-! ### impl_part_setOf: function 58 -/
theorem xor_all : ∀ x : Fin 8, Go.bits .xor .i64 7 x.val = 7 - (x.val : Int) := by decide +kernel
theorem andor_all : ∀ x y : Fin 8, Go.bits .and .i64 x.val y.val = band x.val y.val ∧ Go.bits .or .i64 x.val y.val = bor x.val y.val := by decide +kernel
theorem xor_eq {x : Int} (h0 : 0 ≤ x) (h7 : x ≤ 7) : Go.bits .xor .i64 7 x = 7 - x := by
  obtain ⟨a, rfl⟩ := fin_of h0 h7
  exact xor_all a
theorem and_eq {x y : Int} (h0 : 0 ≤ x) (h7 : x ≤ 7) (k0 : 0 ≤ y) (k7 : y ≤ 7) : Go.bits .and .i64 x y = band x y := by
  obtain ⟨a, rfl⟩ := fin_of h0 h7
  obtain ⟨b, rfl⟩ := fin_of k0 k7
  exact (andor_all a b).1
theorem or_eq {x y : Int} (h0 : 0 ≤ x) (h7 : x ≤ 7) (k0 : 0 ≤ y) (k7 : y ≤ 7) : Go.bits .or .i64 x y = bor x y := by
  obtain ⟨a, rfl⟩ := fin_of h0 h7
  obtain ⟨b, rfl⟩ := fin_of k0 k7
  exact (andor_all a b).2
theorem Tree.same {g : Nat} {w w' : World} {p : PT} {b : Nat} (h : Tree g w p b) (hw : w'.heap = w.heap) : Tree g w' p b := h.move (fun _ _ _ => by rw [hw])
theorem int_ret {a b : Int} (h : a = b) : Ending.returned (.int .i64 a) = .returned (.int .i64 b) := by rw [h]
set_option maxHeartbeats 8000000 in
set_option maxRecDepth 100000 in
theorem impl_part_setOf.calls (L : List Int) (hL : Sets L) (A : Option Addr) (c : Nat) (hc : L.length ≤ c) (g : Nat) {p : PT} (hp : SetT p) : ∀ (b : Nat) (w : World), Tree g w p b → Kd.C (Kd.int .i64) w A L.length L →
    Calls Try.prog 58 #[.pointer (some ⟨b, 0, none⟩), .slice A L.length c] w fun e w' => e = .returned (.int .i64 (setv L p)) ∧ Drawn0 w w' := by
  have L4 := hL.1
  induction hp with
  | leaf ch i h1 h2 =>
    intro b w ht hC
    have hc0 : w.cell? ⟨b, 0, none⟩ = some (.int .u8 ch) := (blk_cell ht.2 0).trans rfl
    obtain ⟨ad, hA, hcell⟩ := Kd.at_int hC (ch - 97) (by omega) (by omega)
    subst hA
    have q2 : (4 : Int) ≤ (c : Int) := by omega
    have HV : Aside0 (setv L (.leaf ch i) = rd L (ch - 97)) := ⟨rfl⟩
    obtain ⟨X, hX⟩ : ∃ X, rd L (ch - 97) = X := ⟨_, rfl⟩
    rw [hX] at hcell HV
    have d1 : (ch == 33) = false := by rw [beq_eq_false_iff_ne]; omega
    have d2 : (ch == 38) = false := by rw [beq_eq_false_iff_ne]; omega
    have d3 : (ch == 124) = false := by rw [beq_eq_false_iff_ne]; omega
    have q3 : 0 ≤ ch - 97 := by omega
    have q3' : 97 ≤ ch := by omega
    have q4 : ch - 97 < (L.length : Int) := by omega
    have e1 : (ch - 97) % 256 = ch - 97 := by omega
    have e2 : IntKind.u8.wrap (ch - 97) = ch - 97 := by rw [IntKind.wrap_u8]; exact e1
    clear h1 h2 ht hC hX hL L4 q2
    go_enter Try.func58, Try.ntmps58
    go_wp2
    go_ret
    exact ⟨int_ret HV.out.symm, by repeat (first | exact Drawn0.refl _ | apply Drawn0.step)⟩
  | @one p hp ih =>
    intro b w ht hC
    have hv := setv_range hL hp
    obtain ⟨k1, q, b1, k2, k3, k4, k5, k6, k7⟩ := ht
    have hc0 : w.cell? ⟨b, 0, none⟩ = some (.int .u8 33) := (blk_cell k5 0).trans rfl
    have hc3 : w.cell? ⟨b, 3, none⟩ = some (.slice (some ⟨q, 0, none⟩) 1 1) := (blk_cell k5 3).trans rfl
    have hq0 : w.cell? ⟨q, 0, none⟩ = some (.pointer (some ⟨b1, 0, none⟩)) := (blk_cell k6 0).trans rfl
    have HA := Aside0.mk (ih b1 w k7 hC)
    obtain ⟨X, hX⟩ : ∃ X, setv L p = X := ⟨_, rfl⟩
    have HV : Aside0 (setv L (.one 33 p) = 7 - X) := ⟨by rw [← hX]; rfl⟩
    rw [hX] at HA hv
    have hx := xor_eq hv.1 hv.2
    clear ih hC k1 k2 k3 k4 k5 k6 k7 hX hv hL L4
    go_enter Try.func58, Try.ntmps58
    go_wp2_with (go_at_call 58; (with_reducible refine HA.out.mono ?_); rintro e w2 ⟨rfl, ⟨nd, rfl⟩⟩)
    go_ret
    exact ⟨int_ret (HV.out.symm), by repeat (first | exact Drawn0.refl _ | apply Drawn0.step)⟩
  | @two ch p q hch hp hq ih1 ih2 =>
    intro b w ht hC
    have hv := setv_range hL hp
    have hv2 := setv_range hL hq
    obtain ⟨k1, z, b1, b2, k2, k3, k4, k4', k5, k6, k7, k8⟩ := ht
    have hc0 : w.cell? ⟨b, 0, none⟩ = some (.int .u8 ch) := (blk_cell k5 0).trans rfl
    have hc3 : w.cell? ⟨b, 3, none⟩ = some (.slice (some ⟨z, 0, none⟩) 2 2) := (blk_cell k5 3).trans rfl
    have hq0 : w.cell? ⟨z, 0, none⟩ = some (.pointer (some ⟨b1, 0, none⟩)) := (blk_cell k6 0).trans rfl
    have hq1 : w.cell? ⟨z, 1, none⟩ = some (.pointer (some ⟨b2, 0, none⟩)) := (blk_cell k6 1).trans rfl
    have HA := Aside0.mk (fun n => ih1 b1 (w.drewN n) (k7.same rfl) (Kd.C_drewN hC n))
    have HQ := Aside0.mk (fun n => ih2 b2 (w.drewN n) (k8.same rfl) (Kd.C_drewN hC n))
    obtain ⟨X, hX⟩ : ∃ X, setv L p = X := ⟨_, rfl⟩
    obtain ⟨Y, hY⟩ : ∃ X, setv L q = X := ⟨_, rfl⟩
    have HV : Aside0 (setv L (.two ch p q) = if ch = 38 then band X Y else bor X Y) := ⟨by rw [← hX, ← hY]; rfl⟩
    rw [hX] at HA hv
    rw [hY] at HQ hv2
    have hx := and_eq hv.1 hv.2 hv2.1 hv2.2
    have hy := or_eq hv.1 hv.2 hv2.1 hv2.2
    clear ih1 ih2 hC k1 k2 k3 k4 k4' k5 k6 k7 k8 hX hY hv hv2 hL L4
    rcases hch with rfl | rfl
    · rw [if_pos rfl] at HV
      go_enter Try.func58, Try.ntmps58
      go_wp2
      go_quiet ((go_at_call 58; first | (with_reducible exact Calls.quiet_of ((HA.out _).mono (fun _ _ h => ⟨h.1, h.2.out⟩))) | (with_reducible exact Calls.quiet_of ((HQ.out _).mono (fun _ _ h => ⟨h.1, h.2.out⟩)))))
      go_wp2
      go_ret
      exact ⟨int_ret HV.out.symm, by repeat (first | exact Drawn0.refl _ | apply Drawn0.step)⟩
    · rw [if_neg (by decide)] at HV
      go_enter Try.func58, Try.ntmps58
      go_wp2
      go_quiet ((go_at_call 58; first | (with_reducible exact Calls.quiet_of ((HA.out _).mono (fun _ _ h => ⟨h.1, h.2.out⟩))) | (with_reducible exact Calls.quiet_of ((HQ.out _).mono (fun _ _ h => ⟨h.1, h.2.out⟩)))))
      go_wp2
      go_ret
      exact ⟨int_ret HV.out.symm, by repeat (first | exact Drawn0.refl _ | apply Drawn0.step)⟩

/-! ### impl_placeOf: function 63 -/
def impl_placeOf.f (a0 : Int) (a1 : Int) : Option (Int) := some (wrap64 ((wrap64 (Int.tdiv (wrap64 (a0 * (wrap64 (a0 + 1)))) 2)) + a1))
set_option maxHeartbeats 8000000 in
set_option maxRecDepth 100000 in
theorem impl_placeOf.calls (a0 : Int) (a1 : Int) (r : Int) (w : World) (h : impl_placeOf.f a0 a1 = some r) :
    Calls Try.prog 63 #[.int .i64 a0, .int .i64 a1] w fun e w' => e = .returned (.int .i64 r) ∧ Drawn0 w w' := by
  have H : (some (wrap64 ((wrap64 (Int.tdiv (wrap64 (a0 * (wrap64 (a0 + 1)))) 2)) + a1))) = some r := h
  clear h
  obtain rfl := Option.some.inj H
  go_enter Try.func63, Try.ntmps63
  go_wp2
  go_ret
  exact ⟨by first | rfl | (simp; done) | (simp [*]; done), by repeat (first | exact Drawn0.refl _ | apply Drawn0.step)⟩

/-! ### impl_holds: function 59 -/
def impl_holds.f (l0 : List Int) (a1 : Int) (a2 : Int) : Option (Bool) := (impl_placeOf.f a1 a2).bind fun t225 => (if 0 ≤ t225 then (if t225 < (l0.length : Int) then (some ((rd l0 t225) == 1)) else (none)) else (none))
set_option maxHeartbeats 8000000 in
set_option maxRecDepth 100000 in
theorem impl_holds.calls (A0 : Option Addr) (c0 : Nat) (l0 : List Int) (a1 : Int) (a2 : Int) (r : Bool) (w : World) (hr0 : Kd.C (Kd.int .i64) w A0 l0.length l0) (hc0 : l0.length ≤ c0) (h : impl_holds.f l0 a1 a2 = some r) :
    Calls Try.prog 59 #[.slice A0 l0.length c0, .int .i64 a1, .int .i64 a2] w fun e w' => e = .returned (.bool r) ∧ Drawn0 w w' := by
  have HR0 := Aside0.mk hr0
  have HC0 := Aside0.mk hc0
  clear hr0 hc0
  have H : ((impl_placeOf.f a1 a2).bind fun t225 => (if 0 ≤ t225 then (if t225 < (l0.length : Int) then (some ((rd l0 t225) == 1)) else (none)) else (none))) = some r := h
  clear h
  replace H := Option.bind_eq_some_iff.mp H
  obtain ⟨t225, A40, H⟩ := H
  replace H : (if 0 ≤ t225 then (if t225 < (l0.length : Int) then (some ((rd l0 t225) == 1)) else (none)) else (none)) = some r := H
  have A4 := Aside0.mk A40
  clear A40
  by_cases c5 : 0 ≤ t225
  · rw [if_pos c5] at H
    have c5b0 : decide (0 ≤ t225) = true := decide_eq_true c5
    clear c5
    by_cases c6 : t225 < (l0.length : Int)
    · rw [if_pos c6] at H
      have c6b0 : decide (t225 < (l0.length : Int)) = true := decide_eq_true c6
      clear c6
      obtain rfl := Option.some.inj H
      go_enter Try.func59, Try.ntmps59
      go_wp2_with (first | ((with_reducible refine gate_callee (f := 63) rfl ?_); refine goesL_ (some 10) rfl rfl Try.func63 (by kernel_rfl) rfl #[.int .i64 a1, .int .i64 a2] rfl (by (try simp only [List.map_toArray, List.map_cons, List.map_nil]); first | done | rfl | (simp only [List.length_drop, List.length_take]; rfl)) ?_; (with_reducible refine (impl_placeOf.calls a1 a2 t225 _ A4.out).mono ?_); rintro e w' ⟨rfl, ⟨nd, rfl⟩⟩; refine ⟨_, rfl, ?_⟩; have p226 : 0 ≤ (t225 : Int) := of_decide_eq_true (by first | (with_reducible assumption) | assumption); have q226 : t225 < (l0.length : Int) := of_decide_eq_true (by first | (with_reducible assumption) | assumption); obtain ⟨ad226, e226, hx226_0⟩ := Kd.at_int HR0.out t225 p226 q226; cases e226; replace p226 := eq_true p226; replace q226 := eq_true q226))
      go_ret
      exact ⟨by first | rfl | (simp; done) | (simp [*]; done), by repeat (first | exact Drawn0.refl _ | apply Drawn0.step)⟩
    · rw [if_neg c6] at H
      exact absurd H (by simp)
  · rw [if_neg c5] at H
    exact absurd H (by simp)

-- left out: function 96 (bits_OnesCount32)

/-! ### bits_OnesCount64: function 97 -/
def bits_OnesCount64.f (a0 : Int) : Option (Int) := some (Go.bits .and .i64 (wrap64 (IntKind.u64.wrap ((IntKind.u64.wrap ((IntKind.u64.wrap ((Go.bits .and .u64 (IntKind.u64.wrap (((IntKind.u64.wrap ((Go.bits .and .u64 ((IntKind.u64.wrap ((Go.bits .and .u64 (a0 / 2) 6148914691236517205) + (Go.bits .and .u64 a0 6148914691236517205))) / 4) 3689348814741910323) + (Go.bits .and .u64 (IntKind.u64.wrap ((Go.bits .and .u64 (a0 / 2) 6148914691236517205) + (Go.bits .and .u64 a0 6148914691236517205))) 3689348814741910323))) / 16) + (IntKind.u64.wrap ((Go.bits .and .u64 ((IntKind.u64.wrap ((Go.bits .and .u64 (a0 / 2) 6148914691236517205) + (Go.bits .and .u64 a0 6148914691236517205))) / 4) 3689348814741910323) + (Go.bits .and .u64 (IntKind.u64.wrap ((Go.bits .and .u64 (a0 / 2) 6148914691236517205) + (Go.bits .and .u64 a0 6148914691236517205))) 3689348814741910323))))) 1085102592571150095) + ((Go.bits .and .u64 (IntKind.u64.wrap (((IntKind.u64.wrap ((Go.bits .and .u64 ((IntKind.u64.wrap ((Go.bits .and .u64 (a0 / 2) 6148914691236517205) + (Go.bits .and .u64 a0 6148914691236517205))) / 4) 3689348814741910323) + (Go.bits .and .u64 (IntKind.u64.wrap ((Go.bits .and .u64 (a0 / 2) 6148914691236517205) + (Go.bits .and .u64 a0 6148914691236517205))) 3689348814741910323))) / 16) + (IntKind.u64.wrap ((Go.bits .and .u64 ((IntKind.u64.wrap ((Go.bits .and .u64 (a0 / 2) 6148914691236517205) + (Go.bits .and .u64 a0 6148914691236517205))) / 4) 3689348814741910323) + (Go.bits .and .u64 (IntKind.u64.wrap ((Go.bits .and .u64 (a0 / 2) 6148914691236517205) + (Go.bits .and .u64 a0 6148914691236517205))) 3689348814741910323))))) 1085102592571150095) / 256))) + ((IntKind.u64.wrap ((Go.bits .and .u64 (IntKind.u64.wrap (((IntKind.u64.wrap ((Go.bits .and .u64 ((IntKind.u64.wrap ((Go.bits .and .u64 (a0 / 2) 6148914691236517205) + (Go.bits .and .u64 a0 6148914691236517205))) / 4) 3689348814741910323) + (Go.bits .and .u64 (IntKind.u64.wrap ((Go.bits .and .u64 (a0 / 2) 6148914691236517205) + (Go.bits .and .u64 a0 6148914691236517205))) 3689348814741910323))) / 16) + (IntKind.u64.wrap ((Go.bits .and .u64 ((IntKind.u64.wrap ((Go.bits .and .u64 (a0 / 2) 6148914691236517205) + (Go.bits .and .u64 a0 6148914691236517205))) / 4) 3689348814741910323) + (Go.bits .and .u64 (IntKind.u64.wrap ((Go.bits .and .u64 (a0 / 2) 6148914691236517205) + (Go.bits .and .u64 a0 6148914691236517205))) 3689348814741910323))))) 1085102592571150095) + ((Go.bits .and .u64 (IntKind.u64.wrap (((IntKind.u64.wrap ((Go.bits .and .u64 ((IntKind.u64.wrap ((Go.bits .and .u64 (a0 / 2) 6148914691236517205) + (Go.bits .and .u64 a0 6148914691236517205))) / 4) 3689348814741910323) + (Go.bits .and .u64 (IntKind.u64.wrap ((Go.bits .and .u64 (a0 / 2) 6148914691236517205) + (Go.bits .and .u64 a0 6148914691236517205))) 3689348814741910323))) / 16) + (IntKind.u64.wrap ((Go.bits .and .u64 ((IntKind.u64.wrap ((Go.bits .and .u64 (a0 / 2) 6148914691236517205) + (Go.bits .and .u64 a0 6148914691236517205))) / 4) 3689348814741910323) + (Go.bits .and .u64 (IntKind.u64.wrap ((Go.bits .and .u64 (a0 / 2) 6148914691236517205) + (Go.bits .and .u64 a0 6148914691236517205))) 3689348814741910323))))) 1085102592571150095) / 256))) / 65536))) + ((IntKind.u64.wrap ((IntKind.u64.wrap ((Go.bits .and .u64 (IntKind.u64.wrap (((IntKind.u64.wrap ((Go.bits .and .u64 ((IntKind.u64.wrap ((Go.bits .and .u64 (a0 / 2) 6148914691236517205) + (Go.bits .and .u64 a0 6148914691236517205))) / 4) 3689348814741910323) + (Go.bits .and .u64 (IntKind.u64.wrap ((Go.bits .and .u64 (a0 / 2) 6148914691236517205) + (Go.bits .and .u64 a0 6148914691236517205))) 3689348814741910323))) / 16) + (IntKind.u64.wrap ((Go.bits .and .u64 ((IntKind.u64.wrap ((Go.bits .and .u64 (a0 / 2) 6148914691236517205) + (Go.bits .and .u64 a0 6148914691236517205))) / 4) 3689348814741910323) + (Go.bits .and .u64 (IntKind.u64.wrap ((Go.bits .and .u64 (a0 / 2) 6148914691236517205) + (Go.bits .and .u64 a0 6148914691236517205))) 3689348814741910323))))) 1085102592571150095) + ((Go.bits .and .u64 (IntKind.u64.wrap (((IntKind.u64.wrap ((Go.bits .and .u64 ((IntKind.u64.wrap ((Go.bits .and .u64 (a0 / 2) 6148914691236517205) + (Go.bits .and .u64 a0 6148914691236517205))) / 4) 3689348814741910323) + (Go.bits .and .u64 (IntKind.u64.wrap ((Go.bits .and .u64 (a0 / 2) 6148914691236517205) + (Go.bits .and .u64 a0 6148914691236517205))) 3689348814741910323))) / 16) + (IntKind.u64.wrap ((Go.bits .and .u64 ((IntKind.u64.wrap ((Go.bits .and .u64 (a0 / 2) 6148914691236517205) + (Go.bits .and .u64 a0 6148914691236517205))) / 4) 3689348814741910323) + (Go.bits .and .u64 (IntKind.u64.wrap ((Go.bits .and .u64 (a0 / 2) 6148914691236517205) + (Go.bits .and .u64 a0 6148914691236517205))) 3689348814741910323))))) 1085102592571150095) / 256))) + ((IntKind.u64.wrap ((Go.bits .and .u64 (IntKind.u64.wrap (((IntKind.u64.wrap ((Go.bits .and .u64 ((IntKind.u64.wrap ((Go.bits .and .u64 (a0 / 2) 6148914691236517205) + (Go.bits .and .u64 a0 6148914691236517205))) / 4) 3689348814741910323) + (Go.bits .and .u64 (IntKind.u64.wrap ((Go.bits .and .u64 (a0 / 2) 6148914691236517205) + (Go.bits .and .u64 a0 6148914691236517205))) 3689348814741910323))) / 16) + (IntKind.u64.wrap ((Go.bits .and .u64 ((IntKind.u64.wrap ((Go.bits .and .u64 (a0 / 2) 6148914691236517205) + (Go.bits .and .u64 a0 6148914691236517205))) / 4) 3689348814741910323) + (Go.bits .and .u64 (IntKind.u64.wrap ((Go.bits .and .u64 (a0 / 2) 6148914691236517205) + (Go.bits .and .u64 a0 6148914691236517205))) 3689348814741910323))))) 1085102592571150095) + ((Go.bits .and .u64 (IntKind.u64.wrap (((IntKind.u64.wrap ((Go.bits .and .u64 ((IntKind.u64.wrap ((Go.bits .and .u64 (a0 / 2) 6148914691236517205) + (Go.bits .and .u64 a0 6148914691236517205))) / 4) 3689348814741910323) + (Go.bits .and .u64 (IntKind.u64.wrap ((Go.bits .and .u64 (a0 / 2) 6148914691236517205) + (Go.bits .and .u64 a0 6148914691236517205))) 3689348814741910323))) / 16) + (IntKind.u64.wrap ((Go.bits .and .u64 ((IntKind.u64.wrap ((Go.bits .and .u64 (a0 / 2) 6148914691236517205) + (Go.bits .and .u64 a0 6148914691236517205))) / 4) 3689348814741910323) + (Go.bits .and .u64 (IntKind.u64.wrap ((Go.bits .and .u64 (a0 / 2) 6148914691236517205) + (Go.bits .and .u64 a0 6148914691236517205))) 3689348814741910323))))) 1085102592571150095) / 256))) / 65536))) / 4294967296)))) 127)
set_option maxHeartbeats 8000000 in
set_option maxRecDepth 100000 in
theorem bits_OnesCount64.calls (a0 : Int) (r : Int) (w : World) (h : bits_OnesCount64.f a0 = some r) :
    Calls Try.prog 97 #[.int .u64 a0] w fun e w' => e = .returned (.int .i64 r) ∧ Drawn0 w w' := by
  have H : (some (Go.bits .and .i64 (wrap64 (IntKind.u64.wrap ((IntKind.u64.wrap ((IntKind.u64.wrap ((Go.bits .and .u64 (IntKind.u64.wrap (((IntKind.u64.wrap ((Go.bits .and .u64 ((IntKind.u64.wrap ((Go.bits .and .u64 (a0 / 2) 6148914691236517205) + (Go.bits .and .u64 a0 6148914691236517205))) / 4) 3689348814741910323) + (Go.bits .and .u64 (IntKind.u64.wrap ((Go.bits .and .u64 (a0 / 2) 6148914691236517205) + (Go.bits .and .u64 a0 6148914691236517205))) 3689348814741910323))) / 16) + (IntKind.u64.wrap ((Go.bits .and .u64 ((IntKind.u64.wrap ((Go.bits .and .u64 (a0 / 2) 6148914691236517205) + (Go.bits .and .u64 a0 6148914691236517205))) / 4) 3689348814741910323) + (Go.bits .and .u64 (IntKind.u64.wrap ((Go.bits .and .u64 (a0 / 2) 6148914691236517205) + (Go.bits .and .u64 a0 6148914691236517205))) 3689348814741910323))))) 1085102592571150095) + ((Go.bits .and .u64 (IntKind.u64.wrap (((IntKind.u64.wrap ((Go.bits .and .u64 ((IntKind.u64.wrap ((Go.bits .and .u64 (a0 / 2) 6148914691236517205) + (Go.bits .and .u64 a0 6148914691236517205))) / 4) 3689348814741910323) + (Go.bits .and .u64 (IntKind.u64.wrap ((Go.bits .and .u64 (a0 / 2) 6148914691236517205) + (Go.bits .and .u64 a0 6148914691236517205))) 3689348814741910323))) / 16) + (IntKind.u64.wrap ((Go.bits .and .u64 ((IntKind.u64.wrap ((Go.bits .and .u64 (a0 / 2) 6148914691236517205) + (Go.bits .and .u64 a0 6148914691236517205))) / 4) 3689348814741910323) + (Go.bits .and .u64 (IntKind.u64.wrap ((Go.bits .and .u64 (a0 / 2) 6148914691236517205) + (Go.bits .and .u64 a0 6148914691236517205))) 3689348814741910323))))) 1085102592571150095) / 256))) + ((IntKind.u64.wrap ((Go.bits .and .u64 (IntKind.u64.wrap (((IntKind.u64.wrap ((Go.bits .and .u64 ((IntKind.u64.wrap ((Go.bits .and .u64 (a0 / 2) 6148914691236517205) + (Go.bits .and .u64 a0 6148914691236517205))) / 4) 3689348814741910323) + (Go.bits .and .u64 (IntKind.u64.wrap ((Go.bits .and .u64 (a0 / 2) 6148914691236517205) + (Go.bits .and .u64 a0 6148914691236517205))) 3689348814741910323))) / 16) + (IntKind.u64.wrap ((Go.bits .and .u64 ((IntKind.u64.wrap ((Go.bits .and .u64 (a0 / 2) 6148914691236517205) + (Go.bits .and .u64 a0 6148914691236517205))) / 4) 3689348814741910323) + (Go.bits .and .u64 (IntKind.u64.wrap ((Go.bits .and .u64 (a0 / 2) 6148914691236517205) + (Go.bits .and .u64 a0 6148914691236517205))) 3689348814741910323))))) 1085102592571150095) + ((Go.bits .and .u64 (IntKind.u64.wrap (((IntKind.u64.wrap ((Go.bits .and .u64 ((IntKind.u64.wrap ((Go.bits .and .u64 (a0 / 2) 6148914691236517205) + (Go.bits .and .u64 a0 6148914691236517205))) / 4) 3689348814741910323) + (Go.bits .and .u64 (IntKind.u64.wrap ((Go.bits .and .u64 (a0 / 2) 6148914691236517205) + (Go.bits .and .u64 a0 6148914691236517205))) 3689348814741910323))) / 16) + (IntKind.u64.wrap ((Go.bits .and .u64 ((IntKind.u64.wrap ((Go.bits .and .u64 (a0 / 2) 6148914691236517205) + (Go.bits .and .u64 a0 6148914691236517205))) / 4) 3689348814741910323) + (Go.bits .and .u64 (IntKind.u64.wrap ((Go.bits .and .u64 (a0 / 2) 6148914691236517205) + (Go.bits .and .u64 a0 6148914691236517205))) 3689348814741910323))))) 1085102592571150095) / 256))) / 65536))) + ((IntKind.u64.wrap ((IntKind.u64.wrap ((Go.bits .and .u64 (IntKind.u64.wrap (((IntKind.u64.wrap ((Go.bits .and .u64 ((IntKind.u64.wrap ((Go.bits .and .u64 (a0 / 2) 6148914691236517205) + (Go.bits .and .u64 a0 6148914691236517205))) / 4) 3689348814741910323) + (Go.bits .and .u64 (IntKind.u64.wrap ((Go.bits .and .u64 (a0 / 2) 6148914691236517205) + (Go.bits .and .u64 a0 6148914691236517205))) 3689348814741910323))) / 16) + (IntKind.u64.wrap ((Go.bits .and .u64 ((IntKind.u64.wrap ((Go.bits .and .u64 (a0 / 2) 6148914691236517205) + (Go.bits .and .u64 a0 6148914691236517205))) / 4) 3689348814741910323) + (Go.bits .and .u64 (IntKind.u64.wrap ((Go.bits .and .u64 (a0 / 2) 6148914691236517205) + (Go.bits .and .u64 a0 6148914691236517205))) 3689348814741910323))))) 1085102592571150095) + ((Go.bits .and .u64 (IntKind.u64.wrap (((IntKind.u64.wrap ((Go.bits .and .u64 ((IntKind.u64.wrap ((Go.bits .and .u64 (a0 / 2) 6148914691236517205) + (Go.bits .and .u64 a0 6148914691236517205))) / 4) 3689348814741910323) + (Go.bits .and .u64 (IntKind.u64.wrap ((Go.bits .and .u64 (a0 / 2) 6148914691236517205) + (Go.bits .and .u64 a0 6148914691236517205))) 3689348814741910323))) / 16) + (IntKind.u64.wrap ((Go.bits .and .u64 ((IntKind.u64.wrap ((Go.bits .and .u64 (a0 / 2) 6148914691236517205) + (Go.bits .and .u64 a0 6148914691236517205))) / 4) 3689348814741910323) + (Go.bits .and .u64 (IntKind.u64.wrap ((Go.bits .and .u64 (a0 / 2) 6148914691236517205) + (Go.bits .and .u64 a0 6148914691236517205))) 3689348814741910323))))) 1085102592571150095) / 256))) + ((IntKind.u64.wrap ((Go.bits .and .u64 (IntKind.u64.wrap (((IntKind.u64.wrap ((Go.bits .and .u64 ((IntKind.u64.wrap ((Go.bits .and .u64 (a0 / 2) 6148914691236517205) + (Go.bits .and .u64 a0 6148914691236517205))) / 4) 3689348814741910323) + (Go.bits .and .u64 (IntKind.u64.wrap ((Go.bits .and .u64 (a0 / 2) 6148914691236517205) + (Go.bits .and .u64 a0 6148914691236517205))) 3689348814741910323))) / 16) + (IntKind.u64.wrap ((Go.bits .and .u64 ((IntKind.u64.wrap ((Go.bits .and .u64 (a0 / 2) 6148914691236517205) + (Go.bits .and .u64 a0 6148914691236517205))) / 4) 3689348814741910323) + (Go.bits .and .u64 (IntKind.u64.wrap ((Go.bits .and .u64 (a0 / 2) 6148914691236517205) + (Go.bits .and .u64 a0 6148914691236517205))) 3689348814741910323))))) 1085102592571150095) + ((Go.bits .and .u64 (IntKind.u64.wrap (((IntKind.u64.wrap ((Go.bits .and .u64 ((IntKind.u64.wrap ((Go.bits .and .u64 (a0 / 2) 6148914691236517205) + (Go.bits .and .u64 a0 6148914691236517205))) / 4) 3689348814741910323) + (Go.bits .and .u64 (IntKind.u64.wrap ((Go.bits .and .u64 (a0 / 2) 6148914691236517205) + (Go.bits .and .u64 a0 6148914691236517205))) 3689348814741910323))) / 16) + (IntKind.u64.wrap ((Go.bits .and .u64 ((IntKind.u64.wrap ((Go.bits .and .u64 (a0 / 2) 6148914691236517205) + (Go.bits .and .u64 a0 6148914691236517205))) / 4) 3689348814741910323) + (Go.bits .and .u64 (IntKind.u64.wrap ((Go.bits .and .u64 (a0 / 2) 6148914691236517205) + (Go.bits .and .u64 a0 6148914691236517205))) 3689348814741910323))))) 1085102592571150095) / 256))) / 65536))) / 4294967296)))) 127)) = some r := h
  clear h
  obtain rfl := Option.some.inj H
  go_enter Try.func97, Try.ntmps97
  go_wp2
  go_ret
  exact ⟨by first | rfl | (simp; done) | (simp [*]; done), by repeat (first | exact Drawn0.refl _ | apply Drawn0.step)⟩

/-! ### bits_OnesCount: function 80 -/
def bits_OnesCount.f (a0 : Int) : Option (Int) := (bits_OnesCount64.f a0).bind fun t227 => (some t227)
set_option maxHeartbeats 8000000 in
set_option maxRecDepth 100000 in
theorem bits_OnesCount.calls (a0 : Int) (r : Int) (w : World) (h : bits_OnesCount.f a0 = some r) :
    Calls Try.prog 80 #[.int .u64 a0] w fun e w' => e = .returned (.int .i64 r) ∧ Drawn0 w w' := by
  have H : ((bits_OnesCount64.f a0).bind fun t227 => (some t227)) = some r := h
  clear h
  replace H := Option.bind_eq_some_iff.mp H
  obtain ⟨t227, A20, H⟩ := H
  replace H : (some t227) = some r := H
  have A2 := Aside0.mk A20
  clear A20
  obtain rfl := Option.some.inj H
  go_enter Try.func80, Try.ntmps80
  go_wp2_with (first | ((with_reducible refine gate_callee (f := 97) rfl ?_); refine goesL_ (some 7) rfl rfl Try.func97 (by kernel_rfl) rfl #[.int .u64 a0] rfl (by (try simp only [List.map_toArray, List.map_cons, List.map_nil]); first | done | rfl | (simp only [List.length_drop, List.length_take]; rfl)) ?_; (with_reducible refine (bits_OnesCount64.calls a0 t227 _ A2.out).mono ?_); rintro e w' ⟨rfl, ⟨nd, rfl⟩⟩; refine ⟨_, rfl, ?_⟩))
  go_ret
  exact ⟨by first | rfl | (simp; done) | (simp [*]; done), by repeat (first | exact Drawn0.refl _ | apply Drawn0.step)⟩

/-! ### impl_sizeOf: function 60 -/
def impl_sizeOf.f (a0 : Int) : Option (Int) := (bits_OnesCount.f (IntKind.u64.wrap (a0))).bind fun t228 => (some t228)
set_option maxHeartbeats 8000000 in
set_option maxRecDepth 100000 in
theorem impl_sizeOf.calls (a0 : Int) (r : Int) (w : World) (h : impl_sizeOf.f a0 = some r) :
    Calls Try.prog 60 #[.int .i64 a0] w fun e w' => e = .returned (.int .i64 r) ∧ Drawn0 w w' := by
  have H : ((bits_OnesCount.f (IntKind.u64.wrap (a0))).bind fun t228 => (some t228)) = some r := h
  clear h
  replace H := Option.bind_eq_some_iff.mp H
  obtain ⟨t228, A20, H⟩ := H
  replace H : (some t228) = some r := H
  have A2 := Aside0.mk A20
  clear A20
  obtain rfl := Option.some.inj H
  go_enter Try.func60, Try.ntmps60
  go_wp2_with (first | ((with_reducible refine gate_callee (f := 80) rfl ?_); refine goesL_ (some 5) rfl rfl Try.func80 (by kernel_rfl) rfl #[.int .u64 (IntKind.u64.wrap (a0))] rfl (by (try simp only [List.map_toArray, List.map_cons, List.map_nil]); first | done | rfl | (simp only [List.length_drop, List.length_take]; rfl)) ?_; (with_reducible refine (bits_OnesCount.calls (IntKind.u64.wrap (a0)) t228 _ A2.out).mono ?_); rintro e w' ⟨rfl, ⟨nd, rfl⟩⟩; refine ⟨_, rfl, ?_⟩))
  go_ret
  exact ⟨by first | rfl | (simp; done) | (simp [*]; done), by repeat (first | exact Drawn0.refl _ | apply Drawn0.step)⟩

/-! ### impl_part_isTrue: function 39 -/
theorem isize_all : ∀ x : Fin 8, impl_sizeOf.f x.val = some (szv x.val) := by decide +kernel
theorem iplace_all : ∀ x y : Fin 8, impl_placeOf.f (szv x.val) (szv (band x.val y.val)) = some (plc (szv x.val) (szv (band x.val y.val))) := by decide +kernel
theorem isize_eq {x : Int} (h0 : 0 ≤ x) (h7 : x ≤ 7) : impl_sizeOf.f x = some (szv x) := by
  obtain ⟨a, rfl⟩ := fin_of h0 h7
  exact isize_all a
theorem iholds_eq {t : List Int} (ht : t.length = 21) {x y : Int} (h0 : 0 ≤ x) (h7 : x ≤ 7) (k0 : 0 ≤ y) (k7 : y ≤ 7) : impl_holds.f t (szv x) (szv (band x y)) = some (rd t (plc (szv x) (szv (band x y))) == 1) := by
  have hp := place_eq h0 h7 k0 k7
  have hi : impl_placeOf.f (szv x) (szv (band x y)) = some (plc (szv x) (szv (band x y))) := by
    obtain ⟨a, rfl⟩ := fin_of h0 h7
    obtain ⟨b, rfl⟩ := fin_of k0 k7
    exact iplace_all a b
  unfold impl_holds.f
  rw [hi]
  simp only [Option.bind_some]
  rw [if_pos hp.2.1, if_pos (by rw [ht]; exact hp.2.2)]
theorem quiet_two {P : Program} {f : FuncId} {args : Array Value} {w : World} {a n : Nat} {v : Value} (h : Calls P f args (w.drewN (a + n)) fun e w' => e = .returned v ∧ Drawn0 (w.drewN (a + n)) w') :
    Calls P f args (w.drewN (a + n)) fun e w' => e = .returned v ∧ ∃ m, w' = w.drewN (a + m) := by
  refine h.mono ?_
  rintro e w' ⟨he, m, hm⟩
  exact ⟨he, n + m, by rw [hm, World.drewN_drewN, Nat.add_assoc]⟩
theorem bool_ret {a b : Bool} (h : a = b) : Ending.returned (.bool a) = .returned (.bool b) := by rw [h]
set_option maxHeartbeats 8000000 in
set_option maxRecDepth 100000 in
theorem impl_part_isTrue.calls (L : List Int) (hL : Sets L) (A : Option Addr) (c : Nat) (hc : L.length ≤ c) (g : Nat) {p : PT} (hp : SentT p) : ∀ (b : Nat) (w : World), Tree g w p b → Kd.C (Kd.int .i64) w A L.length L →
    Calls Try.prog 39 #[.pointer (some ⟨b, 0, none⟩), .slice A L.length c] w fun e w' => e = .returned (.bool (truv L p)) ∧ Drawn0 w w' := by
  induction hp with
  | @one p hp ih =>
    intro b w ht hC
    obtain ⟨k1, q, b1, k2, k3, k4, k5, k6, k7⟩ := ht
    have hc0 : w.cell? ⟨b, 0, none⟩ = some (.int .u8 126) := (blk_cell k5 0).trans rfl
    have hc3 : w.cell? ⟨b, 3, none⟩ = some (.slice (some ⟨q, 0, none⟩) 1 1) := (blk_cell k5 3).trans rfl
    have hq0 : w.cell? ⟨q, 0, none⟩ = some (.pointer (some ⟨b1, 0, none⟩)) := (blk_cell k6 0).trans rfl
    have HA := Aside0.mk (ih b1 w k7 hC)
    obtain ⟨X, hX⟩ : ∃ X, truv L p = X := ⟨_, rfl⟩
    have HV : Aside0 (truv L (.one 126 p) = !X) := ⟨by rw [← hX]; rfl⟩
    rw [hX] at HA
    clear ih hC k1 k2 k3 k4 k5 k6 k7 hX hL
    go_enter Try.func39, Try.ntmps39
    go_wp2_with (go_at_call 39; (with_reducible refine HA.out.mono ?_); rintro e w2 ⟨rfl, ⟨nd, rfl⟩⟩)
    go_ret
    exact ⟨bool_ret (HV.out.symm), by repeat (first | exact Drawn0.refl _ | apply Drawn0.step)⟩
  | @two ch p q hch hp hq ih1 ih2 =>
    intro b w ht hC
    obtain ⟨k1, z, b1, b2, k2, k3, k4, k4', k5, k6, k7, k8⟩ := ht
    have hc0 : w.cell? ⟨b, 0, none⟩ = some (.int .u8 ch) := (blk_cell k5 0).trans rfl
    have hc3 : w.cell? ⟨b, 3, none⟩ = some (.slice (some ⟨z, 0, none⟩) 2 2) := (blk_cell k5 3).trans rfl
    have hq0 : w.cell? ⟨z, 0, none⟩ = some (.pointer (some ⟨b1, 0, none⟩)) := (blk_cell k6 0).trans rfl
    have hq1 : w.cell? ⟨z, 1, none⟩ = some (.pointer (some ⟨b2, 0, none⟩)) := (blk_cell k6 1).trans rfl
    have HA := Aside0.mk (ih1 b1 w k7 hC)
    have HQ := Aside0.mk (fun n => ih2 b2 (w.drewN n) (k8.same rfl) (Kd.C_drewN hC n))
    obtain ⟨X, hX⟩ : ∃ X, truv L p = X := ⟨_, rfl⟩
    obtain ⟨Y, hY⟩ : ∃ X, truv L q = X := ⟨_, rfl⟩
    have HV : Aside0 (truv L (.two ch p q) = if ch = 38 then X && Y else X || Y) := ⟨by rw [← hX, ← hY]; rfl⟩
    rw [hX] at HA
    rw [hY] at HQ
    clear ih1 ih2 hC k1 k2 k3 k4 k4' k5 k6 k7 k8 hX hY hL
    rcases hch with rfl | rfl
    · rw [if_pos rfl] at HV
      cases X
      all_goals
        go_enter Try.func39, Try.ntmps39
        go_wp2_with (go_at_call 39; first | ((with_reducible refine HA.out.mono ?_); rintro e w2 ⟨rfl, ⟨nd, rfl⟩⟩) | ((with_reducible refine (HQ.out _).mono ?_); rintro e w2 ⟨rfl, ⟨nd2, rfl⟩⟩))
        go_ret
        exact ⟨bool_ret (by rw [HV.out]; first | rfl | simp), by repeat (first | exact Drawn0.refl _ | apply Drawn0.step)⟩
    · rw [if_neg (by decide)] at HV
      cases X
      all_goals
        go_enter Try.func39, Try.ntmps39
        go_wp2_with (go_at_call 39; first | ((with_reducible refine HA.out.mono ?_); rintro e w2 ⟨rfl, ⟨nd, rfl⟩⟩) | ((with_reducible refine (HQ.out _).mono ?_); rintro e w2 ⟨rfl, ⟨nd2, rfl⟩⟩))
        go_ret
        exact ⟨bool_ret (by rw [HV.out]; first | rfl | simp), by repeat (first | exact Drawn0.refl _ | apply Drawn0.step)⟩
  | @tri t p q x hx hp hq =>
    intro b w ht hC
    have hv := setv_range hL hp
    have hv2 := setv_range hL hq
    obtain ⟨t21, _⟩ := nms_t _ hx
    simp only at t21
    obtain ⟨k1, z, b1, b2, v, k2, k3, k4, k4', k5, k6, kr, k7, k8⟩ := ht
    obtain ⟨At, ct, rfl⟩ := Kd.R_slice kr
    have krd := Kd.R_reads' kr
    have hc0 : w.cell? ⟨b, 0, none⟩ = some (.int .u8 44) := (blk_cell k5 0).trans rfl
    have hc1 : w.cell? ⟨b, 1, none⟩ = some (.slice At t.length ct) := (blk_cell k5 1).trans rfl
    have hc3 : w.cell? ⟨b, 3, none⟩ = some (.slice (some ⟨z, 0, none⟩) 2 2) := (blk_cell k5 3).trans rfl
    have hq0 : w.cell? ⟨z, 0, none⟩ = some (.pointer (some ⟨b1, 0, none⟩)) := (blk_cell k6 0).trans rfl
    have hq1 : w.cell? ⟨z, 1, none⟩ = some (.pointer (some ⟨b2, 0, none⟩)) := (blk_cell k6 1).trans rfl
    have HA := Aside0.mk (fun n => impl_part_setOf.calls L hL A c hc g hp b1 (w.drewN n) (k7.same rfl) (Kd.C_drewN hC n))
    have HQ := Aside0.mk (fun n => impl_part_setOf.calls L hL A c hc g hq b2 (w.drewN n) (k8.same rfl) (Kd.C_drewN hC n))
    obtain ⟨X, hX⟩ : ∃ X, setv L p = X := ⟨_, rfl⟩
    obtain ⟨Y, hY⟩ : ∃ X, setv L q = X := ⟨_, rfl⟩
    have HV : Aside0 (truv L (.tri t p q) = (rd t (plc (szv X) (szv (band X Y))) == 1)) := ⟨by rw [← hX, ← hY]; rfl⟩
    rw [hX] at HA hv
    rw [hY] at HQ hv2
    have bf := band_facts hv.1 hv.2 hv2.1 hv2.2
    have hx2 := and_eq hv.1 hv.2 hv2.1 hv2.2
    have HZ1 := Aside0.mk (fun wx => impl_sizeOf.calls X _ wx (isize_eq hv.1 hv.2))
    have HZ2 := Aside0.mk (fun wx => impl_sizeOf.calls (band X Y) _ wx (isize_eq bf.1 bf.2.1))
    have HH := Aside0.mk (fun n => impl_holds.calls At ct t (szv X) (szv (band X Y)) _ (w.drewN n) (Kd.C_drewN krd.2.2 n) krd.2.1 (iholds_eq t21 hv.1 hv.2 hv2.1 hv2.2))
    clear hC k1 k2 k3 k4 k4' k5 k6 k7 k8 kr krd hX hY hL hv hv2 bf t21 hx
    go_enter Try.func39, Try.ntmps39
    go_wp2
    go_quiet ((go_at_call 58; first | (with_reducible exact Calls.quiet_of ((HA.out _).mono (fun _ _ h => ⟨h.1, h.2.out⟩))) | (with_reducible exact Calls.quiet_of ((HQ.out _).mono (fun _ _ h => ⟨h.1, h.2.out⟩)))))
    go_wp2
    go_quiet ((first | (go_at_call 60; first | (with_reducible exact quiet_two (HZ1.out _)) | (with_reducible exact quiet_two (HZ2.out _))) | (go_at_call 59; (with_reducible exact quiet_two (HH.out _)))))
    go_wp2
    go_ret
    exact ⟨bool_ret HV.out.symm, by repeat (first | exact Drawn0.refl _ | apply Drawn0.step)⟩

/-! ### impl_TrueOf: function 23 -/
def impl_TrueOf.f (l0 : List Int) (a1 : ByteArray) : Option (Bool) := some (match pread a1 with | none => false | some p => setsOk l0 && truv l0 p)
theorem psent_top {s : ByteArray} {p : PT} (h : pread s = some p) : SentT p ∧ lvs p ≤ 80 ∧ s.size ≤ 80 ∧ psent (s.size + 1) s 0 = some (p, s.size) := by
  unfold pread at h
  split at h
  · cases h
  · rename_i hc
    cases hp : psent (s.size + 1) s 0 with
    | none => rw [hp] at h; cases h
    | some r =>
      obtain ⟨q, e⟩ := r
      rw [hp] at h
      simp only at h
      split at h
      · rename_i he
        obtain rfl := Option.some.inj h
        have := psent_ok s _ 0 q e (by omega) hp
        subst he
        exact ⟨this.1, by omega, by omega, rfl⟩
      · cases h
theorem setsOk_of {L : List Int} (h4 : L.length = 4) (h : ∀ i : Nat, i < 4 → 0 ≤ rd L (i : Int) ∧ rd L (i : Int) ≤ 7) : setsOk L = true := by
  unfold setsOk
  simp only [Bool.and_eq_true, beq_iff_eq, List.all_eq_true, List.mem_range, decide_eq_true_eq]
  exact ⟨h4, fun i hi => h i hi⟩
theorem setsOk_not {L : List Int} (i : Nat) (hi : i < L.length) (h : ¬ (0 ≤ rd L (i : Int) ∧ rd L (i : Int) ≤ 7)) : setsOk L = false := by
  cases hs : setsOk L with
  | false => rfl
  | true =>
    have hS := setsOk_sets hs
    exact absurd (hS.2 (i : Int) (by omega) (by have := hS.1; omega)) h
theorem setsOk_len {L : List Int} (h : L.length ≠ 4) : setsOk L = false := by
  unfold setsOk
  rw [show (L.length == 4) = false by simpa using h]
  rfl
set_option maxHeartbeats 8000000 in
set_option maxRecDepth 100000 in
theorem impl_TrueOf.calls (A0 : Option Addr) (c0 : Nat) (l0 : List Int) (a1 : ByteArray) (r : Bool) (w : World) (hr0 : Kd.C (Kd.int .i64) w A0 l0.length l0) (hc0 : l0.length ≤ c0) (h : impl_TrueOf.f l0 a1 = some r) :
    Calls Try.prog 23 #[.slice A0 l0.length c0, .string a1] w fun e w' => e = .returned (.bool r) ∧ Below w.heap.size w w' := by
  unfold impl_TrueOf.f at h
  have HS := impl_readSentence.calls a1 w
  cases hp : pread a1 with
  | none =>
    rw [hp] at HS h
    obtain rfl : false = r := Option.some.inj h
    replace HS := Aside0.mk HS
    clear hp h hr0 hc0
    go_enter Try.func23, Try.ntmps23
    go_wp2_with (go_at_call 33; (with_reducible refine HS.out.mono ?_); rintro e w2 ⟨hb, rfl⟩)
    go_ret
    exact ⟨rfl, hb⟩
  | some p =>
    rw [hp] at HS h
    have hr : (setsOk l0 && truv l0 p) = r := Option.some.inj h
    replace HS := Aside0.mk HS
    have HT := Aside0.mk (psent_top hp).1
    by_cases h4 : l0.length = 4
    · obtain ⟨ad, hA, _⟩ := Kd.at_int hr0 0 (by omega) (by omega)
      subst hA
      have HC := Aside0.mk hr0
      have HR := Aside0.mk hr
      have HC0 := Aside0.mk hc0
      have H4 := Aside0.mk h4
      have f4 : ((l0.length : Int) != 4) = false := by simp [h4]
      have f4' : (l0.length != 4) = false := by simp [h4]
      have f4a : ((l0.length : Int) == 4) = true := by simp [h4]
      have f4b : (l0.length == 4) = true := by simp [h4]
      clear hp h hr0 hr hc0 h4
      go_enter Try.func23, Try.ntmps23
      go_wp2_with (go_at_call 33; (with_reducible refine HS.out.mono ?_); rintro e w2 ⟨hb, b, rfl, ht⟩; have HB := Aside0.mk hb; have HTr := Aside0.mk ht; have HC2 := Aside0.mk (Kd.C_below HC.out hb); clear hb ht)
      go_loopg [19] 5 (fun kq v19 w' => ∃ i : Nat, v19 = .int .i64 i ∧ Aside0 (kq + i = 5 ∧ i ≤ 4 ∧ ∀ j : Nat, j < i → 0 ≤ rd l0 (j : Int) ∧ rd l0 (j : Int) ≤ 7) ∧ w2 = w')
      case atStart => exact ⟨0, rfl, ⟨by omega, by omega, fun j hj => absurd hj (by omega)⟩, rfl⟩
      case round =>
        obtain ⟨i, rfl, HA, rfl⟩ := hrel
        cases gk with
        | zero => exact absurd HA.out (by omega)
        | succ k1 =>
          by_cases hi : i < 4
          · have r1 : decide ((i : Int) < (l0.length : Int)) = true := decide_eq_true (by have := H4.out; omega)
            have r2 : decide (i < l0.length) = true := decide_eq_true (by have := H4.out; omega)
            have r3 : 0 ≤ (i : Int) := by omega
            have r4 : (i : Int) < (l0.length : Int) := by have := H4.out; omega
            obtain ⟨ad', hA', hcell⟩ := Kd.at_int HC2.out (i : Int) (by omega) (by have := H4.out; omega)
            replace hA' := Option.some.inj hA'
            subst hA'
            rw [Int.toNat_natCast] at hcell
            have HI := Aside0.mk hi
            obtain ⟨X, hX⟩ : ∃ X, rd l0 (i : Int) = X := ⟨_, rfl⟩
            rw [hX] at hcell
            have E2 : Aside0 (wrap64 ((i : Int) + 1) = (i : Int) + 1) := ⟨by unfold wrap64; omega⟩
            by_cases hx : 0 ≤ X ∧ X ≤ 7
            · have r5 : decide (X < 0) = false := decide_eq_false (by omega)
              have r6 : decide (7 < X) = false := decide_eq_false (by omega)
              have HX := Aside0.mk (And.intro hX hx)
              clear hi hX hx
              have e2 := E2.out
              go_wp2
              go_roundg k1
              case measure => omega
              case rel =>
                refine ⟨i + 1, (by go_num), ⟨by have := HA.out.1; have := HI.out; omega, by have := HI.out; omega, fun j hj => ?_⟩, rfl⟩
                by_cases hji : j = i
                · subst hji; rw [HX.out.1]; exact HX.out.2
                · exact HA.out.2.2 j (by omega)
            · have hno := setsOk_not (L := l0) i (by have := H4.out; omega) (by rw [hX]; exact hx)
              have HE : Aside0 (false = r) := ⟨by rw [← HR.out, hno]; rfl⟩
              by_cases h0 : X < 0
              · have r5 : decide (X < 0) = true := decide_eq_true h0
                clear hi hX hx hno h0
                have e2 := E2.out
                go_wp2
                go_ret
                exact ⟨bool_ret HE.out, HB.out⟩
              · have r5 : decide (X < 0) = false := decide_eq_false h0
                have r6 : decide (7 < X) = true := decide_eq_true (by omega)
                clear hi hX hx hno h0
                have e2 := E2.out
                go_wp2
                go_ret
                exact ⟨bool_ret HE.out, HB.out⟩
          · have r1 : decide ((i : Int) < (l0.length : Int)) = false := decide_eq_false (by have := H4.out; omega)
            have r2 : decide (i < l0.length) = false := decide_eq_false (by have := H4.out; omega)
            have hok : setsOk l0 = true := setsOk_of H4.out (fun j hj => HA.out.2.2 j (by omega))
            have HE : Aside0 (truv l0 p = r) := ⟨by rw [← HR.out, hok]; rfl⟩
            have HQ := Aside0.mk (impl_part_isTrue.calls l0 (setsOk_sets hok) (some ad) c0 HC0.out w.heap.size HT.out b w2 HTr.out HC2.out)
            clear hi hok
            go_wp2_with (go_at_call 39; (with_reducible refine HQ.out.mono ?_); rintro e w3 ⟨rfl, ⟨nd, rfl⟩⟩)
            go_ret
            exact ⟨bool_ret HE.out, by repeat (first | exact HB.out | apply pw_below_drewN)⟩
    · have f4 : ((l0.length : Int) != 4) = true := by simp; omega
      have f4' : (l0.length != 4) = true := by simp [h4]
      have f4a : ((l0.length : Int) == 4) = false := by rw [beq_eq_false_iff_ne]; omega
      have f4b : (l0.length == 4) = false := by simp [h4]
      have HE : Aside0 (false = r) := ⟨by rw [← hr, setsOk_len h4]; rfl⟩
      clear hp h hr0 hr hc0 h4
      go_enter Try.func23, Try.ntmps23
      go_wp2_with (go_at_call 33; (with_reducible refine HS.out.mono ?_); rintro e w2 ⟨hb, b, rfl, ht⟩)
      go_ret
      exact ⟨bool_ret HE.out, hb⟩

end Go.Proofs.Ytfjfdnododnepaa.PFnExactTrueOf
