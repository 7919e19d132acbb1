-- Written by a program of this session (wip/patch_print.py, over the kit's print) and not by hand; Lean checks every word.
import Derived.Test.YtnnaiaiddjkjnaaPFnExactDeskRunxb
import Derived.Test.YtnnaiaiddjkjnaaPFnExactDeskRunxa
import Derived.Test.YtnnaiaiddjkjnaaPFnExactDeskRunx0
import Derived.Test.YtnnaiaiddjkjnaaPFnExactDeskRunx5
namespace Go.Proofs.Ytnnaiaiddjkjnaa.PFnExactDeskRun
open Go.RowKit Go.Proofs.YtnnaiaiddjkjnaaW.PrintWords Go.Proofs.YtnnaiaiddjkjnaaW.PrintLast Go.Proofs.YtnnaiaiddjkjnaaW.PrintMore
attribute [local go_sem] max2_int min2_int max_two min_two max_three min_three max_four min_four   -- for this text's walks alone
set_option linter.unusedVariables false
set_option linter.unusedSimpArgs false

/-! ### impl_areNow: function 63 -/
def impl_areNow.l0 : Nat → List (S25) → List (S25) → Int → Int → Option (Bool)
 | 0, _, _, _, _ => none
 | k + 1, x0, x5, x6, x7 => if x7 < x6 then (if 0 ≤ x7 then (if x7 < (x5.length : Int) then ((impl_isWeigh.f ((rd_T25 x5 x7).f0) ((rd_T25 x5 x7).f1) ((rd_T25 x5 x7).f2)).bind fun t167 => (if t167 = true then (if x7 ≤ (x0.length : Int) then ((impl_Say_83.f k (x0.take (x7 : Int).toNat) ((rd_T25 x5 x7).f0) ((rd_T25 x5 x7).f1) ((rd_T25 x5 x7).f2)).bind fun t172 => (if t172 = true then (some false) else (impl_areNow.l0 k x0 x5 x6 (wrap64 (x7 + 1))))) else (none)) else (some false))) else (none)) else (none)) else (some (decide ((x0.length : Int) < 6)))
def impl_areNow.f (k : Nat) (l0 : List (S25)) : Option (Bool) := impl_areNow.l0 k l0 l0 (l0.length : Int) 0
theorem impl_areNow.mono_l : ∀ k, (∀ y0 y1 y2 y3, LeO (impl_areNow.l0 k y0 y1 y2 y3) (impl_areNow.l0 (k + 1) y0 y1 y2 y3))
 | 0 => fun _ _ _ _ r h => by simp [impl_areNow.l0] at h
 | k + 1 => by
  have ih0 := impl_areNow.mono_l k
  ·intro y0 y1 y2 y3; unfold impl_areNow.l0; repeat' first
   | (with_reducible exact ih0 _ _ _ _)
   | (with_reducible exact impl_Say_83.mono _ _ _ _ _)
   | (with_reducible exact LeO.refl _)
   | (with_reducible exact LeO.none _)
   | (with_reducible refine LeO.ite ?_ ?_)
   | (with_reducible refine LeO.bind ?_ (fun _ => ?_))
   | exact ih0 _ _ _ _
   | exact impl_Say_83.mono _ _ _ _ _
   | exact LeO.none _
   | refine LeO.ite ?_ ?_
   | refine LeO.bind ?_ (fun _ => ?_)
theorem impl_areNow.mono : ∀ a0 k, LeO (impl_areNow.f k a0) (impl_areNow.f (k + 1) a0) := by
 intro a0 k; have ih0 := impl_areNow.mono_l k; unfold impl_areNow.f
 repeat' first
   | (with_reducible exact ih0 _ _ _ _)
   | (with_reducible exact impl_Say_83.mono _ _ _ _ _)
   | (with_reducible exact LeO.refl _)
   | (with_reducible exact LeO.none _)
   | (with_reducible refine LeO.ite ?_ ?_)
   | (with_reducible refine LeO.bind ?_ (fun _ => ?_))
   | exact ih0 _ _ _ _
   | exact impl_Say_83.mono _ _ _ _ _
   | exact LeO.none _
   | refine LeO.ite ?_ ?_
   | refine LeO.bind ?_ (fun _ => ?_)
def impl_areNow.T4 : Bool × List (List Nat × List Nat) := (true, [([], []), ([0], [0]), ([1], [1]), ([2, 1], [2]), ([3], [3]), ([3], [3]), ([4, 5, 3], [3, 4, 5]), ([3], [3]), ([6, 7, 3, 3], [3, 6, 7]), ([3, 8], [3, 8])])
def impl_areNow.B4 : List Nat := [0, 1, 3, 7, 15, 15, 63, 15, 255, 511]
theorem impl_areNow.tab4 : rtab .any (opsOf Try.f63 4) = impl_areNow.T4 := by kernel_rfl
theorem impl_areNow.bits4 : waitsOk impl_areNow.T4.2 impl_areNow.B4 = true := by kernel_rfl
set_option maxHeartbeats 8000000 in
set_option maxRecDepth 100000 in
theorem impl_areNow.calls (k : Nat) (A0 : Option Addr) (c0 : Nat) (l0 : List (S25)) (r : Bool) (w : World) (hr0 : Kd.C k25 w A0 l0.length l0) (hc0 : l0.length ≤ c0) (h : impl_areNow.f k l0 = some r) :
  Calls Try.prog 63 #[.slice A0 l0.length c0] w fun e w' => e = .returned (.bool r) ∧ Below w.heap.size w w' := by
 have hu25 := Try.underlying25; have HR0 := Aside0.mk hr0; have HC0 := Aside0.mk hc0; clear hr0 hc0; have HB := Az (Below.refl w.heap.size w); have H : (impl_areNow.l0 k l0 l0 (l0.length : Int) 0) = some r := h; clear h; have H' := Aside0.mk H; clear H; go_enter Try.func63, Try.ntmps63; go_wp2; go_loopg [7] k (fun kq v7 w' => ∃ (x7_1 : Int), v7 = .int .i64 x7_1 ∧ Aside0 (impl_areNow.l0 kq l0 l0 (l0.length : Int) x7_1 = some r) ∧ Aside0 (kq ≤ k) ∧ Aside0 (Below w.heap.size w w')); case atStart => exact ⟨(0), mr, H', ⟨Nat.le_refl _⟩, ⟨(bB HB)⟩⟩
 case round =>
  clear H'; obtain ⟨x7_1, rfl, HA, HK1, HB⟩ := hrel
  cases gk with
  | zero => exact absurd HA.out (by simp [impl_areNow.l0])
  | succ k1 =>
   have H := HA.out; clear HA; simp only [impl_areNow.l0] at H; by_cases c2 : x7_1 < (l0.length : Int)
   ·rw [if_pos c2] at H; have c2b0 : decide (x7_1 < (l0.length : Int)) = true := decide_eq_true c2; clear c2; by_cases c3 : 0 ≤ x7_1
    ·rw [if_pos c3] at H; have c3b0 : decide (0 ≤ x7_1) = true := decide_eq_true c3; clear c3; by_cases c4 : x7_1 < (l0.length : Int)
     ·rw [if_pos c4] at H; have c4b0 : decide (x7_1 < (l0.length : Int)) = true := decide_eq_true c4; clear c4; replace H := Option.bind_eq_some_iff.mp H; obtain ⟨t167, A50, H⟩ := H; replace H : (if t167 = true then (if x7_1 ≤ (l0.length : Int) then ((impl_Say_83.f k1 (l0.take (x7_1 : Int).toNat) ((rd_T25 l0 x7_1).f0) ((rd_T25 l0 x7_1).f1) ((rd_T25 l0 x7_1).f2)).bind fun t172 => (if t172 = true then (some false) else (impl_areNow.l0 k1 l0 l0 (l0.length : Int) (wrap64 (x7_1 + 1))))) else (none)) else (some false)) = some r := H; have A5 := Aside0.mk A50; clear A50; by_cases c6 : t167 = true
      ·subst c6; (have H1 : (if x7_1 ≤ (l0.length : Int) then ((impl_Say_83.f k1 (l0.take (x7_1 : Int).toNat) ((rd_T25 l0 x7_1).f0) ((rd_T25 l0 x7_1).f1) ((rd_T25 l0 x7_1).f2)).bind fun t172 => (if t172 = true then (some false) else (impl_areNow.l0 k1 l0 l0 (l0.length : Int) (wrap64 (x7_1 + 1))))) else (none)) = some r := by rw [if_pos rfl] at H; exact H); clear H; have H := H1; clear H1; have c7b0 := eq_true (of_decide_eq_true fa : 0 ≤ x7_1); by_cases c8 : x7_1 ≤ (l0.length : Int)
       ·rw [if_pos c8] at H; have c8b0 := eq_true c8; have c8b1 : decide (x7_1 ≤ (l0.length : Int)) = true := decide_eq_true c8; clear c8; obtain ⟨y168, hy168⟩ : ∃ y_ : List (S25), y_ = (l0.take (x7_1 : Int).toNat) := ⟨_, rfl⟩; (replace H : ((impl_Say_83.f k1 y168 ((rd_T25 l0 x7_1).f0) ((rd_T25 l0 x7_1).f1) ((rd_T25 l0 x7_1).f2)).bind fun t172 => (if t172 = true then (some false) else (impl_areNow.l0 k1 l0 l0 (l0.length : Int) (wrap64 (x7_1 + 1))))) = some r := by first | (rw [hy168]; with_reducible exact H) | (have H2_ := (Option.bind_some _ _).symm.trans H; rw [hy168]; with_reducible exact H2_) | (have H2_ := (Option.bind_some _ _).symm.trans H; with_reducible exact H2_) | with_reducible exact H | (rw [hy168]; exact H) | exact H); have Ny168 := Aside0.mk hy168; clear hy168; replace H := Option.bind_eq_some_iff.mp H; obtain ⟨t172, A90, H⟩ := H; replace H : (if t172 = true then (some false) else (impl_areNow.l0 k1 l0 l0 (l0.length : Int) (wrap64 (x7_1 + 1)))) = some r := H; have A9 := Aside0.mk A90; clear A90; by_cases c10 : t172 = true
        ·subst c10; (have H1 : (some false) = some r := by rw [if_pos rfl] at H; exact H); clear H; have H := H1; clear H1; obtain rfl := Option.some.inj H; have p165 : 0 ≤ (x7_1 : Int) := of_decide_eq_true fa; have q165 : x7_1 < (l0.length : Int) := of_decide_eq_true fa; obtain ⟨ad165, e165, hx165_0, hx165_1, hx165_2⟩ := at_T25 HR0.out x7_1 p165 q165; cases e165; replace hx165_0 := (HB.out.cell (World.block_lt_of_cell? w _ hx165_0)).trans hx165_0; replace hx165_1 := (HB.out.cell (World.block_lt_of_cell? w _ hx165_1)).trans hx165_1; replace hx165_2 := (HB.out.cell (World.block_lt_of_cell? w _ hx165_2)).trans hx165_2; replace p165 := eq_true p165; replace q165 := eq_true q165; (try go_wp2_with (first | ((with_reducible refine gate_dst (N := 4) rfl ?_); refine box_event ?hg (N := 4) ?hd (cs := #[.int .i64 0, .int .i64 0, .int .i64 0]) (t := 25) ?hr ?_; (case hd => rfl); (case hg => rfl); (case hr => first | (go_simp; done) | (go_simp; rfl)); intro gb166 hg w11 hbox hb; have n0_ := Az (below_step (bB HB) hb); have n1_ := Az (hbox); have n2_ := Az ((by rw [hg]; exact (below_size (bB HB)) : w.heap.size ≤ gb166)); have n3_ := Az ((by rw [hg]; exact (below_size (bB HB)) : w.heap.size ≤ gb166)); clear HB; have HB := n0_; have BK166 := n1_; have GW166 := n2_; have GE166 := n3_; clear n0_ n1_ n2_ n3_; clear hb hbox hg; have hcz12_0 : w11.cell? ⟨gb166, 0, none⟩ = some (.int .i64 0) := (blk_cell BK166.out 0).trans rfl; have hcz12_1 : w11.cell? ⟨gb166, 1, none⟩ = some (.int .i64 0) := (blk_cell BK166.out 1).trans rfl; have hcz12_2 : w11.cell? ⟨gb166, 2, none⟩ = some (.int .i64 0) := (blk_cell BK166.out 2).trans rfl; have hfz12_0 := blk_frozen BK166.out 0; have hfz12_1 := blk_frozen BK166.out 1; have hfz12_2 := blk_frozen BK166.out 2))); have n0_ : Aside0 ((((w11.setCell ⟨gb166, 0, none⟩ (.int .i64 ((rd_T25 l0 x7_1).f0))).setCell ⟨gb166, 1, none⟩ (.int .i64 ((rd_T25 l0 x7_1).f1))).setCell ⟨gb166, 2, none⟩ (.int .i64 ((rd_T25 l0 x7_1).f2))).heap[gb166]? = some (.cells #[.int .i64 ((rd_T25 l0 x7_1).f0), .int .i64 ((rd_T25 l0 x7_1).f1), .int .i64 ((rd_T25 l0 x7_1).f2)] 25 (0, 0))) := ⟨by (with_reducible repeat (first | refine blk_drewN ?_ _ | refine blk_drew ?_ | refine blk_alloc ?_ _)); refine blk_put (cs := #[.int .i64 ((rd_T25 l0 x7_1).f0), .int .i64 ((rd_T25 l0 x7_1).f1), .int .i64 0]) ?_ 2 _ rfl; refine blk_put (cs := #[.int .i64 ((rd_T25 l0 x7_1).f0), .int .i64 0, .int .i64 0]) ?_ 1 _ rfl; refine blk_put (cs := #[.int .i64 0, .int .i64 0, .int .i64 0]) ?_ 0 _ rfl; exact BK166.out⟩; have n1_ : Aside0 (Below w.heap.size w (((w11.setCell ⟨gb166, 0, none⟩ (.int .i64 ((rd_T25 l0 x7_1).f0))).setCell ⟨gb166, 1, none⟩ (.int .i64 ((rd_T25 l0 x7_1).f1))).setCell ⟨gb166, 2, none⟩ (.int .i64 ((rd_T25 l0 x7_1).f2)))) := ⟨(bB HB)⟩; (try clear BK166); (try clear HB); generalize (((w11.setCell ⟨gb166, 0, none⟩ (.int .i64 ((rd_T25 l0 x7_1).f0))).setCell ⟨gb166, 1, none⟩ (.int .i64 ((rd_T25 l0 x7_1).f1))).setCell ⟨gb166, 2, none⟩ (.int .i64 ((rd_T25 l0 x7_1).f2))) = w13 at n0_ n1_ ⊢; have BK166 := n0_; have HB := n1_; clear n0_ n1_; have n0_ := Az (blk_drew BK166.out); have n1_ := Az (below_drew1 HB.out); clear BK166 HB; have BK166 := n0_; have HB := n1_; clear n0_ n1_; refine start_ (n := 10) (S := fun w' => w'.cell? ⟨gb166, 0, none⟩ = some (.int .i64 ((rd_T25 l0 x7_1).f0)) ∧ w'.cell? ⟨gb166, 1, none⟩ = some (.int .i64 ((rd_T25 l0 x7_1).f1)) ∧ w'.cell? ⟨gb166, 2, none⟩ = some (.int .i64 ((rd_T25 l0 x7_1).f2))) (ds := []) #[false, false, false, false, false, false, false, false, false, false] (by kernel_rfl) rfl rfl ⟨(blk_cell BK166.out 0).trans rfl, (blk_cell BK166.out 1).trans rfl, (blk_cell BK166.out 2).trans rfl⟩ (fun hHeld => ?_); refine with_tabW impl_areNow.tab4 impl_areNow.bits4 (fun HT_ HW_ => ?_); generalize w13.drew = w14 at BK166 HB hHeld ⊢; refine take_ (i := 0) (N := some 12) (v := ?_) (a' := ?_) #[true, false, false, false, false, false, false, false, false, false] rfl rfl (take_ofW HT_.out HW_.out (by kernel_rfl)) (fun _ _ _ h => h) (Or.inl ⟨by rfl, ?_⟩) hHeld ?_ ?_; rotate_left
         ·rintro w' ⟨s0, s1, s2⟩; go_simp; with_reducible rfl
         rotate_left
         ·simp only [Act.put, List.setIfInBounds_toArray, List.set_cons_zero, List.set_cons_succ, i64_w, i32_w]; rfl
         refine one_ (i := 1) (N := some 13) #[true, true, false, false, false, false, false, false, false, false] rfl rfl (one_of HT_.out (by kernel_rfl)) (by decide) (fun K hK => ?_); refine goes_ Try.func55 (by kernel_rfl) rfl #[.agg #[.int .i64 ((rd_T25 l0 x7_1).f0), .int .i64 ((rd_T25 l0 x7_1).f1), .int .i64 ((rd_T25 l0 x7_1).f2)]] (by rfl) rfl rfl gf ?_; with_reducible refine (impl_isWeigh.calls ((rd_T25 l0 x7_1).f0) ((rd_T25 l0 x7_1).f1) ((rd_T25 l0 x7_1).f2) true _ A5.out).mono ?_; rintro e w15 ⟨rfl, hb⟩; refine ⟨_, rfl, ?_⟩; have n0_ := Az (blk_below (bA BK166) hb); have n1_ := Az (below_step (bB HB) hb); clear BK166 HB; have BK166 := n0_; have HB := n1_; clear n0_ n1_; (try clear hb); have q16 : (x7_1 : Int) ≤ ((l0.length : Int) : Int) := of_decide_eq_true fa; obtain ⟨i016, hi016, _, hsz16, _⟩ := info_parts info25; have hroom16 : l0.length ≤ c0 := HC0.out; have hC16 : Kd.C k25 _ (some ad165) l0.length l0 := HR0.out; have hcut16 := cut_to (P := Try.prog) 38 25 .i64 Try.underlying38 hi016 (some ad165) l0.length c0 x7_1 (of_decide_eq_true fa) q16 hroom16; have hr16 := Kd.C_take (m := (x7_1 : Int).toNat) hC16 (by omega); have hy16 : y168.length = (x7_1 : Int).toNat := (by rw [Ny168.out, List.length_take]; omega); rw [← Ny168.out] at hr16; rw [← hy16] at hcut16; have HR171 := Aside0.mk hr16; have HC171 := Az (show y168.length ≤ c0 from by omega); clear hr16 hC16 hroom16 hi016 hsz16; have KY16 := Aside0.mk hy16; clear hy16; replace q16 := eq_true q16; refine hK.out _ _ ⟨(blk_cell BK166.out 0).trans rfl, (blk_cell BK166.out 1).trans rfl, (blk_cell BK166.out 2).trans rfl⟩ (fun hHeld => ?_); clear hK K; refine norm_ (a' := ?_) ?_ ?_; rotate_left
         ·show Act.put _ (some 13) _ = _; simp only [Act.put, List.setIfInBounds_toArray, List.set_cons_zero, List.set_cons_succ, i64_w, i32_w]; rfl
         refine pure_ (i := 2) (N := some 14) (v := ?_) (a' := ?_) #[true, true, true, false, false, false, false, false, false, false] rfl rfl (any_of HT_.out (by kernel_rfl)) (fun _ _ _ h => h) (Or.inl ⟨by rfl, ?_⟩) ?_ ?_; rotate_left
         ·intro w'; go_simp; with_reducible rfl
         rotate_left
         ·simp only [Act.put, List.setIfInBounds_toArray, List.set_cons_zero, List.set_cons_succ, i64_w, i32_w]; rfl
         refine pure_ (i := 3) (N := some 15) (v := ?_) (a' := ?_) #[true, true, true, true, false, false, false, false, false, false] rfl rfl (any_of HT_.out (by kernel_rfl)) (fun _ _ _ h => h) (Or.inl ⟨by rfl, ?_⟩) ?_ ?_; rotate_left
         ·intro w'; go_simp; with_reducible rfl
         rotate_left
         ·simp only [Act.put, List.setIfInBounds_toArray, List.set_cons_zero, List.set_cons_succ, i64_w, i32_w]; rfl
         refine pure_ (i := 4) (N := some 16) (v := ?_) (a' := ?_) #[true, true, true, true, true, false, false, false, false, false] rfl rfl (any_of HT_.out (by kernel_rfl)) (fun _ _ _ h => h) (Or.inl ⟨by rfl, ?_⟩) ?_ ?_; rotate_left
         ·intro w'; go_simp; with_reducible rfl
         rotate_left
         ·simp only [Act.put, List.setIfInBounds_toArray, List.set_cons_zero, List.set_cons_succ, i64_w, i32_w]; rfl
         refine pure_ (i := 5) (N := some 17) (v := ?_) (a' := ?_) #[true, true, true, true, true, true, false, false, false, false] rfl rfl (any_of HT_.out (by kernel_rfl)) (fun _ _ _ h => h) (Or.inl ⟨by rfl, ?_⟩) ?_ ?_; rotate_left
         ·intro w'; go_simp; with_reducible rfl
         rotate_left
         ·simp only [Act.put, List.setIfInBounds_toArray, List.set_cons_zero, List.set_cons_succ, i64_w, i32_w]; rfl
         refine pure_ (i := 6) (N := some 18) (v := ?_) (a' := ?_) #[true, true, true, true, true, true, true, false, false, false] rfl rfl (any_of HT_.out (by kernel_rfl)) (fun _ _ _ h => h) (Or.inl ⟨by rfl, ?_⟩) ?_ ?_; rotate_left
         ·intro w'; go_simp; with_reducible rfl
         rotate_left
         ·simp only [Act.put, List.setIfInBounds_toArray, List.set_cons_zero, List.set_cons_succ, i64_w, i32_w]; rfl
         refine take_ (i := 7) (N := some 19) (v := ?_) (a' := ?_) #[true, true, true, true, true, true, true, true, false, false] rfl rfl (take_ofW HT_.out HW_.out (by kernel_rfl)) (fun _ _ _ h => h) (Or.inl ⟨by rfl, ?_⟩) hHeld ?_ ?_; rotate_left
         ·rintro w' ⟨s0, s1, s2⟩; go_simp; with_reducible rfl
         rotate_left
         ·simp only [Act.put, List.setIfInBounds_toArray, List.set_cons_zero, List.set_cons_succ, i64_w, i32_w]; rfl
         refine one_ (i := 8) (N := some 20) #[true, true, true, true, true, true, true, true, true, false] rfl rfl (one_of HT_.out (by kernel_rfl)) (by decide) (fun K hK => ?_); refine goes_ Try.func83 (by kernel_rfl) rfl #[.slice (some ad165) y168.length c0, .agg #[.int .i64 ((rd_T25 l0 x7_1).f0), .int .i64 ((rd_T25 l0 x7_1).f1), .int .i64 ((rd_T25 l0 x7_1).f2)]] (by rfl) rfl rfl gf ?_; with_reducible refine (impl_Say_83.calls k1 _ _ y168 ((rd_T25 l0 x7_1).f0) ((rd_T25 l0 x7_1).f1) ((rd_T25 l0 x7_1).f2) true _ ?side1 ?side2 A9.out).mono ?_; (case side1 => exact dC (Kd.C_below HR171.out HB.out)); (case side2 => exact HC171.out); rintro e w17 ⟨rfl, hb⟩; refine ⟨_, rfl, ?_⟩; have n0_ := Az (blk_below (bA BK166) hb); have n1_ := Az (below_step (bB HB) hb); clear BK166 HB; have BK166 := n0_; have HB := n1_; clear n0_ n1_; (try clear hb); refine hK.out _ _ ⟨(blk_cell BK166.out 0).trans rfl, (blk_cell BK166.out 1).trans rfl, (blk_cell BK166.out 2).trans rfl⟩ (fun hHeld => ?_); clear hK K; refine norm_ (a' := ?_) ?_ ?_; rotate_left
         ·show Act.put _ (some 20) _ = _; simp only [Act.put, List.setIfInBounds_toArray, List.set_cons_zero, List.set_cons_succ, i64_w, i32_w]; rfl
         refine pure_ (i := 9) (N := some 21) (v := ?_) (a' := ?_) #[true, true, true, true, true, true, true, true, true, true] rfl rfl (any_of HT_.out (by kernel_rfl)) (fun _ _ _ h => h) (Or.inl ⟨by rfl, ?_⟩) ?_ ?_; rotate_left
         ·intro w'; go_simp; with_reducible rfl
         rotate_left
         ·simp only [Act.put, List.setIfInBounds_toArray, List.set_cons_zero, List.set_cons_succ, i64_w, i32_w]; rfl
         refine done_ (done_of HT_.out (by kernel_rfl)) ?_; (try go_wp2); go_ret; exact ⟨rt, (bB HB)⟩
        ·replace c10 := Bool.eq_false_iff.mpr c10; subst c10; (have H1 : (impl_areNow.l0 k1 l0 l0 (l0.length : Int) (wrap64 (x7_1 + 1))) = some r := by rw [if_neg (show ¬ (false = true) by decide)] at H; exact H); clear H; have H := H1; clear H1; have H' := Aside0.mk H; clear H; have p165 : 0 ≤ (x7_1 : Int) := of_decide_eq_true fa; have q165 : x7_1 < (l0.length : Int) := of_decide_eq_true fa; obtain ⟨ad165, e165, hx165_0, hx165_1, hx165_2⟩ := at_T25 HR0.out x7_1 p165 q165; cases e165; replace hx165_0 := (HB.out.cell (World.block_lt_of_cell? w _ hx165_0)).trans hx165_0; replace hx165_1 := (HB.out.cell (World.block_lt_of_cell? w _ hx165_1)).trans hx165_1; replace hx165_2 := (HB.out.cell (World.block_lt_of_cell? w _ hx165_2)).trans hx165_2; replace p165 := eq_true p165; replace q165 := eq_true q165; (try go_wp2_with (first | ((with_reducible refine gate_dst (N := 4) rfl ?_); refine box_event ?hg (N := 4) ?hd (cs := #[.int .i64 0, .int .i64 0, .int .i64 0]) (t := 25) ?hr ?_; (case hd => rfl); (case hg => rfl); (case hr => first | (go_simp; done) | (go_simp; rfl)); intro gb166 hg w18 hbox hb; have n0_ := Az (below_step (bB HB) hb); have n1_ := Az (hbox); have n2_ := Az ((by rw [hg]; exact (below_size (bB HB)) : w.heap.size ≤ gb166)); have n3_ := Az ((by rw [hg]; exact (below_size (bB HB)) : w.heap.size ≤ gb166)); clear HB; have HB := n0_; have BK166 := n1_; have GW166 := n2_; have GE166 := n3_; clear n0_ n1_ n2_ n3_; clear hb hbox hg; have hcz19_0 : w18.cell? ⟨gb166, 0, none⟩ = some (.int .i64 0) := (blk_cell BK166.out 0).trans rfl; have hcz19_1 : w18.cell? ⟨gb166, 1, none⟩ = some (.int .i64 0) := (blk_cell BK166.out 1).trans rfl; have hcz19_2 : w18.cell? ⟨gb166, 2, none⟩ = some (.int .i64 0) := (blk_cell BK166.out 2).trans rfl; have hfz19_0 := blk_frozen BK166.out 0; have hfz19_1 := blk_frozen BK166.out 1; have hfz19_2 := blk_frozen BK166.out 2))); have n0_ : Aside0 ((((w18.setCell ⟨gb166, 0, none⟩ (.int .i64 ((rd_T25 l0 x7_1).f0))).setCell ⟨gb166, 1, none⟩ (.int .i64 ((rd_T25 l0 x7_1).f1))).setCell ⟨gb166, 2, none⟩ (.int .i64 ((rd_T25 l0 x7_1).f2))).heap[gb166]? = some (.cells #[.int .i64 ((rd_T25 l0 x7_1).f0), .int .i64 ((rd_T25 l0 x7_1).f1), .int .i64 ((rd_T25 l0 x7_1).f2)] 25 (0, 0))) := ⟨by (with_reducible repeat (first | refine blk_drewN ?_ _ | refine blk_drew ?_ | refine blk_alloc ?_ _)); refine blk_put (cs := #[.int .i64 ((rd_T25 l0 x7_1).f0), .int .i64 ((rd_T25 l0 x7_1).f1), .int .i64 0]) ?_ 2 _ rfl; refine blk_put (cs := #[.int .i64 ((rd_T25 l0 x7_1).f0), .int .i64 0, .int .i64 0]) ?_ 1 _ rfl; refine blk_put (cs := #[.int .i64 0, .int .i64 0, .int .i64 0]) ?_ 0 _ rfl; exact BK166.out⟩; have n1_ : Aside0 (Below w.heap.size w (((w18.setCell ⟨gb166, 0, none⟩ (.int .i64 ((rd_T25 l0 x7_1).f0))).setCell ⟨gb166, 1, none⟩ (.int .i64 ((rd_T25 l0 x7_1).f1))).setCell ⟨gb166, 2, none⟩ (.int .i64 ((rd_T25 l0 x7_1).f2)))) := ⟨(bB HB)⟩; (try clear BK166); (try clear HB); generalize (((w18.setCell ⟨gb166, 0, none⟩ (.int .i64 ((rd_T25 l0 x7_1).f0))).setCell ⟨gb166, 1, none⟩ (.int .i64 ((rd_T25 l0 x7_1).f1))).setCell ⟨gb166, 2, none⟩ (.int .i64 ((rd_T25 l0 x7_1).f2))) = w20 at n0_ n1_ ⊢; have BK166 := n0_; have HB := n1_; clear n0_ n1_; have n0_ := Az (blk_drew BK166.out); have n1_ := Az (below_drew1 HB.out); clear BK166 HB; have BK166 := n0_; have HB := n1_; clear n0_ n1_; refine start_ (n := 10) (S := fun w' => w'.cell? ⟨gb166, 0, none⟩ = some (.int .i64 ((rd_T25 l0 x7_1).f0)) ∧ w'.cell? ⟨gb166, 1, none⟩ = some (.int .i64 ((rd_T25 l0 x7_1).f1)) ∧ w'.cell? ⟨gb166, 2, none⟩ = some (.int .i64 ((rd_T25 l0 x7_1).f2))) (ds := []) #[false, false, false, false, false, false, false, false, false, false] (by kernel_rfl) rfl rfl ⟨(blk_cell BK166.out 0).trans rfl, (blk_cell BK166.out 1).trans rfl, (blk_cell BK166.out 2).trans rfl⟩ (fun hHeld => ?_); refine with_tabW impl_areNow.tab4 impl_areNow.bits4 (fun HT_ HW_ => ?_); generalize w20.drew = w21 at BK166 HB hHeld ⊢; refine take_ (i := 0) (N := some 12) (v := ?_) (a' := ?_) #[true, false, false, false, false, false, false, false, false, false] rfl rfl (take_ofW HT_.out HW_.out (by kernel_rfl)) (fun _ _ _ h => h) (Or.inl ⟨by rfl, ?_⟩) hHeld ?_ ?_; rotate_left
         ·rintro w' ⟨s0, s1, s2⟩; go_simp; with_reducible rfl
         rotate_left
         ·simp only [Act.put, List.setIfInBounds_toArray, List.set_cons_zero, List.set_cons_succ, i64_w, i32_w]; rfl
         refine one_ (i := 1) (N := some 13) #[true, true, false, false, false, false, false, false, false, false] rfl rfl (one_of HT_.out (by kernel_rfl)) (by decide) (fun K hK => ?_); refine goes_ Try.func55 (by kernel_rfl) rfl #[.agg #[.int .i64 ((rd_T25 l0 x7_1).f0), .int .i64 ((rd_T25 l0 x7_1).f1), .int .i64 ((rd_T25 l0 x7_1).f2)]] (by rfl) rfl rfl gf ?_; with_reducible refine (impl_isWeigh.calls ((rd_T25 l0 x7_1).f0) ((rd_T25 l0 x7_1).f1) ((rd_T25 l0 x7_1).f2) true _ A5.out).mono ?_; rintro e w22 ⟨rfl, hb⟩; refine ⟨_, rfl, ?_⟩; have n0_ := Az (blk_below (bA BK166) hb); have n1_ := Az (below_step (bB HB) hb); clear BK166 HB; have BK166 := n0_; have HB := n1_; clear n0_ n1_; (try clear hb); have q23 : (x7_1 : Int) ≤ ((l0.length : Int) : Int) := of_decide_eq_true fa; obtain ⟨i023, hi023, _, hsz23, _⟩ := info_parts info25; have hroom23 : l0.length ≤ c0 := HC0.out; have hC23 : Kd.C k25 _ (some ad165) l0.length l0 := HR0.out; have hcut23 := cut_to (P := Try.prog) 38 25 .i64 Try.underlying38 hi023 (some ad165) l0.length c0 x7_1 (of_decide_eq_true fa) q23 hroom23; have hr23 := Kd.C_take (m := (x7_1 : Int).toNat) hC23 (by omega); have hy23 : y168.length = (x7_1 : Int).toNat := (by rw [Ny168.out, List.length_take]; omega); rw [← Ny168.out] at hr23; rw [← hy23] at hcut23; have HR171 := Aside0.mk hr23; have HC171 := Az (show y168.length ≤ c0 from by omega); clear hr23 hC23 hroom23 hi023 hsz23; have KY23 := Aside0.mk hy23; clear hy23; replace q23 := eq_true q23; refine hK.out _ _ ⟨(blk_cell BK166.out 0).trans rfl, (blk_cell BK166.out 1).trans rfl, (blk_cell BK166.out 2).trans rfl⟩ (fun hHeld => ?_); clear hK K; refine norm_ (a' := ?_) ?_ ?_; rotate_left
         ·show Act.put _ (some 13) _ = _; simp only [Act.put, List.setIfInBounds_toArray, List.set_cons_zero, List.set_cons_succ, i64_w, i32_w]; rfl
         refine pure_ (i := 2) (N := some 14) (v := ?_) (a' := ?_) #[true, true, true, false, false, false, false, false, false, false] rfl rfl (any_of HT_.out (by kernel_rfl)) (fun _ _ _ h => h) (Or.inl ⟨by rfl, ?_⟩) ?_ ?_; rotate_left
         ·intro w'; go_simp; with_reducible rfl
         rotate_left
         ·simp only [Act.put, List.setIfInBounds_toArray, List.set_cons_zero, List.set_cons_succ, i64_w, i32_w]; rfl
         refine pure_ (i := 3) (N := some 15) (v := ?_) (a' := ?_) #[true, true, true, true, false, false, false, false, false, false] rfl rfl (any_of HT_.out (by kernel_rfl)) (fun _ _ _ h => h) (Or.inl ⟨by rfl, ?_⟩) ?_ ?_; rotate_left
         ·intro w'; go_simp; with_reducible rfl
         rotate_left
         ·simp only [Act.put, List.setIfInBounds_toArray, List.set_cons_zero, List.set_cons_succ, i64_w, i32_w]; rfl
         refine pure_ (i := 4) (N := some 16) (v := ?_) (a' := ?_) #[true, true, true, true, true, false, false, false, false, false] rfl rfl (any_of HT_.out (by kernel_rfl)) (fun _ _ _ h => h) (Or.inl ⟨by rfl, ?_⟩) ?_ ?_; rotate_left
         ·intro w'; go_simp; with_reducible rfl
         rotate_left
         ·simp only [Act.put, List.setIfInBounds_toArray, List.set_cons_zero, List.set_cons_succ, i64_w, i32_w]; rfl
         refine pure_ (i := 5) (N := some 17) (v := ?_) (a' := ?_) #[true, true, true, true, true, true, false, false, false, false] rfl rfl (any_of HT_.out (by kernel_rfl)) (fun _ _ _ h => h) (Or.inl ⟨by rfl, ?_⟩) ?_ ?_; rotate_left
         ·intro w'; go_simp; with_reducible rfl
         rotate_left
         ·simp only [Act.put, List.setIfInBounds_toArray, List.set_cons_zero, List.set_cons_succ, i64_w, i32_w]; rfl
         refine pure_ (i := 6) (N := some 18) (v := ?_) (a' := ?_) #[true, true, true, true, true, true, true, false, false, false] rfl rfl (any_of HT_.out (by kernel_rfl)) (fun _ _ _ h => h) (Or.inl ⟨by rfl, ?_⟩) ?_ ?_; rotate_left
         ·intro w'; go_simp; with_reducible rfl
         rotate_left
         ·simp only [Act.put, List.setIfInBounds_toArray, List.set_cons_zero, List.set_cons_succ, i64_w, i32_w]; rfl
         refine take_ (i := 7) (N := some 19) (v := ?_) (a' := ?_) #[true, true, true, true, true, true, true, true, false, false] rfl rfl (take_ofW HT_.out HW_.out (by kernel_rfl)) (fun _ _ _ h => h) (Or.inl ⟨by rfl, ?_⟩) hHeld ?_ ?_; rotate_left
         ·rintro w' ⟨s0, s1, s2⟩; go_simp; with_reducible rfl
         rotate_left
         ·simp only [Act.put, List.setIfInBounds_toArray, List.set_cons_zero, List.set_cons_succ, i64_w, i32_w]; rfl
         refine one_ (i := 8) (N := some 20) #[true, true, true, true, true, true, true, true, true, false] rfl rfl (one_of HT_.out (by kernel_rfl)) (by decide) (fun K hK => ?_); refine goes_ Try.func83 (by kernel_rfl) rfl #[.slice (some ad165) y168.length c0, .agg #[.int .i64 ((rd_T25 l0 x7_1).f0), .int .i64 ((rd_T25 l0 x7_1).f1), .int .i64 ((rd_T25 l0 x7_1).f2)]] (by rfl) rfl rfl gf ?_; with_reducible refine (impl_Say_83.calls k1 _ _ y168 ((rd_T25 l0 x7_1).f0) ((rd_T25 l0 x7_1).f1) ((rd_T25 l0 x7_1).f2) false _ ?side1 ?side2 A9.out).mono ?_; (case side1 => exact dC (Kd.C_below HR171.out HB.out)); (case side2 => exact HC171.out); rintro e w24 ⟨rfl, hb⟩; refine ⟨_, rfl, ?_⟩; have n0_ := Az (blk_below (bA BK166) hb); have n1_ := Az (below_step (bB HB) hb); clear BK166 HB; have BK166 := n0_; have HB := n1_; clear n0_ n1_; (try clear hb); refine hK.out _ _ ⟨(blk_cell BK166.out 0).trans rfl, (blk_cell BK166.out 1).trans rfl, (blk_cell BK166.out 2).trans rfl⟩ (fun hHeld => ?_); clear hK K; refine norm_ (a' := ?_) ?_ ?_; rotate_left
         ·show Act.put _ (some 20) _ = _; simp only [Act.put, List.setIfInBounds_toArray, List.set_cons_zero, List.set_cons_succ, i64_w, i32_w]; rfl
         refine pure_ (i := 9) (N := some 21) (v := ?_) (a' := ?_) #[true, true, true, true, true, true, true, true, true, true] rfl rfl (any_of HT_.out (by kernel_rfl)) (fun _ _ _ h => h) (Or.inl ⟨by rfl, ?_⟩) ?_ ?_; rotate_left
         ·intro w'; go_simp; with_reducible rfl
         rotate_left
         ·simp only [Act.put, List.setIfInBounds_toArray, List.set_cons_zero, List.set_cons_succ, i64_w, i32_w]; rfl
         refine done_ (done_of HT_.out (by kernel_rfl)) ?_; (try go_wp2); go_roundg k1; (case measure => have := HK1.out; omega); case rel => exact ⟨(wrap64 (x7_1 + 1)), mr, H', ⟨by have := HK1.out; omega⟩, ⟨(bB HB)⟩⟩
       ·rw [if_neg c8] at H; exact absurd H (by simp)
      ·replace c6 := Bool.eq_false_iff.mpr c6; subst c6; (have H1 : (some false) = some r := by rw [if_neg (show ¬ (false = true) by decide)] at H; exact H); clear H; have H := H1; clear H1; obtain rfl := Option.some.inj H; have p165 : 0 ≤ (x7_1 : Int) := of_decide_eq_true fa; have q165 : x7_1 < (l0.length : Int) := of_decide_eq_true fa; obtain ⟨ad165, e165, hx165_0, hx165_1, hx165_2⟩ := at_T25 HR0.out x7_1 p165 q165; cases e165; replace hx165_0 := (HB.out.cell (World.block_lt_of_cell? w _ hx165_0)).trans hx165_0; replace hx165_1 := (HB.out.cell (World.block_lt_of_cell? w _ hx165_1)).trans hx165_1; replace hx165_2 := (HB.out.cell (World.block_lt_of_cell? w _ hx165_2)).trans hx165_2; replace p165 := eq_true p165; replace q165 := eq_true q165; (try go_wp2_with (first | ((with_reducible refine gate_dst (N := 4) rfl ?_); refine box_event ?hg (N := 4) ?hd (cs := #[.int .i64 0, .int .i64 0, .int .i64 0]) (t := 25) ?hr ?_; (case hd => rfl); (case hg => rfl); (case hr => first | (go_simp; done) | (go_simp; rfl)); intro gb166 hg w25 hbox hb; have n0_ := Az (below_step (bB HB) hb); have n1_ := Az (hbox); have n2_ := Az ((by rw [hg]; exact (below_size (bB HB)) : w.heap.size ≤ gb166)); have n3_ := Az ((by rw [hg]; exact (below_size (bB HB)) : w.heap.size ≤ gb166)); clear HB; have HB := n0_; have BK166 := n1_; have GW166 := n2_; have GE166 := n3_; clear n0_ n1_ n2_ n3_; clear hb hbox hg; have hcz26_0 : w25.cell? ⟨gb166, 0, none⟩ = some (.int .i64 0) := (blk_cell BK166.out 0).trans rfl; have hcz26_1 : w25.cell? ⟨gb166, 1, none⟩ = some (.int .i64 0) := (blk_cell BK166.out 1).trans rfl; have hcz26_2 : w25.cell? ⟨gb166, 2, none⟩ = some (.int .i64 0) := (blk_cell BK166.out 2).trans rfl; have hfz26_0 := blk_frozen BK166.out 0; have hfz26_1 := blk_frozen BK166.out 1; have hfz26_2 := blk_frozen BK166.out 2))); have n0_ : Aside0 ((((w25.setCell ⟨gb166, 0, none⟩ (.int .i64 ((rd_T25 l0 x7_1).f0))).setCell ⟨gb166, 1, none⟩ (.int .i64 ((rd_T25 l0 x7_1).f1))).setCell ⟨gb166, 2, none⟩ (.int .i64 ((rd_T25 l0 x7_1).f2))).heap[gb166]? = some (.cells #[.int .i64 ((rd_T25 l0 x7_1).f0), .int .i64 ((rd_T25 l0 x7_1).f1), .int .i64 ((rd_T25 l0 x7_1).f2)] 25 (0, 0))) := ⟨by (with_reducible repeat (first | refine blk_drewN ?_ _ | refine blk_drew ?_ | refine blk_alloc ?_ _)); refine blk_put (cs := #[.int .i64 ((rd_T25 l0 x7_1).f0), .int .i64 ((rd_T25 l0 x7_1).f1), .int .i64 0]) ?_ 2 _ rfl; refine blk_put (cs := #[.int .i64 ((rd_T25 l0 x7_1).f0), .int .i64 0, .int .i64 0]) ?_ 1 _ rfl; refine blk_put (cs := #[.int .i64 0, .int .i64 0, .int .i64 0]) ?_ 0 _ rfl; exact BK166.out⟩; have n1_ : Aside0 (Below w.heap.size w (((w25.setCell ⟨gb166, 0, none⟩ (.int .i64 ((rd_T25 l0 x7_1).f0))).setCell ⟨gb166, 1, none⟩ (.int .i64 ((rd_T25 l0 x7_1).f1))).setCell ⟨gb166, 2, none⟩ (.int .i64 ((rd_T25 l0 x7_1).f2)))) := ⟨(bB HB)⟩; (try clear BK166); (try clear HB); generalize (((w25.setCell ⟨gb166, 0, none⟩ (.int .i64 ((rd_T25 l0 x7_1).f0))).setCell ⟨gb166, 1, none⟩ (.int .i64 ((rd_T25 l0 x7_1).f1))).setCell ⟨gb166, 2, none⟩ (.int .i64 ((rd_T25 l0 x7_1).f2))) = w27 at n0_ n1_ ⊢; have BK166 := n0_; have HB := n1_; clear n0_ n1_; have n0_ := Az (blk_drew BK166.out); have n1_ := Az (below_drew1 HB.out); clear BK166 HB; have BK166 := n0_; have HB := n1_; clear n0_ n1_; refine start_ (n := 10) (S := fun w' => w'.cell? ⟨gb166, 0, none⟩ = some (.int .i64 ((rd_T25 l0 x7_1).f0)) ∧ w'.cell? ⟨gb166, 1, none⟩ = some (.int .i64 ((rd_T25 l0 x7_1).f1)) ∧ w'.cell? ⟨gb166, 2, none⟩ = some (.int .i64 ((rd_T25 l0 x7_1).f2))) (ds := []) #[false, false, false, false, false, false, false, false, false, false] (by kernel_rfl) rfl rfl ⟨(blk_cell BK166.out 0).trans rfl, (blk_cell BK166.out 1).trans rfl, (blk_cell BK166.out 2).trans rfl⟩ (fun hHeld => ?_); refine with_tabW impl_areNow.tab4 impl_areNow.bits4 (fun HT_ HW_ => ?_); generalize w27.drew = w28 at BK166 HB hHeld ⊢; refine take_ (i := 0) (N := some 12) (v := ?_) (a' := ?_) #[true, false, false, false, false, false, false, false, false, false] rfl rfl (take_ofW HT_.out HW_.out (by kernel_rfl)) (fun _ _ _ h => h) (Or.inl ⟨by rfl, ?_⟩) hHeld ?_ ?_; rotate_left
       ·rintro w' ⟨s0, s1, s2⟩; go_simp; with_reducible rfl
       rotate_left
       ·simp only [Act.put, List.setIfInBounds_toArray, List.set_cons_zero, List.set_cons_succ, i64_w, i32_w]; rfl
       refine one_ (i := 1) (N := some 13) #[true, true, false, false, false, false, false, false, false, false] rfl rfl (one_of HT_.out (by kernel_rfl)) (by decide) (fun K hK => ?_); refine goes_ Try.func55 (by kernel_rfl) rfl #[.agg #[.int .i64 ((rd_T25 l0 x7_1).f0), .int .i64 ((rd_T25 l0 x7_1).f1), .int .i64 ((rd_T25 l0 x7_1).f2)]] (by rfl) rfl rfl gf ?_; with_reducible refine (impl_isWeigh.calls ((rd_T25 l0 x7_1).f0) ((rd_T25 l0 x7_1).f1) ((rd_T25 l0 x7_1).f2) false _ A5.out).mono ?_; rintro e w29 ⟨rfl, hb⟩; refine ⟨_, rfl, ?_⟩; have n0_ := Az (blk_below (bA BK166) hb); have n1_ := Az (below_step (bB HB) hb); clear BK166 HB; have BK166 := n0_; have HB := n1_; clear n0_ n1_; (try clear hb); refine hK.out _ _ ⟨(blk_cell BK166.out 0).trans rfl, (blk_cell BK166.out 1).trans rfl, (blk_cell BK166.out 2).trans rfl⟩ (fun hHeld => ?_); clear hK K; refine norm_ (a' := ?_) ?_ ?_; rotate_left
       ·show Act.put _ (some 13) _ = _; simp only [Act.put, List.setIfInBounds_toArray, List.set_cons_zero, List.set_cons_succ, i64_w, i32_w]; rfl
       refine pure_ (i := 2) (N := some 14) (v := ?_) (a' := ?_) #[true, true, true, false, false, false, false, false, false, false] rfl rfl (any_of HT_.out (by kernel_rfl)) (fun _ _ _ h => h) (Or.inl ⟨by rfl, ?_⟩) ?_ ?_; rotate_left
       ·intro w'; go_simp; with_reducible rfl
       rotate_left
       ·simp only [Act.put, List.setIfInBounds_toArray, List.set_cons_zero, List.set_cons_succ, i64_w, i32_w]; rfl
       refine pure_ (i := 3) (N := some 15) (v := ?_) (a' := ?_) #[true, true, true, true, false, false, false, false, false, false] rfl rfl (any_of HT_.out (by kernel_rfl)) (fun _ _ _ h => h) (Or.inl ⟨by rfl, ?_⟩) ?_ ?_; rotate_left
       ·intro w'; go_simp; with_reducible rfl
       rotate_left
       ·simp only [Act.put, List.setIfInBounds_toArray, List.set_cons_zero, List.set_cons_succ, i64_w, i32_w]; rfl
       refine pure_ (i := 4) (N := some 16) (v := undef) (a' := ?_) #[true, true, true, true, true, false, false, false, false, false] rfl rfl (any_of HT_.out (by kernel_rfl)) (fun _ _ _ h => h) (Or.inr ⟨by rfl, rfl⟩) ?_ ?_; rotate_left
       ·simp only [Act.put, List.setIfInBounds_toArray, List.set_cons_zero, List.set_cons_succ, i64_w, i32_w]; rfl
       refine pure_ (i := 5) (N := some 17) (v := undef) (a' := ?_) #[true, true, true, true, true, true, false, false, false, false] rfl rfl (any_of HT_.out (by kernel_rfl)) (fun _ _ _ h => h) (Or.inr ⟨by rfl, rfl⟩) ?_ ?_; rotate_left
       ·simp only [Act.put, List.setIfInBounds_toArray, List.set_cons_zero, List.set_cons_succ, i64_w, i32_w]; rfl
       refine pure_ (i := 6) (N := some 18) (v := undef) (a' := ?_) #[true, true, true, true, true, true, true, false, false, false] rfl rfl (any_of HT_.out (by kernel_rfl)) (fun _ _ _ h => h) (Or.inr ⟨by rfl, rfl⟩) ?_ ?_; rotate_left
       ·simp only [Act.put, List.setIfInBounds_toArray, List.set_cons_zero, List.set_cons_succ, i64_w, i32_w]; rfl
       refine pure_ (i := 7) (N := some 19) (v := undef) (a' := ?_) #[true, true, true, true, true, true, true, true, false, false] rfl rfl (any_of HT_.out (by kernel_rfl)) (fun _ _ _ h => h) (Or.inr ⟨by rfl, rfl⟩) ?_ ?_; rotate_left
       ·simp only [Act.put, List.setIfInBounds_toArray, List.set_cons_zero, List.set_cons_succ, i64_w, i32_w]; rfl
       refine pure_ (i := 8) (N := some 20) (v := undef) (a' := ?_) #[true, true, true, true, true, true, true, true, true, false] rfl rfl (any_of HT_.out (by kernel_rfl)) (fun _ _ _ h => h) (Or.inr ⟨by rfl, rfl⟩) ?_ ?_; rotate_left
       ·simp only [Act.put, List.setIfInBounds_toArray, List.set_cons_zero, List.set_cons_succ, i64_w, i32_w]; rfl
       refine pure_ (i := 9) (N := some 21) (v := ?_) (a' := ?_) #[true, true, true, true, true, true, true, true, true, true] rfl rfl (any_of HT_.out (by kernel_rfl)) (fun _ _ _ h => h) (Or.inl ⟨by rfl, ?_⟩) ?_ ?_; rotate_left
       ·intro w'; go_simp; with_reducible rfl
       rotate_left
       ·simp only [Act.put, List.setIfInBounds_toArray, List.set_cons_zero, List.set_cons_succ, i64_w, i32_w]; rfl
       refine done_ (done_of HT_.out (by kernel_rfl)) ?_; (try go_wp2); go_ret; exact ⟨rt, (bB HB)⟩
     ·rw [if_neg c4] at H; exact absurd H (by simp)
    ·rw [if_neg c3] at H; exact absurd H (by simp)
   ·rw [if_neg c2] at H; have c2b0 : decide (x7_1 < (l0.length : Int)) = false := decide_eq_false c2; clear c2; obtain rfl := Option.some.inj H; go_wp2; go_ret; exact ⟨rt, (bB HB)⟩

-- NOT PRINTED: function 89 (impl_Say_89)

-- NOT PRINTED: function 84 (impl_Say_84)

/-! ### impl_isDesk: function 65 -/
def impl_isDesk.all (k : Nat) : List (List (S25)) → Option Bool
 | [] => some true
 | x :: r => (impl_areNow.f k x).bind fun t => if t = true then impl_isDesk.all k r else some false
def impl_isDesk.f (k : Nat) (l0_0 : List (S25)) (l0_1 : List (List (S25))) : Option (Bool) :=
 (impl_areNow.f k l0_0).bind fun t => if t = true then (if (l0_1.length : Int) ≤ 10 then impl_isDesk.all k l0_1 else some false) else some false
theorem impl_isDesk.mono_a : ∀ (xs : List (List (S25))) k, LeO (impl_isDesk.all k xs) (impl_isDesk.all (k + 1) xs)
 | [], k => LeO.refl _
 | x :: r, k => by
  unfold impl_isDesk.all; exact LeO.bind (impl_areNow.mono x k) (fun _ => LeO.ite (impl_isDesk.mono_a r k) (LeO.refl _))
theorem impl_isDesk.mono : ∀ a0 a1 k, LeO (impl_isDesk.f k a0 a1) (impl_isDesk.f (k + 1) a0 a1) := by
 intro a0 a1 k; unfold impl_isDesk.f; exact LeO.bind (impl_areNow.mono a0 k) (fun _ => LeO.ite (LeO.ite (impl_isDesk.mono_a a1 k) (LeO.refl _)) (LeO.refl _))
theorem impl_isDesk.drop (xs : List (List (S25))) (j : Nat) (h : j < xs.length) : xs.drop j = rd_L4 xs (j : Int) :: xs.drop (j + 1) := by
 rw [List.drop_eq_getElem_cons h]; unfold rd_L4; simp [List.getD_eq_getElem?_getD, List.getElem?_eq_getElem h]
set_option maxHeartbeats 8000000 in
set_option maxRecDepth 100000 in
theorem impl_isDesk.inner (k : Nat) (A0 : Option Addr) (c0 : Nat) (l0 : List (S25)) (r : Bool) (w : World) (hr0 : Kd.C k25 w A0 l0.length l0) (hc0 : l0.length ≤ c0) (h : impl_areNow.f k l0 = some r) :
  Calls Try.prog 85 #[.slice A0 l0.length c0] w fun e w' => e = .returned (.bool (!r)) ∧ Below w.heap.size w w' := by
 have HT := Az (impl_areNow.calls k A0 c0 l0 r w hr0 hc0 h); clear hr0 hc0 h; go_enter Try.func85, Try.ntmps85; go_wp2_with (go_at_call 63; (with_reducible refine HT.out.mono ?_); rintro e w8 ⟨rfl, hb⟩); go_ret; exact ⟨by first | rfl | (simp; done), hb⟩
set_option maxHeartbeats 8000000 in
set_option maxRecDepth 100000 in
theorem impl_isDesk.index (k : Nat) (A0 : Option Addr) (c0 : Nat) (l0 : List (List (S25))) (r : Bool) (w : World) (hr0 : Kd.C (Kd.slice 25 k25) w A0 l0.length l0) (hc0 : l0.length ≤ c0) (h : impl_isDesk.all k l0 = some r) :
  Calls Try.prog 89 #[.slice A0 l0.length c0, .func (.func 85) #[] #[]] w fun e w' => ∃ i : Int, e = .returned (.int .i64 i) ∧ decide (0 ≤ i) = !r ∧ Below w.heap.size w w' := by
 have HR0 := Aside0.mk hr0; have HC0 := Aside0.mk hc0; have hm := Kd.C_max hr0; have HM := Aside0.mk hm; have HB := Az (Below.refl w.heap.size w); have H' := Aside0.mk h; clear hr0 hc0 hm h; go_enter Try.func89, Try.ntmps89; go_wp2; go_loopg [8] (l0.length + 1) (fun kq v8 w' => ∃ (j : Nat), v8 = .int .i64 j ∧ Aside0 (impl_isDesk.all k (l0.drop j) = some r ∧ kq + j = l0.length + 1 ∧ j ≤ l0.length) ∧ Aside0 (Below w.heap.size w w')); case atStart => exact ⟨0, rfl, ⟨by simpa using H'.out, by omega, by omega⟩, ⟨HB.out⟩⟩
 case round =>
  clear H' HB; obtain ⟨j, rfl, HA, HB⟩ := hrel
  cases gk with
  | zero => exact absurd HA.out.2 (by omega)
  | succ k1 =>
   by_cases c3 : j < l0.length
   ·(have c3b : decide ((j : Int) < (l0.length : Int)) = true := by simp; omega); (have c3n : decide (j < l0.length) = true := by simp; omega); have HE := HA.out.1; rw [impl_isDesk.drop l0 j c3] at HE; unfold impl_isDesk.all at HE; obtain ⟨t, A5, HE⟩ := Option.bind_eq_some_iff.mp HE; have HE := Aside0.mk HE; obtain ⟨ad194, A194_0, c194_0, e194, hx194_0, hl194_0, hi194_0⟩ := at_L4 HR0.out (j : Int) (by omega) (by omega); cases e194; replace hx194_0 := (HB.out.cell (World.block_lt_of_cell? w _ hx194_0)).trans hx194_0; rw [Int.toNat_natCast] at hx194_0; (have hj0 : (0 : Int) ≤ (j : Int) := by omega); (have hw : wrap64 ((j : Int) + 1) = (j : Int) + 1 := by have := HM.out; unfold wrap64; omega); have HT := Az (fun wx (hx : Below w.heap.size w wx) => impl_isDesk.inner k A194_0 c194_0 (rd_L4 l0 (j : Int)) t wx (Kd.C_below hi194_0 hx) hl194_0 A5); have C3 := Aside0.mk c3; clear hi194_0 hl194_0 A5; cases t
    ·(obtain rfl : r = false := by have := HE.out; simp at this; exact this); go_wp2_with (go_at_call 85; (with_reducible refine (HT.out _ HB.out).mono ?_); rintro e w8 ⟨rfl, hb⟩); go_ret; exact ⟨(j : Int), rfl, by simp, below_step HB.out hb⟩
    ·go_wp2_with (go_at_call 85; (with_reducible refine (HT.out _ HB.out).mono ?_); rintro e w8 ⟨rfl, hb⟩); go_roundg k1; (case measure => omega); case rel => exact ⟨j + 1, (by go_num), ⟨by have := HE.out; simpa using this, by have := HA.out.2.1; omega, by have := C3.out; omega⟩, ⟨below_step HB.out hb⟩⟩
   ·(have c3b : decide ((j : Int) < (l0.length : Int)) = false := by simp; omega); (have c3n : decide (j < l0.length) = false := by simp; omega); (have ej : j = l0.length := by have := HA.out.2.2; omega); go_wp2; (have hr : r = true := by have h0 := HA.out.1; rw [ej, List.drop_length] at h0; unfold impl_isDesk.all at h0; exact (Option.some.inj h0).symm); go_ret; exact ⟨-1, rfl, by rw [hr]; rfl, HB.out⟩
set_option maxHeartbeats 8000000 in
set_option maxRecDepth 100000 in
theorem impl_isDesk.contains (k : Nat) (A0 : Option Addr) (c0 : Nat) (l0 : List (List (S25))) (r : Bool) (w : World) (hr0 : Kd.C (Kd.slice 25 k25) w A0 l0.length l0) (hc0 : l0.length ≤ c0) (h : impl_isDesk.all k l0 = some r) :
  Calls Try.prog 84 #[.slice A0 l0.length c0, .func (.func 85) #[] #[]] w fun e w' => e = .returned (.bool (!r)) ∧ Below w.heap.size w w' := by
 have HT := Az (impl_isDesk.index k A0 c0 l0 r w hr0 hc0 h); clear hr0 hc0 h; go_enter Try.func84, Try.ntmps84; go_wp2_with (go_at_call 89; (with_reducible refine HT.out.mono ?_); rintro e w8 ⟨i, rfl, hi, hb⟩); go_ret; exact ⟨by rw [← hi]; first | rfl | (simp; done), hb⟩
set_option maxHeartbeats 8000000 in
set_option maxRecDepth 100000 in
theorem impl_isDesk.calls (k : Nat) (A0_0 : Option Addr) (c0_0 : Nat) (l0_0 : List (S25)) (A0_1 : Option Addr) (c0_1 : Nat) (l0_1 : List (List (S25))) (r : Bool) (w : World) (hr0_0 : Kd.C k25 w A0_0 l0_0.length l0_0) (hc0_0 : l0_0.length ≤ c0_0) (hr0_1 : Kd.C (Kd.slice 25 k25) w A0_1 l0_1.length l0_1) (hc0_1 : l0_1.length ≤ c0_1) (h : impl_isDesk.f k l0_0 l0_1 = some r) :
  Calls Try.prog 65 #[.agg #[.slice A0_0 l0_0.length c0_0, .slice A0_1 l0_1.length c0_1]] w fun e w' => e = .returned (.bool r) ∧ Below w.heap.size w w' := by
 unfold impl_isDesk.f at h; obtain ⟨t, A1, h⟩ := Option.bind_eq_some_iff.mp h; have HT := Az (fun wx (hx : Below w.heap.size w wx) => impl_areNow.calls k A0_0 c0_0 l0_0 t wx (Kd.C_below hr0_0 hx) hc0_0 A1); (have hbm : ∀ wx w', Below w.heap.size w wx → Below wx.heap.size wx w' → Below w.heap.size w w' := fun wx w' h1 h2 => below_step h1 h2); have HBM := Aside0.mk hbm; (have hr1x : ∀ wx, Below w.heap.size w wx → Kd.C (Kd.slice 25 k25) wx A0_1 l0_1.length l0_1 := fun wx hx => Kd.C_below hr0_1 hx); have HR1 := Aside0.mk hr1x; have HC1 := Aside0.mk hc0_1; have HB0 := Az (below_alloc (Below.refl w.heap.size w) (.cells #[.slice A0_0 l0_0.length c0_0, .slice A0_1 l0_1.length c0_1] 42)); clear hbm hr1x hr0_0 hr0_1 hc0_0 hc0_1 A1; cases t
 ·(obtain rfl : r = false := by simpa using h.symm); clear h; go_enter Try.func65, Try.ntmps65; go_wp2_with (go_at_call 63; (with_reducible refine (HT.out _ HB0.out).mono ?_); rintro e w8 ⟨rfl, hb⟩); go_ret; exact ⟨by first | rfl | (simp; done), HBM.out _ _ HB0.out hb⟩
 ·rw [if_pos rfl] at h; by_cases c1 : (l0_1.length : Int) ≤ 10
  ·rw [if_pos c1] at h; have H2 := Aside0.mk h; (have c1b : decide ((l0_1.length : Int) ≤ 10) = true := by simp; omega); (have c1n : l0_1.length ≤ 10 := by omega); clear h; go_enter Try.func65, Try.ntmps65; go_wp2_with (first | (go_at_call 63; (with_reducible refine (HT.out _ HB0.out).mono ?_); rintro e w8 ⟨rfl, hb⟩; have hcell : w8.cell? ⟨w.heap.size, 1, none⟩ = some (.slice A0_1 l0_1.length c0_1) := (by rw [hb.cell (p := ⟨w.heap.size, 1, none⟩) (by simp), World.cell?_alloc_at _ _ _ _ rfl]; rfl); have HB := Az (HBM.out _ _ HB0.out hb); clear hb) | (go_at_call 84; (with_reducible refine (impl_isDesk.contains k A0_1 c0_1 l0_1 r _ (HR1.out _ HB.out) HC1.out H2.out).mono ?_); rintro e w9 ⟨rfl, hb⟩)); go_ret; exact ⟨by first | rfl | (simp; done), HBM.out _ _ HB.out hb⟩
  ·rw [if_neg c1] at h; (obtain rfl : r = false := by simpa using h.symm); (have c1b : decide ((l0_1.length : Int) ≤ 10) = false := by simp; omega); (have c1n : ¬ l0_1.length ≤ 10 := by omega); clear h; go_enter Try.func65, Try.ntmps65; go_wp2_with (first | (go_at_call 63; (with_reducible refine (HT.out _ HB0.out).mono ?_); rintro e w8 ⟨rfl, hb⟩; have hcell : w8.cell? ⟨w.heap.size, 1, none⟩ = some (.slice A0_1 l0_1.length c0_1) := (by rw [hb.cell (p := ⟨w.heap.size, 1, none⟩) (by simp), World.cell?_alloc_at _ _ _ _ rfl]; rfl); have HB := Az (HBM.out _ _ HB0.out hb); clear hb)); go_ret; exact ⟨by first | rfl | (simp; done), HB.out⟩

end Go.Proofs.Ytnnaiaiddjkjnaa.PFnExactDeskRun
