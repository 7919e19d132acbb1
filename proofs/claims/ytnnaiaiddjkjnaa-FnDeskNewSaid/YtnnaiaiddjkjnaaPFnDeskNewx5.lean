-- Written by a program of this session (wip/patch_print.py, over the kit's print) and not by hand; Lean checks every word.
import Derived.Test.YtnnaiaiddjkjnaaPFnDeskNewx0
import Derived.Test.YtnnaiaiddjkjnaaPFnDeskNewx3
import Derived.Test.YtnnaiaiddjkjnaaPFnDeskNewx4
namespace Go.Proofs.Ytnnaiaiddjkjnaa.PFnDeskNew
open Go.RowKit Go.Proofs.YtnnaiaiddjkjnaaW.PrintWords Go.Proofs.YtnnaiaiddjkjnaaW.PrintLast Go.Proofs.YtnnaiaiddjkjnaaW.PrintMore
attribute [local go_sem] max2_int min2_int max_two min_two max_three min_three max_four min_four   -- for this text's walks alone
set_option linter.unusedVariables false
set_option linter.unusedSimpArgs false

/-! ### impl_isDesk: function 65 -/
def impl_isDesk.all (k : Nat) : List (List (S25)) → Option Bool
  | [] => some true
  | x :: r => (impl_areNow.f k x).bind fun t => if t = true then impl_isDesk.all k r else some false
def impl_isDesk.f (k : Nat) (l0_0 : List (S25)) (l0_1 : List (List (S25))) : Option (Bool) :=
  (impl_areNow.f k l0_0).bind fun t => if t = true then (if (l0_1.length : Int) ≤ 10 then impl_isDesk.all k l0_1 else some false) else some false
theorem impl_isDesk.mono_a : ∀ (xs : List (List (S25))) k, LeO (impl_isDesk.all k xs) (impl_isDesk.all (k + 1) xs)
  | [], k => LeO.refl _
  | x :: r, k => by
    unfold impl_isDesk.all
    exact LeO.bind (impl_areNow.mono x k) (fun _ => LeO.ite (impl_isDesk.mono_a r k) (LeO.refl _))
theorem impl_isDesk.mono : ∀ a0 a1 k, LeO (impl_isDesk.f k a0 a1) (impl_isDesk.f (k + 1) a0 a1) := by
  intro a0 a1 k
  unfold impl_isDesk.f
  exact LeO.bind (impl_areNow.mono a0 k) (fun _ => LeO.ite (LeO.ite (impl_isDesk.mono_a a1 k) (LeO.refl _)) (LeO.refl _))
theorem impl_isDesk.drop (xs : List (List (S25))) (j : Nat) (h : j < xs.length) : xs.drop j = rd_L3 xs (j : Int) :: xs.drop (j + 1) := by
  rw [List.drop_eq_getElem_cons h]
  unfold rd_L3
  simp [List.getD_eq_getElem?_getD, List.getElem?_eq_getElem h]
set_option maxHeartbeats 8000000 in
set_option maxRecDepth 100000 in
theorem impl_isDesk.inner (k : Nat) (A0 : Option Addr) (c0 : Nat) (l0 : List (S25)) (r : Bool) (w : World) (hr0 : Kd.C k25 w A0 l0.length l0) (hc0 : l0.length ≤ c0) (h : impl_areNow.f k l0 = some r) :
    Calls Try.prog 85 #[.slice A0 l0.length c0] w fun e w' => e = .returned (.bool (!r)) ∧ Below w.heap.size w w' := by
  have HT := Aside0.mk (impl_areNow.calls k A0 c0 l0 r w hr0 hc0 h)
  clear hr0 hc0 h
  go_enter Try.func85, Try.ntmps85
  go_wp2_with (go_at_call 63; (with_reducible refine HT.out.mono ?_); rintro e w8 ⟨rfl, hb⟩)
  go_ret
  exact ⟨by first | rfl | (simp; done), hb⟩
set_option maxHeartbeats 8000000 in
set_option maxRecDepth 100000 in
theorem impl_isDesk.index (k : Nat) (A0 : Option Addr) (c0 : Nat) (l0 : List (List (S25))) (r : Bool) (w : World) (hr0 : Kd.C (Kd.slice 25 k25) w A0 l0.length l0) (hc0 : l0.length ≤ c0) (h : impl_isDesk.all k l0 = some r) :
    Calls Try.prog 89 #[.slice A0 l0.length c0, .func (.func 85) #[] #[]] w fun e w' => ∃ i : Int, e = .returned (.int .i64 i) ∧ decide (0 ≤ i) = !r ∧ Below w.heap.size w w' := by
  have HR0 := Aside0.mk hr0
  have HC0 := Aside0.mk hc0
  have hm := Kd.C_max hr0
  have HM := Aside0.mk hm
  have HB := Aside0.mk (Below.refl w.heap.size w)
  have H' := Aside0.mk h
  clear hr0 hc0 hm h
  go_enter Try.func89, Try.ntmps89
  go_wp2
  go_loopg [8] (l0.length + 1) (fun kq v8 w' => ∃ (j : Nat), v8 = .int .i64 j ∧ Aside0 (impl_isDesk.all k (l0.drop j) = some r ∧ kq + j = l0.length + 1 ∧ j ≤ l0.length) ∧ Aside0 (Below w.heap.size w w'))
  case atStart => exact ⟨0, rfl, ⟨by simpa using H'.out, by omega, by omega⟩, ⟨HB.out⟩⟩
  case round =>
    clear H' HB
    obtain ⟨j, rfl, HA, HB⟩ := hrel
    cases gk with
    | zero => exact absurd HA.out.2 (by omega)
    | succ k1 =>
      by_cases c3 : j < l0.length
      · have c3b : decide ((j : Int) < (l0.length : Int)) = true := by simp; omega
        have c3n : decide (j < l0.length) = true := by simp; omega
        have HE := HA.out.1
        rw [impl_isDesk.drop l0 j c3] at HE
        unfold impl_isDesk.all at HE
        obtain ⟨t, A5, HE⟩ := Option.bind_eq_some_iff.mp HE
        have HE := Aside0.mk HE
        obtain ⟨ad194, A194_0, c194_0, e194, hx194_0, hl194_0, hi194_0⟩ := at_L3 HR0.out (j : Int) (by omega) (by omega)
        cases e194
        replace hx194_0 := (HB.out.cell (World.block_lt_of_cell? w _ hx194_0)).trans hx194_0
        rw [Int.toNat_natCast] at hx194_0
        have hj0 : (0 : Int) ≤ (j : Int) := by omega
        have hw : wrap64 ((j : Int) + 1) = (j : Int) + 1 := by have := HM.out; unfold wrap64; omega
        have HT := Aside0.mk (fun wx (hx : Below w.heap.size w wx) => impl_isDesk.inner k A194_0 c194_0 (rd_L3 l0 (j : Int)) t wx (Kd.C_below hi194_0 hx) hl194_0 A5)
        have C3 := Aside0.mk c3
        clear hi194_0 hl194_0 A5
        cases t
        · obtain rfl : r = false := by have := HE.out; simp at this; exact this
          go_wp2_with (go_at_call 85; (with_reducible refine (HT.out _ HB.out).mono ?_); rintro e w8 ⟨rfl, hb⟩)
          go_ret
          exact ⟨(j : Int), rfl, by simp, below_step HB.out hb⟩
        · go_wp2_with (go_at_call 85; (with_reducible refine (HT.out _ HB.out).mono ?_); rintro e w8 ⟨rfl, hb⟩)
          go_roundg k1
          case measure => omega
          case rel => exact ⟨j + 1, (by go_num), ⟨by have := HE.out; simpa using this, by have := HA.out.2.1; omega, by have := C3.out; omega⟩, ⟨below_step HB.out hb⟩⟩
      · have c3b : decide ((j : Int) < (l0.length : Int)) = false := by simp; omega
        have c3n : decide (j < l0.length) = false := by simp; omega
        have ej : j = l0.length := by have := HA.out.2.2; omega
        go_wp2
        have hr : r = true := by have h0 := HA.out.1; rw [ej, List.drop_length] at h0; unfold impl_isDesk.all at h0; exact (Option.some.inj h0).symm
        go_ret
        exact ⟨-1, rfl, by rw [hr]; rfl, HB.out⟩
set_option maxHeartbeats 8000000 in
set_option maxRecDepth 100000 in
theorem impl_isDesk.contains (k : Nat) (A0 : Option Addr) (c0 : Nat) (l0 : List (List (S25))) (r : Bool) (w : World) (hr0 : Kd.C (Kd.slice 25 k25) w A0 l0.length l0) (hc0 : l0.length ≤ c0) (h : impl_isDesk.all k l0 = some r) :
    Calls Try.prog 84 #[.slice A0 l0.length c0, .func (.func 85) #[] #[]] w fun e w' => e = .returned (.bool (!r)) ∧ Below w.heap.size w w' := by
  have HT := Aside0.mk (impl_isDesk.index k A0 c0 l0 r w hr0 hc0 h)
  clear hr0 hc0 h
  go_enter Try.func84, Try.ntmps84
  go_wp2_with (go_at_call 89; (with_reducible refine HT.out.mono ?_); rintro e w8 ⟨i, rfl, hi, hb⟩)
  go_ret
  exact ⟨by rw [← hi]; first | rfl | (simp; done), hb⟩
set_option maxHeartbeats 8000000 in
set_option maxRecDepth 100000 in
theorem impl_isDesk.calls (k : Nat) (A0_0 : Option Addr) (c0_0 : Nat) (l0_0 : List (S25)) (A0_1 : Option Addr) (c0_1 : Nat) (l0_1 : List (List (S25))) (r : Bool) (w : World) (hr0_0 : Kd.C k25 w A0_0 l0_0.length l0_0) (hc0_0 : l0_0.length ≤ c0_0) (hr0_1 : Kd.C (Kd.slice 25 k25) w A0_1 l0_1.length l0_1) (hc0_1 : l0_1.length ≤ c0_1) (h : impl_isDesk.f k l0_0 l0_1 = some r) :
    Calls Try.prog 65 #[.agg #[.slice A0_0 l0_0.length c0_0, .slice A0_1 l0_1.length c0_1]] w fun e w' => e = .returned (.bool r) ∧ Below w.heap.size w w' := by
  unfold impl_isDesk.f at h
  obtain ⟨t, A1, h⟩ := Option.bind_eq_some_iff.mp h
  have HT := Aside0.mk (fun wx (hx : Below w.heap.size w wx) => impl_areNow.calls k A0_0 c0_0 l0_0 t wx (Kd.C_below hr0_0 hx) hc0_0 A1)
  have hbm : ∀ wx w', Below w.heap.size w wx → Below wx.heap.size wx w' → Below w.heap.size w w' := fun wx w' h1 h2 => below_step h1 h2
  have HBM := Aside0.mk hbm
  have hr1x : ∀ wx, Below w.heap.size w wx → Kd.C (Kd.slice 25 k25) wx A0_1 l0_1.length l0_1 := fun wx hx => Kd.C_below hr0_1 hx
  have HR1 := Aside0.mk hr1x
  have HC1 := Aside0.mk hc0_1
  have HB0 := Aside0.mk (below_alloc (Below.refl w.heap.size w) (.cells #[.slice A0_0 l0_0.length c0_0, .slice A0_1 l0_1.length c0_1] 42))
  clear hbm hr1x hr0_0 hr0_1 hc0_0 hc0_1 A1
  cases t
  · obtain rfl : r = false := by simpa using h.symm
    clear h
    go_enter Try.func65, Try.ntmps65
    go_wp2_with (go_at_call 63; (with_reducible refine (HT.out _ HB0.out).mono ?_); rintro e w8 ⟨rfl, hb⟩)
    go_ret
    exact ⟨by first | rfl | (simp; done), HBM.out _ _ HB0.out hb⟩
  · rw [if_pos rfl] at h
    by_cases c1 : (l0_1.length : Int) ≤ 10
    · rw [if_pos c1] at h
      have H2 := Aside0.mk h
      have c1b : decide ((l0_1.length : Int) ≤ 10) = true := by simp; omega
      have c1n : l0_1.length ≤ 10 := by omega
      clear h
      go_enter Try.func65, Try.ntmps65
      go_wp2_with (first | (go_at_call 63; (with_reducible refine (HT.out _ HB0.out).mono ?_); rintro e w8 ⟨rfl, hb⟩; have hcell : w8.cell? ⟨w.heap.size, 1, none⟩ = some (.slice A0_1 l0_1.length c0_1) := (by rw [hb.cell (p := ⟨w.heap.size, 1, none⟩) (by simp), World.cell?_alloc_at _ _ _ _ rfl]; rfl); have HB := Aside0.mk (HBM.out _ _ HB0.out hb); clear hb) | (go_at_call 84; (with_reducible refine (impl_isDesk.contains k A0_1 c0_1 l0_1 r _ (HR1.out _ HB.out) HC1.out H2.out).mono ?_); rintro e w9 ⟨rfl, hb⟩))
      go_ret
      exact ⟨by first | rfl | (simp; done), HBM.out _ _ HB.out hb⟩
    · rw [if_neg c1] at h
      obtain rfl : r = false := by simpa using h.symm
      have c1b : decide ((l0_1.length : Int) ≤ 10) = false := by simp; omega
      have c1n : ¬ l0_1.length ≤ 10 := by omega
      clear h
      go_enter Try.func65, Try.ntmps65
      go_wp2_with (first | (go_at_call 63; (with_reducible refine (HT.out _ HB0.out).mono ?_); rintro e w8 ⟨rfl, hb⟩; have hcell : w8.cell? ⟨w.heap.size, 1, none⟩ = some (.slice A0_1 l0_1.length c0_1) := (by rw [hb.cell (p := ⟨w.heap.size, 1, none⟩) (by simp), World.cell?_alloc_at _ _ _ _ rfl]; rfl); have HB := Aside0.mk (HBM.out _ _ HB0.out hb); clear hb))
      go_ret
      exact ⟨by first | rfl | (simp; done), HB.out⟩

/-! ### impl_DeskValid: function 28 -/
def impl_DeskValid.f (k : Nat) (l0_0 : List (S25)) (l0_1 : List (List (S25))) : Option (Bool) := (impl_isDesk.f k l0_0 l0_1).bind fun t189 => (some t189)
theorem impl_DeskValid.mono : ∀ a0 a1 k, LeO (impl_DeskValid.f k a0 a1) (impl_DeskValid.f (k + 1) a0 a1) := by
  intro a0 a1 k
  unfold impl_DeskValid.f
  repeat' first
      | (with_reducible exact impl_isDesk.mono _ _ _)
      | (with_reducible exact LeO.refl _)
      | (with_reducible exact LeO.none _)
      | (with_reducible refine LeO.ite ?_ ?_)
      | (with_reducible refine LeO.bind ?_ (fun _ => ?_))
      | exact impl_isDesk.mono _ _ _
      | exact LeO.none _
      | refine LeO.ite ?_ ?_
      | refine LeO.bind ?_ (fun _ => ?_)
set_option maxHeartbeats 8000000 in
set_option maxRecDepth 100000 in
theorem impl_DeskValid.calls (k : Nat) (A0_0 : Option Addr) (c0_0 : Nat) (l0_0 : List (S25)) (A0_1 : Option Addr) (c0_1 : Nat) (l0_1 : List (List (S25))) (r : Bool) (w : World) (hr0_0 : Kd.C k25 w A0_0 l0_0.length l0_0) (hc0_0 : l0_0.length ≤ c0_0) (hr0_1 : Kd.C (Kd.slice 25 k25) w A0_1 l0_1.length l0_1) (hc0_1 : l0_1.length ≤ c0_1) (h : impl_DeskValid.f k l0_0 l0_1 = some r) :
    Calls Try.prog 28 #[.agg #[.slice A0_0 l0_0.length c0_0, .slice A0_1 l0_1.length c0_1]] w fun e w' => e = .returned (.bool r) ∧ Below w.heap.size w w' := by
  have hu42 := Try.underlying42
  have HR0_0 := Aside0.mk hr0_0
  have HC0_0 := Aside0.mk hc0_0
  clear hr0_0 hc0_0
  have HR0_1 := Aside0.mk hr0_1
  have HC0_1 := Aside0.mk hc0_1
  clear hr0_1 hc0_1
  have HB := Aside0.mk (Below.refl w.heap.size w)
  have H : ((impl_isDesk.f k l0_0 l0_1).bind fun t189 => (some t189)) = some r := h
  clear h
  replace H := Option.bind_eq_some_iff.mp H
  obtain ⟨t189, A20, H⟩ := H
  replace H : (some t189) = some r := H
  have A2 := Aside0.mk A20
  clear A20
  obtain rfl := Option.some.inj H
  go_enter Try.func28, Try.ntmps28
  go_wp2_with (first | ((with_reducible refine gate_dst (N := 1) rfl ?_); refine box_event ?hg (N := 1) ?hd (cs := #[.slice A0_0 l0_0.length c0_0, .slice A0_1 l0_1.length c0_1]) (t := 42) ?hr ?_; (case hd => rfl); (case hg => rfl); (case hr => first | (go_simp; done) | (go_simp; rfl)); intro gb188 hg w3 hbox hb; have n0_ := Aside0.mk (below_step (by repeat (first | (with_reducible first | exact HB.out | apply below_alloc | apply pw_below_drewN | apply below_drew1) | exact HB.out)) hb); have n1_ := Aside0.mk (hbox); have n2_ := Aside0.mk ((by rw [hg]; exact (below_size (by repeat (first | (with_reducible first | exact HB.out | apply below_alloc | apply pw_below_drewN | apply below_drew1) | exact HB.out))) : w.heap.size ≤ gb188)); have n3_ := Aside0.mk ((by rw [hg]; exact (below_size (by repeat (first | (with_reducible first | exact HB.out | apply below_alloc | apply pw_below_drewN | apply below_drew1) | exact HB.out))) : w.heap.size ≤ gb188)); clear HB; have HB := n0_; have BK188 := n1_; have GW188 := n2_; have GE188 := n3_; clear n0_ n1_ n2_ n3_; clear hb hbox hg; have hcz4_0 : w3.cell? ⟨gb188, 0, none⟩ = some (.slice A0_0 l0_0.length c0_0) := (blk_cell BK188.out 0).trans rfl; have hcz4_1 : w3.cell? ⟨gb188, 1, none⟩ = some (.slice A0_1 l0_1.length c0_1) := (blk_cell BK188.out 1).trans rfl; have hfz4_0 := blk_frozen BK188.out 0; have hfz4_1 := blk_frozen BK188.out 1) | ((with_reducible refine gate_callee (f := 65) rfl ?_); refine goesL_ (some 4) rfl rfl Try.func65 (by kernel_rfl) rfl #[.agg #[.slice A0_0 l0_0.length c0_0, .slice A0_1 l0_1.length c0_1]] rfl (by (try simp only [List.map_toArray, List.map_cons, List.map_nil]); first | done | rfl | (simp only [List.length_drop, List.length_take]; rfl)) ?_; (with_reducible refine (impl_isDesk.calls k _ _ l0_0 _ _ l0_1 t189 _ ?side1 ?side2 ?side3 ?side4 A2.out).mono ?_); (case side1 => repeat (first | exact (Kd.C_below HR0_0.out HB.out) | (with_reducible refine Kd.C_alloc ?_ _) | (with_reducible refine Kd.C_drewN ?_ _) | (with_reducible refine Kd.C_drew ?_))); (case side2 => exact HC0_0.out); (case side3 => repeat (first | exact (Kd.C_below HR0_1.out HB.out) | (with_reducible refine Kd.C_alloc ?_ _) | (with_reducible refine Kd.C_drewN ?_ _) | (with_reducible refine Kd.C_drew ?_))); (case side4 => exact HC0_1.out); rintro e w5 ⟨rfl, hb⟩; refine ⟨_, rfl, ?_⟩; have n0_ := Aside0.mk (blk_below (g := gb188) (o := .cells #[.slice A0_0 l0_0.length c0_0, .slice A0_1 l0_1.length c0_1] 42 (0, 0)) (by (with_reducible repeat (first | refine blk_drewN ?_ _ | refine blk_drew ?_ | refine blk_alloc ?_ _)); exact BK188.out) hb); have n1_ := Aside0.mk (below_step (by repeat (first | (with_reducible first | exact HB.out | apply below_alloc | apply pw_below_drewN | apply below_drew1 | refine below_set ?_ GE188.out) | exact HB.out)) hb); clear BK188; clear HB; have BK188 := n0_; have HB := n1_; clear n0_ n1_; (try clear hb); (try clear hb2); (try clear hk); (try clear hi)))
  go_ret
  exact ⟨by first | rfl | (simp [errW_none, errW_some] <;> rfl) | (simp [*, errW_none, errW_some] <;> rfl), by repeat (first | (with_reducible first | exact HB.out | apply below_alloc | apply pw_below_drewN | apply below_drew1 | refine below_set ?_ GE188.out) | exact HB.out)⟩

/-! ### laws_noDesk: function 30 -/
def laws_noDesk.f (k : Nat) (l0_0 : List (S25)) (l0_1 : List (List (S25))) : Option (Bool) := (laws_sameDesk.f k l0_0 l0_1 ([] : List (S25)) ([] : List (List (S25)))).bind fun t191 => (some t191)
theorem laws_noDesk.mono : ∀ a0 a1 k, LeO (laws_noDesk.f k a0 a1) (laws_noDesk.f (k + 1) a0 a1) := by
  intro a0 a1 k
  unfold laws_noDesk.f
  repeat' first
      | (with_reducible exact laws_sameDesk.mono _ _ _ _ _)
      | (with_reducible exact LeO.refl _)
      | (with_reducible exact LeO.none _)
      | (with_reducible refine LeO.ite ?_ ?_)
      | (with_reducible refine LeO.bind ?_ (fun _ => ?_))
      | exact laws_sameDesk.mono _ _ _ _ _
      | exact LeO.none _
      | refine LeO.ite ?_ ?_
      | refine LeO.bind ?_ (fun _ => ?_)
set_option maxHeartbeats 8000000 in
set_option maxRecDepth 100000 in
theorem laws_noDesk.calls (k : Nat) (A0_0 : Option Addr) (c0_0 : Nat) (l0_0 : List (S25)) (A0_1 : Option Addr) (c0_1 : Nat) (l0_1 : List (List (S25))) (r : Bool) (w : World) (hr0_0 : Kd.C k25 w A0_0 l0_0.length l0_0) (hc0_0 : l0_0.length ≤ c0_0) (hr0_1 : Kd.C (Kd.slice 25 k25) w A0_1 l0_1.length l0_1) (hc0_1 : l0_1.length ≤ c0_1) (h : laws_noDesk.f k l0_0 l0_1 = some r) :
    Calls Try.prog 30 #[.agg #[.slice A0_0 l0_0.length c0_0, .slice A0_1 l0_1.length c0_1]] w fun e w' => e = .returned (.bool r) ∧ Below w.heap.size w w' := by
  have hu42 := Try.underlying42
  have HR0_0 := Aside0.mk hr0_0
  have HC0_0 := Aside0.mk hc0_0
  clear hr0_0 hc0_0
  have HR0_1 := Aside0.mk hr0_1
  have HC0_1 := Aside0.mk hc0_1
  clear hr0_1 hc0_1
  have HB := Aside0.mk (Below.refl w.heap.size w)
  have H : ((laws_sameDesk.f k l0_0 l0_1 ([] : List (S25)) ([] : List (List (S25)))).bind fun t191 => (some t191)) = some r := h
  clear h
  replace H := Option.bind_eq_some_iff.mp H
  obtain ⟨t191, A20, H⟩ := H
  replace H : (some t191) = some r := H
  have A2 := Aside0.mk A20
  clear A20
  obtain rfl := Option.some.inj H
  go_enter Try.func30, Try.ntmps30
  go_wp2_with (first | ((with_reducible refine gate_dst (N := 1) rfl ?_); refine box_event ?hg (N := 1) ?hd (cs := #[.slice A0_0 l0_0.length c0_0, .slice A0_1 l0_1.length c0_1]) (t := 42) ?hr ?_; (case hd => rfl); (case hg => rfl); (case hr => first | (go_simp; done) | (go_simp; rfl)); intro gb190 hg w3 hbox hb; have n0_ := Aside0.mk (below_step (by repeat (first | (with_reducible first | exact HB.out | apply below_alloc | apply pw_below_drewN | apply below_drew1) | exact HB.out)) hb); have n1_ := Aside0.mk (hbox); have n2_ := Aside0.mk ((by rw [hg]; exact (below_size (by repeat (first | (with_reducible first | exact HB.out | apply below_alloc | apply pw_below_drewN | apply below_drew1) | exact HB.out))) : w.heap.size ≤ gb190)); have n3_ := Aside0.mk ((by rw [hg]; exact (below_size (by repeat (first | (with_reducible first | exact HB.out | apply below_alloc | apply pw_below_drewN | apply below_drew1) | exact HB.out))) : w.heap.size ≤ gb190)); clear HB; have HB := n0_; have BK190 := n1_; have GW190 := n2_; have GE190 := n3_; clear n0_ n1_ n2_ n3_; clear hb hbox hg; have hcz4_0 : w3.cell? ⟨gb190, 0, none⟩ = some (.slice A0_0 l0_0.length c0_0) := (blk_cell BK190.out 0).trans rfl; have hcz4_1 : w3.cell? ⟨gb190, 1, none⟩ = some (.slice A0_1 l0_1.length c0_1) := (blk_cell BK190.out 1).trans rfl; have hfz4_0 := blk_frozen BK190.out 0; have hfz4_1 := blk_frozen BK190.out 1) | ((with_reducible refine gate_callee (f := 26) rfl ?_); refine goesL_ (some 5) rfl rfl Try.func26 (by kernel_rfl) rfl #[.agg #[.slice A0_0 l0_0.length c0_0, .slice A0_1 l0_1.length c0_1], .agg #[.slice none 0 0, .slice none 0 0]] rfl (by (try simp only [List.map_toArray, List.map_cons, List.map_nil]); first | done | rfl | (simp only [List.length_drop, List.length_take]; rfl)) ?_; (refine (laws_sameDesk.calls k _ _ l0_0 _ _ l0_1 _ _ ([] : List (S25)) _ _ ([] : List (List (S25))) t191 _ ?side1 ?side2 ?side3 ?side4 ?side5 ?side6 ?side7 ?side8 A2.out).mono ?_); (case side1 => repeat (first | exact (Kd.C_below HR0_0.out HB.out) | (with_reducible refine Kd.C_alloc ?_ _) | (with_reducible refine Kd.C_drewN ?_ _) | (with_reducible refine Kd.C_drew ?_))); (case side2 => exact HC0_0.out); (case side3 => repeat (first | exact (Kd.C_below HR0_1.out HB.out) | (with_reducible refine Kd.C_alloc ?_ _) | (with_reducible refine Kd.C_drewN ?_ _) | (with_reducible refine Kd.C_drew ?_))); (case side4 => exact HC0_1.out); (case side5 => exact Kd.C_nil _ _); (case side6 => exact Nat.le_refl _); (case side7 => exact Kd.C_nil _ _); (case side8 => exact Nat.le_refl _); rintro e w5 ⟨rfl, hb⟩; refine ⟨_, rfl, ?_⟩; have n0_ := Aside0.mk (blk_below (g := gb190) (o := .cells #[.slice A0_0 l0_0.length c0_0, .slice A0_1 l0_1.length c0_1] 42 (0, 0)) (by (with_reducible repeat (first | refine blk_drewN ?_ _ | refine blk_drew ?_ | refine blk_alloc ?_ _)); exact BK190.out) hb); have n1_ := Aside0.mk (below_step (by repeat (first | (with_reducible first | exact HB.out | apply below_alloc | apply pw_below_drewN | apply below_drew1 | refine below_set ?_ GE190.out) | exact HB.out)) hb); clear BK190; clear HB; have BK190 := n0_; have HB := n1_; clear n0_ n1_; (try clear hb); (try clear hb2); (try clear hk); (try clear hi)))
  go_ret
  exact ⟨by first | rfl | (simp [errW_none, errW_some] <;> rfl) | (simp [*, errW_none, errW_some] <;> rfl), by repeat (first | (with_reducible first | exact HB.out | apply below_alloc | apply pw_below_drewN | apply below_drew1 | refine below_set ?_ GE190.out) | exact HB.out)⟩

end Go.Proofs.Ytnnaiaiddjkjnaa.PFnDeskNew
