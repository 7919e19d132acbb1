-- Written by a program of this session (wip/patch_print.py, over the kit's print) and not by hand; Lean checks every word.
import Derived.Test.YtfjfdnododnepaaPFnExactMarksOfx0
import Derived.Test.YtfjfdnododnepaaPFnExactMarksOfx1
import Derived.Test.YtfjfdnododnepaaPFnExactMarksOfx3
import Derived.Test.YtfjfdnododnepaaPFnExactMarksOfx7
import Derived.Test.YtfjfdnododnepaaPFnExactMarksOfx8
import Derived.Test.YtfjfdnododnepaaPFnExactMarksOfx9
import Derived.Lib.LazyBuf
import Derived.Deep.RegionHeld3
namespace Go.Proofs.Ytfjfdnododnepaa.PFnExactMarksOf
open Go.RowKit Go.Proofs.YtfjfdnododnepaaW.PrintWords Go.Proofs.YtfjfdnododnepaaW.PrintLast Go.Proofs.YtfjfdnododnepaaW.PrintMore
attribute [local go_sem] max2_int min2_int max_two min_two max_three min_three max_four min_four   -- for this text's walks alone
set_option linter.unusedVariables false
set_option linter.unusedSimpArgs false

/-! ### impl_part_marks: function 37 -/
/-- the text of signs -/
def mch (w : Int) : UInt8 := if w = 1 then 43 else if w = -1 then 45 else 61
def mtx (l : List Int) : ByteArray := ⟨(l.map mch).toArray⟩
theorem mtx_append (a b : List Int) : mtx a ++ mtx b = mtx (a ++ b) := by
  apply ByteArray.ext
  rw [ByteArray.data_append]
  simp [mtx]
theorem e_app (b : ByteArray) : (⟨#[]⟩ : ByteArray) ++ b = b := by apply ByteArray.ext; rw [ByteArray.data_append]; simp
theorem mtx_size (l : List Int) : (mtx l).size = l.length := by simp [mtx, ByteArray.size]
def pre1 (l : List Int) (i : Nat) : ByteArray := if i = 0 then ⟨#[]⟩ else mtx l
def pre2 (l m : List Int) (i : Nat) : ByteArray := if i = 0 then ⟨#[]⟩ else if i = 1 then mtx l else mtx (l ++ m)
theorem str_eq {a b : ByteArray} (h : a = b) : Value.string a = Value.string b := by rw [h]
theorem str_ret {a b : ByteArray} (h : a = b) : Ending.returned (.string a) = .returned (.string b) := by rw [h]
theorem Tree.below {g : Nat} {w w' : World} {p : PT} {b : Nat} (h : Tree g w p b) (hb : Below w.heap.size w w') : Tree g w' p b :=
  h.move (fun k hk _ => hb.block k (Nat.lt_of_le_of_lt hk h.lt))
theorem neg_range {w : Int} (h : w = -1 ∨ w = 0 ∨ w = 1) : -w = -1 ∨ -w = 0 ∨ -w = 1 := by omega
theorem drawn_cell {w wx : World} {a : Addr} {v : Value} (h : Drawn0 w wx) (hc : w.cell? a = some v) : wx.cell? a = some v := by
  obtain ⟨n, rfl⟩ := h
  rw [World.cell?_drewN]
  exact hc
theorem below_cell {w wx : World} {a : Addr} {v : Value} (h : Below w.heap.size w wx) (hc : w.cell? a = some v) : wx.cell? a = some v := (h.cell (World.block_lt_of_cell? w _ hc)).trans hc
theorem turn_eq {w : Int} (h : w = -1 ∨ w = 0 ∨ w = 1) (a b : Bool) : impl_turnBy.f w a b = some (w * sig a b) := by
  rcases h with rfl | rfl | rfl <;> cases a <;> cases b <;> decide +kernel
theorem way_sig {w f : Int} (h : w = -1 ∨ w = 0 ∨ w = 1) (hf : f = -1 ∨ f = 0 ∨ f = 1) : w * f = -1 ∨ w * f = 0 ∨ w * f = 1 := by
  rcases h with rfl | rfl | rfl <;> rcases hf with rfl | rfl | rfl <;> decide
set_option maxHeartbeats 8000000 in
set_option maxRecDepth 100000 in
theorem impl_part_marks.set (g : Nat) {p : PT} (hp : SetT p) : lvs p ≤ 1000000 → ∀ (b : Nat) (way : Int) (w : World), way = -1 ∨ way = 0 ∨ way = 1 → Tree g w p b →
    Calls Try.prog 37 #[.pointer (some ⟨b, 0, none⟩), .int .i64 way] w fun e w' => e = .returned (.string (mtx (sgn way p))) ∧ Drawn0 w w' := by
  induction hp with
  | leaf ch i h1 h2 =>
    intro hl b way w hw ht
    have hc3 : w.cell? ⟨b, 3, none⟩ = some (.slice none 0 0) := (blk_cell ht.2 3).trans rfl
    clear ht h1 h2
    rcases hw with rfl | rfl | rfl
    all_goals
      go_enter Try.func37, Try.ntmps37
      go_wp2
      go_ret
      exact ⟨str_ret (by show _ = mtx [_]; decide +kernel), by repeat (first | exact Drawn0.refl _ | apply Drawn0.step)⟩
  | @one p hp ih =>
    intro hl b way w hw ht
    have hs1 : (mtx (sgn (-way) p)).size ≤ 1000000 := by rw [mtx_size, sgn_len _ hp]; exact hl
    obtain ⟨k1, q, b1, k2, k3, k4, k5, k6, k7⟩ := ht
    have hc0 : w.cell? ⟨b, 0, none⟩ = some (.int .u8 33) := (blk_cell k5 0).trans rfl
    have hc1 : w.cell? ⟨b, 1, none⟩ = some (.slice none 0 0) := (blk_cell k5 1).trans rfl
    have hc3 : w.cell? ⟨b, 3, none⟩ = some (.slice (some ⟨q, 0, none⟩) 1 1) := (blk_cell k5 3).trans rfl
    have hq0 : w.cell? ⟨q, 0, none⟩ = some (.pointer (some ⟨b1, 0, none⟩)) := (blk_cell k6 0).trans rfl
    have HA := Aside0.mk (ih hl b1 (-way) w (neg_range hw) k7)
    have E1 : Aside0 (wrap64 (-way) = -way) := ⟨by unfold wrap64; omega⟩
    have E2 : Aside0 (IntKind.i64.wrap (-way) = -way) := ⟨by rw [IntKind.wrap_i64]; omega⟩
    have hnil := fun (w : World) (a : Option Addr) (l c : Nat) => Go.run_neq_slice_nil (P := Try.prog) w 29 3 a l c Try.underlying29
    have f1 : ¬ 9223372036854775807 < (mtx (sgn (-way) p)).size := by omega
    have f1b : decide (9223372036854775807 < (mtx (sgn (-way) p)).size) = false := decide_eq_false f1
    clear ih k1 k2 k3 k4 k5 k6 k7 hw hl hs1
    have e1 := E1.out
    have e2 := E2.out
    go_enter Try.func37, Try.ntmps37
    go_wp2
    go_loopg [7, 86] 2 (fun kq v7 v86 w' => ∃ i : Nat, v86 = .int .i64 i ∧ v7 = .string (pre1 (sgn (-way) p) i) ∧ Aside0 (kq + i = 2 ∧ i ≤ 1) ∧ Aside0 (i = 0 → w' = w) ∧ Aside0 (Drawn0 w w'))
    case atStart => exact ⟨0, rfl, rfl, ⟨by omega⟩, ⟨fun _ => rfl⟩, ⟨Drawn0.refl _⟩⟩
    case round =>
      obtain ⟨i, rfl, rfl, HX, HW, HP⟩ := hrel
      cases gk with
      | zero => exact absurd HX.out (by omega)
      | succ k1 =>
        by_cases hi : i = 0
        · subst hi
          obtain rfl := HW.out rfl
          rw [show pre1 (sgn (-way) p) 0 = ⟨#[]⟩ from rfl]
          have HK := HX
          clear HX HW HP
          go_wp2_with (go_at_call 37; (with_reducible refine HA.out.mono ?_); rintro e w2 ⟨rfl, ⟨nd, rfl⟩⟩)
          go_roundg k1
          case measure => omega
          case rel => exact ⟨1, (by first | rfl | go_num), str_eq (by rw [e_app]; rfl), ⟨by have := HK.out; omega⟩, ⟨fun h => absurd h (by decide)⟩, ⟨by repeat (first | exact Drawn0.refl _ | apply Drawn0.step)⟩⟩
        · obtain rfl : i = 1 := by have := HX.out; omega
          clear hi
          go_wp2
          go_ret
          exact ⟨str_ret rfl, HP.out⟩
  | @two ch p q hch hp hq ih1 ih2 =>
    intro hl b way w hw ht
    have hs1 : (mtx (sgn way p)).size ≤ 1000000 := by rw [mtx_size, sgn_len _ hp]; simp only [lvs] at hl; omega
    have hs2 : (mtx (sgn way p)).size + (mtx (sgn way q)).size ≤ 1000000 := by rw [mtx_size, mtx_size, sgn_len _ hp, sgn_len _ hq]; exact hl
    obtain ⟨k1, z, b1, b2, k2, k3, k4, k4', k5, k6, k7, k8⟩ := ht
    have hc0 : w.cell? ⟨b, 0, none⟩ = some (.int .u8 ch) := (blk_cell k5 0).trans rfl
    have hc1 : w.cell? ⟨b, 1, none⟩ = some (.slice none 0 0) := (blk_cell k5 1).trans rfl
    have hc3 : w.cell? ⟨b, 3, none⟩ = some (.slice (some ⟨z, 0, none⟩) 2 2) := (blk_cell k5 3).trans rfl
    have hq0 : w.cell? ⟨z, 0, none⟩ = some (.pointer (some ⟨b1, 0, none⟩)) := (blk_cell k6 0).trans rfl
    have HQ0 := Aside0.mk (fun wx (hx : Drawn0 w wx) => drawn_cell hx (show w.cell? ⟨z, 1, none⟩ = some (.pointer (some ⟨b2, 0, none⟩)) from (blk_cell k6 1).trans rfl))
    have d1 : (ch == 126) = false := by rcases hch with rfl | rfl <;> rfl
    have d2 : (ch == 33) = false := by rcases hch with rfl | rfl <;> rfl
    have HA := Aside0.mk (ih1 (by simp only [lvs] at hl; omega) b1 way w hw k7)
    have HQ := Aside0.mk (fun wx (hx : Drawn0 w wx) => ih2 (by simp only [lvs] at hl; omega) b2 way wx hw (by obtain ⟨n, rfl⟩ := hx; exact k8.same rfl))
    have HV : Aside0 (sgn way (.two ch p q) = sgn way p ++ sgn way q) := ⟨rfl⟩
    have hnil := fun (w : World) (a : Option Addr) (l c : Nat) => Go.run_neq_slice_nil (P := Try.prog) w 29 3 a l c Try.underlying29
    have f1 : ¬ 9223372036854775807 < (mtx (sgn way p)).size := by omega
    have f1b : decide (9223372036854775807 < (mtx (sgn way p)).size) = false := decide_eq_false f1
    have f2 : ¬ 9223372036854775807 < (mtx (sgn way p)).size + (mtx (sgn way q)).size := by omega
    have f2b : decide (9223372036854775807 < (mtx (sgn way p)).size + (mtx (sgn way q)).size) = false := decide_eq_false f2
    clear ih1 ih2 k1 k2 k3 k4 k4' k5 k6 k7 k8 hl hs1 hs2 hw hch
    go_enter Try.func37, Try.ntmps37
    go_wp2
    go_loopg [7, 86] 3 (fun kq v7 v86 w' => ∃ i : Nat, v86 = .int .i64 i ∧ v7 = .string (pre2 (sgn way p) (sgn way q) i) ∧ Aside0 (kq + i = 3 ∧ i ≤ 2) ∧ Aside0 (i = 0 → w' = w) ∧ Aside0 (Drawn0 w w'))
    case atStart => exact ⟨0, rfl, rfl, ⟨by omega⟩, ⟨fun _ => rfl⟩, ⟨Drawn0.refl _⟩⟩
    case round =>
      obtain ⟨i, rfl, rfl, HX, HW, HP⟩ := hrel
      cases gk with
      | zero => exact absurd HX.out (by omega)
      | succ k1 =>
        by_cases hi : i = 0
        · subst hi
          obtain rfl := HW.out rfl
          rw [show pre2 (sgn way p) (sgn way q) 0 = ⟨#[]⟩ from rfl]
          have HK := HX
          clear HX HW HP
          go_wp2_with (go_at_call 37; (with_reducible refine HA.out.mono ?_); rintro e w2 ⟨rfl, ⟨nd, rfl⟩⟩)
          go_roundg k1
          case measure => omega
          case rel => exact ⟨1, (by first | rfl | go_num), str_eq (by rw [e_app]; rfl), ⟨by have := HK.out; omega⟩, ⟨fun h => absurd h (by decide)⟩, ⟨by repeat (first | exact Drawn0.refl _ | apply Drawn0.step)⟩⟩
        · by_cases hj : i = 1
          · subst hj
            rw [show pre2 (sgn way p) (sgn way q) 1 = mtx (sgn way p) from rfl]
            have HK := HX
            have hq1 := HQ0.out _ HP.out
            have HM := Aside0.mk (HQ.out _ HP.out)
            clear HX HW hi
            go_wp2_with (go_at_call 37; (with_reducible refine HM.out.mono ?_); rintro e w2 ⟨rfl, ⟨nd, rfl⟩⟩)
            go_roundg k1
            case measure => omega
            case rel => exact ⟨2, (by first | rfl | go_num), str_eq (by rw [mtx_append]; rfl), ⟨by have := HK.out; omega⟩, ⟨fun h => absurd h (by decide)⟩, ⟨by obtain ⟨n, hn⟩ := HP.out; subst hn; repeat (first | exact Drawn0.refl _ | apply Drawn0.step)⟩⟩
          · obtain rfl : i = 2 := by have := HX.out; omega
            clear hi hj
            go_wp2
            go_ret
            exact ⟨str_ret rfl, HP.out⟩
set_option maxHeartbeats 8000000 in
set_option maxRecDepth 100000 in
theorem impl_part_marks.calls (g : Nat) {p : PT} (hp : SentT p) : lvs p ≤ 1000000 → ∀ (b : Nat) (way : Int) (w : World), way = -1 ∨ way = 0 ∨ way = 1 → Tree g w p b →
    Calls Try.prog 37 #[.pointer (some ⟨b, 0, none⟩), .int .i64 way] w fun e w' => e = .returned (.string (mtx (sgns way p))) ∧ Below w.heap.size w w' := by
  induction hp with
  | @one p hp ih =>
    intro hl b way w hw ht
    have hs1 : (mtx (sgns (-way) p)).size ≤ 1000000 := by rw [mtx_size, sgns_len _ hp]; exact hl
    obtain ⟨k1, q, b1, k2, k3, k4, k5, k6, k7⟩ := ht
    have hc0 : w.cell? ⟨b, 0, none⟩ = some (.int .u8 126) := (blk_cell k5 0).trans rfl
    have hc1 : w.cell? ⟨b, 1, none⟩ = some (.slice none 0 0) := (blk_cell k5 1).trans rfl
    have hc3 : w.cell? ⟨b, 3, none⟩ = some (.slice (some ⟨q, 0, none⟩) 1 1) := (blk_cell k5 3).trans rfl
    have hq0 : w.cell? ⟨q, 0, none⟩ = some (.pointer (some ⟨b1, 0, none⟩)) := (blk_cell k6 0).trans rfl
    have HA := Aside0.mk (ih hl b1 (-way) w (neg_range hw) k7)
    have E1 : Aside0 (wrap64 (-way) = -way) := ⟨by unfold wrap64; omega⟩
    have E2 : Aside0 (IntKind.i64.wrap (-way) = -way) := ⟨by rw [IntKind.wrap_i64]; omega⟩
    have hnil := fun (w : World) (a : Option Addr) (l c : Nat) => Go.run_neq_slice_nil (P := Try.prog) w 29 3 a l c Try.underlying29
    have f1 : ¬ 9223372036854775807 < (mtx (sgns (-way) p)).size := by omega
    have f1b : decide (9223372036854775807 < (mtx (sgns (-way) p)).size) = false := decide_eq_false f1
    clear ih k1 k2 k3 k4 k5 k6 k7 hw hl hs1
    have e1 := E1.out
    have e2 := E2.out
    go_enter Try.func37, Try.ntmps37
    go_wp2
    go_loopg [7, 86] 2 (fun kq v7 v86 w' => ∃ i : Nat, v86 = .int .i64 i ∧ v7 = .string (pre1 (sgns (-way) p) i) ∧ Aside0 (kq + i = 2 ∧ i ≤ 1) ∧ Aside0 (i = 0 → w' = w) ∧ Aside0 (Below w.heap.size w w'))
    case atStart => exact ⟨0, rfl, rfl, ⟨by omega⟩, ⟨fun _ => rfl⟩, ⟨Below.refl _ _⟩⟩
    case round =>
      obtain ⟨i, rfl, rfl, HX, HW, HP⟩ := hrel
      cases gk with
      | zero => exact absurd HX.out (by omega)
      | succ k1 =>
        by_cases hi : i = 0
        · subst hi
          obtain rfl := HW.out rfl
          rw [show pre1 (sgns (-way) p) 0 = ⟨#[]⟩ from rfl]
          have HK := HX
          clear HX HW HP
          go_wp2_with (go_at_call 37; (with_reducible refine HA.out.mono ?_); rintro e w2 ⟨rfl, hb2⟩; have HB2 := Aside0.mk hb2; clear hb2)
          go_roundg k1
          case measure => omega
          case rel => exact ⟨1, (by first | rfl | go_num), str_eq (by rw [e_app]; rfl), ⟨by have := HK.out; omega⟩, ⟨fun h => absurd h (by decide)⟩, ⟨HB2.out⟩⟩
        · obtain rfl : i = 1 := by have := HX.out; omega
          clear hi
          go_wp2
          go_ret
          exact ⟨str_ret rfl, HP.out⟩
  | @two ch p q hch hp hq ih1 ih2 =>
    intro hl b way w hw ht
    have hs1 : (mtx (sgns way p)).size ≤ 1000000 := by rw [mtx_size, sgns_len _ hp]; simp only [lvs] at hl; omega
    have hs2 : (mtx (sgns way p)).size + (mtx (sgns way q)).size ≤ 1000000 := by rw [mtx_size, mtx_size, sgns_len _ hp, sgns_len _ hq]; exact hl
    obtain ⟨k1, z, b1, b2, k2, k3, k4, k4', k5, k6, k7, k8⟩ := ht
    have hc0 : w.cell? ⟨b, 0, none⟩ = some (.int .u8 ch) := (blk_cell k5 0).trans rfl
    have hc1 : w.cell? ⟨b, 1, none⟩ = some (.slice none 0 0) := (blk_cell k5 1).trans rfl
    have hc3 : w.cell? ⟨b, 3, none⟩ = some (.slice (some ⟨z, 0, none⟩) 2 2) := (blk_cell k5 3).trans rfl
    have hq0 : w.cell? ⟨z, 0, none⟩ = some (.pointer (some ⟨b1, 0, none⟩)) := (blk_cell k6 0).trans rfl
    have HQ0 := Aside0.mk (fun wx (hx : Below w.heap.size w wx) => below_cell hx (show w.cell? ⟨z, 1, none⟩ = some (.pointer (some ⟨b2, 0, none⟩)) from (blk_cell k6 1).trans rfl))
    have d1 : (ch == 126) = false := by rcases hch with rfl | rfl <;> rfl
    have d2 : (ch == 33) = false := by rcases hch with rfl | rfl <;> rfl
    have HA := Aside0.mk (ih1 (by simp only [lvs] at hl; omega) b1 way w hw k7)
    have HQ := Aside0.mk (fun wx (hx : Below w.heap.size w wx) => ih2 (by simp only [lvs] at hl; omega) b2 way wx hw (k8.below hx))
    have HV : Aside0 (sgns way (.two ch p q) = sgns way p ++ sgns way q) := ⟨rfl⟩
    have hnil := fun (w : World) (a : Option Addr) (l c : Nat) => Go.run_neq_slice_nil (P := Try.prog) w 29 3 a l c Try.underlying29
    have f1 : ¬ 9223372036854775807 < (mtx (sgns way p)).size := by omega
    have f1b : decide (9223372036854775807 < (mtx (sgns way p)).size) = false := decide_eq_false f1
    have f2 : ¬ 9223372036854775807 < (mtx (sgns way p)).size + (mtx (sgns way q)).size := by omega
    have f2b : decide (9223372036854775807 < (mtx (sgns way p)).size + (mtx (sgns way q)).size) = false := decide_eq_false f2
    clear ih1 ih2 k1 k2 k3 k4 k4' k5 k6 k7 k8 hl hs1 hs2 hw hch
    go_enter Try.func37, Try.ntmps37
    go_wp2
    go_loopg [7, 86] 3 (fun kq v7 v86 w' => ∃ i : Nat, v86 = .int .i64 i ∧ v7 = .string (pre2 (sgns way p) (sgns way q) i) ∧ Aside0 (kq + i = 3 ∧ i ≤ 2) ∧ Aside0 (i = 0 → w' = w) ∧ Aside0 (Below w.heap.size w w'))
    case atStart => exact ⟨0, rfl, rfl, ⟨by omega⟩, ⟨fun _ => rfl⟩, ⟨Below.refl _ _⟩⟩
    case round =>
      obtain ⟨i, rfl, rfl, HX, HW, HP⟩ := hrel
      cases gk with
      | zero => exact absurd HX.out (by omega)
      | succ k1 =>
        by_cases hi : i = 0
        · subst hi
          obtain rfl := HW.out rfl
          rw [show pre2 (sgns way p) (sgns way q) 0 = ⟨#[]⟩ from rfl]
          have HK := HX
          clear HX HW HP
          go_wp2_with (go_at_call 37; (with_reducible refine HA.out.mono ?_); rintro e w2 ⟨rfl, hb2⟩; have HB2 := Aside0.mk hb2; clear hb2)
          go_roundg k1
          case measure => omega
          case rel => exact ⟨1, (by first | rfl | go_num), str_eq (by rw [e_app]; rfl), ⟨by have := HK.out; omega⟩, ⟨fun h => absurd h (by decide)⟩, ⟨HB2.out⟩⟩
        · by_cases hj : i = 1
          · subst hj
            rw [show pre2 (sgns way p) (sgns way q) 1 = mtx (sgns way p) from rfl]
            have HK := HX
            have hq1 := HQ0.out _ HP.out
            have HM := Aside0.mk (HQ.out _ HP.out)
            clear HX HW hi
            go_wp2_with (go_at_call 37; (with_reducible refine HM.out.mono ?_); rintro e w2 ⟨rfl, hb2⟩; have HB2 := Aside0.mk hb2; clear hb2)
            go_roundg k1
            case measure => omega
            case rel => exact ⟨2, (by first | rfl | go_num), str_eq (by rw [mtx_append]; rfl), ⟨by have := HK.out; omega⟩, ⟨fun h => absurd h (by decide)⟩, ⟨below_step HP.out HB2.out⟩⟩
          · obtain rfl : i = 2 := by have := HX.out; omega
            clear hi hj
            go_wp2
            go_ret
            exact ⟨str_ret rfl, HP.out⟩
  | @tri t p q x hx hp hq =>
    intro hl b way w hw ht
    obtain ⟨t21, _⟩ := nms_t _ hx
    simp only at t21
    have hs2 : (mtx (sgn (way * sg1 t) p)).size + (mtx (sgn (way * sg2 t) q)).size ≤ 1000000 := by rw [mtx_size, mtx_size, sgn_len _ hp, sgn_len _ hq]; exact hl
    obtain ⟨k1, z, b1, b2, v, k2, k3, k4, k4', k5, k6, kr, k7, k8⟩ := ht
    obtain ⟨At, ct, rfl⟩ := Kd.R_slice kr
    have krd := Kd.R_reads' kr
    obtain ⟨ad, hA, _⟩ := Kd.at_int krd.2.2 0 (by omega) (by omega)
    subst hA
    have hc1 : w.cell? ⟨b, 1, none⟩ = some (.slice (some ad) t.length ct) := (blk_cell k5 1).trans rfl
    have hc3 : w.cell? ⟨b, 3, none⟩ = some (.slice (some ⟨z, 0, none⟩) 2 2) := (blk_cell k5 3).trans rfl
    have hq0 : w.cell? ⟨z, 0, none⟩ = some (.pointer (some ⟨b1, 0, none⟩)) := (blk_cell k6 0).trans rfl
    have hq1 : w.cell? ⟨z, 1, none⟩ = some (.pointer (some ⟨b2, 0, none⟩)) := (blk_cell k6 1).trans rfl
    have HC1 := Aside0.mk hc1
    have HC3 := Aside0.mk hc3
    have HQ0 := Aside0.mk hq0
    have HQ1 := Aside0.mk hq1
    have HM1 := Aside0.mk (fun wx (hx : Below w.heap.size w wx) => impl_moreAre.calls (some ad) ct t wx t21 (Kd.C_below krd.2.2 hx) krd.2.1)
    have HM2 := Aside0.mk (fun wx (hx : Below w.heap.size w wx) => impl_fewerAre.calls (some ad) ct t wx t21 (Kd.C_below krd.2.2 hx) krd.2.1)
    have HM3 := Aside0.mk (fun wx (hx : Below w.heap.size w wx) => impl_moreDo.calls (some ad) ct t wx t21 (Kd.C_below krd.2.2 hx) krd.2.1)
    have HM4 := Aside0.mk (fun wx (hx : Below w.heap.size w wx) => impl_fewerDo.calls (some ad) ct t wx t21 (Kd.C_below krd.2.2 hx) krd.2.1)
    have HT1 := Aside0.mk (fun wx => impl_turnBy.calls way (mAre t) (fAre t) _ wx (turn_eq hw _ _))
    have HT2 := Aside0.mk (fun wx => impl_turnBy.calls way (mDo t) (fDo t) _ wx (turn_eq hw _ _))
    have HP1 : Aside0 (∀ wx, Below w.heap.size w wx → Calls Try.prog 37 #[.pointer (some ⟨b1, 0, none⟩), .int .i64 (way * sig (mAre t) (fAre t))] wx fun e w' => e = .returned (.string (mtx (sgn (way * sg1 t) p))) ∧ Drawn0 wx w') := ⟨fun wx hx => impl_part_marks.set g hp (by simp only [lvs] at hl; omega) b1 (way * sg1 t) wx (way_sig hw (sig_range _ _)) (k7.below hx)⟩
    have HP2 : Aside0 (∀ wx, Below w.heap.size w wx → Calls Try.prog 37 #[.pointer (some ⟨b2, 0, none⟩), .int .i64 (way * sig (mDo t) (fDo t))] wx fun e w' => e = .returned (.string (mtx (sgn (way * sg2 t) q))) ∧ Drawn0 wx w') := ⟨fun wx hx => impl_part_marks.set g hq (by simp only [lvs] at hl; omega) b2 (way * sg2 t) wx (way_sig hw (sig_range _ _)) (k8.below hx)⟩
    have hnil := fun (w : World) (a : Option Addr) (l c : Nat) => Go.run_neq_slice_nil (P := Try.prog) w 29 3 a l c Try.underlying29
    have f2 : ¬ 9223372036854775807 < (mtx (sgn (way * sg1 t) p)).size + (mtx (sgn (way * sg2 t) q)).size := by omega
    have f2b : decide (9223372036854775807 < (mtx (sgn (way * sg1 t) p)).size + (mtx (sgn (way * sg2 t) q)).size) = false := decide_eq_false f2
    have HV : Aside0 (sgns way (.tri t p q) = sgn (way * sg1 t) p ++ sgn (way * sg2 t) q) := ⟨rfl⟩
    clear k1 k2 k3 k4 k4' k5 k6 k7 k8 kr krd hs2 hl hw t21 hx hq0 hq1
    go_enter Try.func37, Try.ntmps37
    go_upto_region 4 with fail
    go_region_held3 (fun w' => w'.cell? ⟨b, 1, none⟩ = some (.slice (some ad) t.length ct) ∧ Aside0 (Below w.heap.size w w')) (first | exact ⟨hc1, ⟨below_drew1 (Below.refl _ _)⟩⟩ | ((try go_split_ands); refine ⟨below_cell hb3 ?_, ⟨below_step ?_ hb3⟩⟩ <;> first | assumption | exact Aside0.out (by assumption)) | ((try go_split_ands); refine ⟨?_, ⟨pw_below_drewN (Aside0.out (by assumption)) _⟩⟩; rw [World.cell?_drewN]; assumption) | go_keep) (first | (go_at_call 54; (try go_split_ands); refine (HM1.out _ ?_).mono ?_; (exact Aside0.out (by assumption)); rintro e w' ⟨rfl, hb3⟩) | (go_at_call 55; (try go_split_ands); refine (HM2.out _ ?_).mono ?_; (exact Aside0.out (by assumption)); rintro e w' ⟨rfl, hb3⟩) | (go_at_call 53; refine (HT1.out _).mono ?_; rintro e w' ⟨rfl, ⟨nd, rfl⟩⟩))
    go_upto_region 5 with fail
    have HBa : Aside0 (Below w.heap.size w (w'.drewN nd)) := by first | assumption | (go_split_ands; assumption)
    generalize w'.drewN nd = Wa at HBa ⊢
    clear hc1
    have hc1 := below_cell HBa.out HC1.out
    go_region_held3 (fun w' => w'.cell? ⟨b, 1, none⟩ = some (.slice (some ad) t.length ct) ∧ Aside0 (Below w.heap.size w w')) (first | exact ⟨hc1, ⟨below_drew1 HBa.out⟩⟩ | ((try go_split_ands); refine ⟨below_cell hb4 ?_, ⟨below_step ?_ hb4⟩⟩ <;> first | assumption | exact Aside0.out (by assumption)) | ((try go_split_ands); refine ⟨?_, ⟨pw_below_drewN (Aside0.out (by assumption)) _⟩⟩; rw [World.cell?_drewN]; assumption) | go_keep) (first | (go_at_call 56; (try go_split_ands); refine (HM3.out _ ?_).mono ?_; (exact Aside0.out (by assumption)); rintro e w' ⟨rfl, hb4⟩) | (go_at_call 57; (try go_split_ands); refine (HM4.out _ ?_).mono ?_; (exact Aside0.out (by assumption)); rintro e w' ⟨rfl, hb4⟩) | (go_at_call 53; refine (HT2.out _).mono ?_; rintro e w' ⟨rfl, ⟨nd2, rfl⟩⟩))
    go_upto_region 6 with fail
    have HBb : Aside0 (Below w.heap.size w (w'.drewN nd2)) := by first | assumption | (go_split_ands; assumption)
    generalize w'.drewN nd2 = Wb at HBb ⊢
    clear hc1
    have hc1 := below_cell HBb.out HC1.out
    clear hc1 hc3
    have hc3 := below_cell HBb.out HC3.out
    have hq0 := below_cell HBb.out HQ0.out
    have hq1 := below_cell HBb.out HQ1.out
    go_quiet ((go_at_call 37; first | (with_reducible exact Calls.quiet_of ((HP1.out _ (pw_below_drewN HBb.out _)).mono (fun _ _ h => ⟨h.1, h.2.out⟩))) | (with_reducible exact Calls.quiet_of ((HP2.out _ (pw_below_drewN HBb.out _)).mono (fun _ _ h => ⟨h.1, h.2.out⟩)))))
    go_wp2
    go_ret
    exact ⟨str_ret (by rw [HV.out, ← mtx_append]), by (with_reducible repeat apply pw_below_drewN); exact HBb.out⟩

/-! ### impl_MarksOf: function 20 -/
def impl_MarksOf.f (a0 : ByteArray) : Option (ByteArray) := some (match pread a0 with | none => ⟨#[]⟩ | some p => mtx (sgns 1 p))
set_option maxHeartbeats 8000000 in
set_option maxRecDepth 100000 in
theorem impl_MarksOf.calls (a0 : ByteArray) (r : ByteArray) (w : World) (h : impl_MarksOf.f a0 = some r) :
    Calls Try.prog 20 #[.string a0] w fun e w' => e = .returned (.string r) ∧ Below w.heap.size w w' := by
  unfold impl_MarksOf.f at h
  have HS := impl_readSentence.calls a0 w
  cases hp : pread a0 with
  | none =>
    rw [hp] at HS h
    obtain rfl := Option.some.inj h
    replace HS := Aside0.mk HS
    clear hp h
    go_enter Try.func20, Try.ntmps20
    go_wp2_with (go_at_call 33; (with_reducible refine HS.out.mono ?_); rintro e w2 ⟨hb, rfl⟩)
    go_ret
    exact ⟨by first | rfl | (simp; done), hb⟩
  | some p =>
    rw [hp] at HS h
    obtain rfl := Option.some.inj h
    obtain ⟨hs, hl, _, _⟩ := psent_top hp
    replace HS := Aside0.mk HS
    have HM := Aside0.mk (fun b wx ht => impl_part_marks.calls w.heap.size hs (by omega) b 1 wx (by decide) ht)
    clear hp h hs hl
    go_enter Try.func20, Try.ntmps20
    go_wp2_with (first | (go_at_call 33; (with_reducible refine HS.out.mono ?_); rintro e w2 ⟨hb, b, rfl, ht⟩; have HT := Aside0.mk ht; have HB := Aside0.mk hb; clear ht hb) | (go_at_call 37; (with_reducible refine (HM.out _ _ HT.out).mono ?_); rintro e w3 ⟨rfl, hb3⟩))
    go_ret
    exact ⟨by first | rfl | (simp; done), below_step HB.out hb3⟩

/-! ### laws_FnExactMarksOf: function 6 -/
def laws_FnExactMarksOf.f (k : Nat) (a0 : ByteArray) : Option (Bool) := if (a0.size : Int) > 1048576 then (some true) else ((spec_MarksOf.f k a0).bind fun t227 => ((impl_MarksOf.f a0).bind fun t228 => (if t228.toList = t227.toList then (some true) else (some false))))
theorem laws_FnExactMarksOf.mono : ∀ a0 k, LeO (laws_FnExactMarksOf.f k a0) (laws_FnExactMarksOf.f (k + 1) a0) := by
  intro a0 k
  unfold laws_FnExactMarksOf.f
  repeat' first
      | (with_reducible exact spec_MarksOf.mono _ _)
      | (with_reducible exact LeO.refl _)
      | (with_reducible exact LeO.none _)
      | (with_reducible refine LeO.ite ?_ ?_)
      | (with_reducible refine LeO.bind ?_ (fun _ => ?_))
      | exact spec_MarksOf.mono _ _
      | exact LeO.none _
      | refine LeO.ite ?_ ?_
      | refine LeO.bind ?_ (fun _ => ?_)
set_option maxHeartbeats 8000000 in
set_option maxRecDepth 100000 in
theorem laws_FnExactMarksOf.calls (k : Nat) (a0 : ByteArray) (r : Bool) (w : World) (h : laws_FnExactMarksOf.f k a0 = some r) :
    Calls Try.prog 6 #[.string a0] w fun e w' => e = .returned (.bool r) ∧ Below w.heap.size w w' := by
  have HB := Aside0.mk (Below.refl w.heap.size w)
  have H : (if (a0.size : Int) > 1048576 then (some true) else ((spec_MarksOf.f k a0).bind fun t227 => ((impl_MarksOf.f a0).bind fun t228 => (if t228.toList = t227.toList then (some true) else (some false))))) = some r := h
  clear h
  by_cases c2 : (a0.size : Int) > 1048576
  · rw [if_pos c2] at H
    have c2b0 : decide (1048576 < (a0.size : Int)) = true := decide_eq_true c2
    have c2b1 : decide (1048576 < a0.size) = true := decide_eq_true (by omega)
    clear c2
    obtain rfl := Option.some.inj H
    go_enter Try.func6, Try.ntmps6
    go_wp2
    go_ret
    exact ⟨by first | rfl | (simp [errW_none, errW_some] <;> rfl) | (simp [*, errW_none, errW_some] <;> rfl), by repeat (first | (with_reducible first | exact HB.out | apply below_alloc | apply pw_below_drewN | apply below_drew1) | exact HB.out)⟩
  · rw [if_neg c2] at H
    have c2b0 : decide (1048576 < (a0.size : Int)) = false := decide_eq_false c2
    have c2b1 : decide (1048576 < a0.size) = false := decide_eq_false (by omega)
    clear c2
    replace H := Option.bind_eq_some_iff.mp H
    obtain ⟨t227, A30, H⟩ := H
    replace H : ((impl_MarksOf.f a0).bind fun t228 => (if t228.toList = t227.toList then (some true) else (some false))) = some r := H
    have A3 := Aside0.mk A30
    clear A30
    replace H := Option.bind_eq_some_iff.mp H
    obtain ⟨t228, A40, H⟩ := H
    replace H : (if t228.toList = t227.toList then (some true) else (some false)) = some r := H
    have A4 := Aside0.mk A40
    clear A40
    by_cases c5 : t228.toList = t227.toList
    · rw [if_pos c5] at H
      have c5b0 : (t228.toList == t227.toList) = true := beq_iff_eq.mpr c5
      have c5b1 : (t228.toList != t227.toList) = false := bne_eq_false_iff_eq.mpr c5
      clear c5
      obtain rfl := Option.some.inj H
      go_enter Try.func6, Try.ntmps6
      go_wp2_with (first | ((with_reducible refine gate_callee (f := 19) rfl ?_); refine goesL_ (some 9) rfl rfl Try.func19 (by kernel_rfl) rfl #[.string a0] rfl (by (try simp only [List.map_toArray, List.map_cons, List.map_nil]); first | done | rfl | (simp only [List.length_drop, List.length_take]; rfl)) ?_; (with_reducible refine (spec_MarksOf.calls k a0 t227 _ A3.out).mono ?_); rintro e w6 ⟨rfl, hb⟩; refine ⟨_, rfl, ?_⟩; have n0_ := Aside0.mk (below_step (by repeat (first | (with_reducible first | exact HB.out | apply below_alloc | apply pw_below_drewN | apply below_drew1) | exact HB.out)) hb); clear HB; have HB := n0_; clear n0_; (try clear hb); (try clear hb2); (try clear hk); (try clear hi)) | ((with_reducible refine gate_callee (f := 20) rfl ?_); refine goesL_ (some 11) rfl rfl Try.func20 (by kernel_rfl) rfl #[.string a0] rfl (by (try simp only [List.map_toArray, List.map_cons, List.map_nil]); first | done | rfl | (simp only [List.length_drop, List.length_take]; rfl)) ?_; (with_reducible refine (impl_MarksOf.calls a0 t228 _ A4.out).mono ?_); rintro e w7 ⟨rfl, hb⟩; refine ⟨_, rfl, ?_⟩; have n0_ := Aside0.mk (below_step (by repeat (first | (with_reducible first | exact HB.out | apply below_alloc | apply pw_below_drewN | apply below_drew1) | exact HB.out)) hb); clear HB; have HB := n0_; clear n0_; (try clear hb); (try clear hb2); (try clear hk); (try clear hi)))
      go_ret
      exact ⟨by first | rfl | (simp [errW_none, errW_some] <;> rfl) | (simp [*, errW_none, errW_some] <;> rfl), by repeat (first | (with_reducible first | exact HB.out | apply below_alloc | apply pw_below_drewN | apply below_drew1) | exact HB.out)⟩
    · rw [if_neg c5] at H
      have c5b0 : (t228.toList == t227.toList) = false := beq_eq_false_iff_ne.mpr c5
      have c5b1 : (t228.toList != t227.toList) = true := bne_iff_ne.mpr c5
      obtain rfl := Option.some.inj H
      go_enter Try.func6, Try.ntmps6
      go_wp2_with (first | ((with_reducible refine gate_callee (f := 19) rfl ?_); refine goesL_ (some 9) rfl rfl Try.func19 (by kernel_rfl) rfl #[.string a0] rfl (by (try simp only [List.map_toArray, List.map_cons, List.map_nil]); first | done | rfl | (simp only [List.length_drop, List.length_take]; rfl)) ?_; (with_reducible refine (spec_MarksOf.calls k a0 t227 _ A3.out).mono ?_); rintro e w8 ⟨rfl, hb⟩; refine ⟨_, rfl, ?_⟩; have n0_ := Aside0.mk (below_step (by repeat (first | (with_reducible first | exact HB.out | apply below_alloc | apply pw_below_drewN | apply below_drew1) | exact HB.out)) hb); clear HB; have HB := n0_; clear n0_; (try clear hb); (try clear hb2); (try clear hk); (try clear hi)) | ((with_reducible refine gate_callee (f := 20) rfl ?_); refine goesL_ (some 11) rfl rfl Try.func20 (by kernel_rfl) rfl #[.string a0] rfl (by (try simp only [List.map_toArray, List.map_cons, List.map_nil]); first | done | rfl | (simp only [List.length_drop, List.length_take]; rfl)) ?_; (with_reducible refine (impl_MarksOf.calls a0 t228 _ A4.out).mono ?_); rintro e w9 ⟨rfl, hb⟩; refine ⟨_, rfl, ?_⟩; have n0_ := Aside0.mk (below_step (by repeat (first | (with_reducible first | exact HB.out | apply below_alloc | apply pw_below_drewN | apply below_drew1) | exact HB.out)) hb); clear HB; have HB := n0_; clear n0_; (try clear hb); (try clear hb2); (try clear hk); (try clear hi)))
      go_ret
      exact ⟨by first | rfl | (simp [errW_none, errW_some] <;> rfl) | (simp [*, errW_none, errW_some] <;> rfl), by repeat (first | (with_reducible first | exact HB.out | apply below_alloc | apply pw_below_drewN | apply below_drew1) | exact HB.out)⟩

/-- THE ONE PURE STATEMENT of laws_FnExactMarksOf: yours. -/
def laws_FnExactMarksOf.Pure : Prop := ∀ (a0 : ByteArray), a0.size ≤ 140737488351232 → ∃ k, laws_FnExactMarksOf.f k a0 = some true
theorem laws_FnExactMarksOf.walk (P : laws_FnExactMarksOf.Pure) (a0 : ByteArray) (w : World) (w0 : a0.size ≤ 140737488351232) :
    Calls Try.prog 6 #[.string a0] w fun e w' => e = .returned (.bool true) ∧ Below w.heap.size w w' := by
  obtain ⟨k, h⟩ := P a0 w0
  refine (laws_FnExactMarksOf.calls k a0 true w h).mono ?_
  rintro e w' ⟨rfl, hd⟩
  exact ⟨rfl, hd⟩

end Go.Proofs.Ytfjfdnododnepaa.PFnExactMarksOf
