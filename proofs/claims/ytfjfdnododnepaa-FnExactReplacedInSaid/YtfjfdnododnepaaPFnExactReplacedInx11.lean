-- Written by a program of this session (wip/patch_print.py, over the kit's print) and not by hand; Lean checks every word.
import Derived.Test.YtfjfdnododnepaaPFnExactReplacedInx0
import Derived.Test.YtfjfdnododnepaaPFnExactReplacedInx1
import Derived.Test.YtfjfdnododnepaaPFnExactReplacedInx2
import Derived.Test.YtfjfdnododnepaaPFnExactReplacedInx3
import Derived.Test.YtfjfdnododnepaaPFnExactReplacedInx7
import Derived.Test.YtfjfdnododnepaaPFnExactReplacedInx8
import Derived.Test.YtfjfdnododnepaaPFnExactReplacedInx10
import Derived.Lib.LazyBuf
import Derived.Deep.RegionHeld3
namespace Go.Proofs.Ytfjfdnododnepaa.PFnExactReplacedIn
open Go.RowKit Go.Proofs.YtfjfdnododnepaaW.PrintWords Go.Proofs.YtfjfdnododnepaaW.PrintLast Go.Proofs.YtfjfdnododnepaaW.PrintMore
attribute [local go_sem] max2_int min2_int max_two min_two max_three min_three max_four min_four   -- for this text's walks alone
set_option linter.unusedVariables false
set_option linter.unusedSimpArgs false

/-! ### impl_part_marks: function 37 -/
/-- the text of signs -/
def mch (w : Int) : UInt8 := if w = 1 then 43 else if w = -1 then 45 else 61
def mtx (l : List Int) : ByteArray := ⟨(l.map mch).toArray⟩
theorem mtx_append (a b : List Int) : mtx a ++ mtx b = mtx (a ++ b) := by
  apply ByteArray.ext
  rw [ByteArray.data_append]
  simp [mtx]
theorem e_app (b : ByteArray) : (⟨#[]⟩ : ByteArray) ++ b = b := by apply ByteArray.ext; rw [ByteArray.data_append]; simp
theorem mtx_size (l : List Int) : (mtx l).size = l.length := by simp [mtx, ByteArray.size]
def pre1 (l : List Int) (i : Nat) : ByteArray := if i = 0 then ⟨#[]⟩ else mtx l
def pre2 (l m : List Int) (i : Nat) : ByteArray := if i = 0 then ⟨#[]⟩ else if i = 1 then mtx l else mtx (l ++ m)
theorem str_eq {a b : ByteArray} (h : a = b) : Value.string a = Value.string b := by rw [h]
theorem str_ret {a b : ByteArray} (h : a = b) : Ending.returned (.string a) = .returned (.string b) := by rw [h]
theorem Tree.below {g : Nat} {w w' : World} {p : PT} {b : Nat} (h : Tree g w p b) (hb : Below w.heap.size w w') : Tree g w' p b :=
  h.move (fun k hk _ => hb.block k (Nat.lt_of_le_of_lt hk h.lt))
theorem neg_range {w : Int} (h : w = -1 ∨ w = 0 ∨ w = 1) : -w = -1 ∨ -w = 0 ∨ -w = 1 := by omega
theorem drawn_cell {w wx : World} {a : Addr} {v : Value} (h : Drawn0 w wx) (hc : w.cell? a = some v) : wx.cell? a = some v := by
  obtain ⟨n, rfl⟩ := h
  rw [World.cell?_drewN]
  exact hc
theorem below_cell {w wx : World} {a : Addr} {v : Value} (h : Below w.heap.size w wx) (hc : w.cell? a = some v) : wx.cell? a = some v := (h.cell (World.block_lt_of_cell? w _ hc)).trans hc
theorem turn_eq {w : Int} (h : w = -1 ∨ w = 0 ∨ w = 1) (a b : Bool) : impl_turnBy.f w a b = some (w * sig a b) := by
  rcases h with rfl | rfl | rfl <;> cases a <;> cases b <;> decide +kernel
theorem way_sig {w f : Int} (h : w = -1 ∨ w = 0 ∨ w = 1) (hf : f = -1 ∨ f = 0 ∨ f = 1) : w * f = -1 ∨ w * f = 0 ∨ w * f = 1 := by
  rcases h with rfl | rfl | rfl <;> rcases hf with rfl | rfl | rfl <;> decide
set_option maxHeartbeats 8000000 in
set_option maxRecDepth 100000 in
theorem impl_part_marks.set (g : Nat) {p : PT} (hp : SetT p) : lvs p ≤ 1000000 → ∀ (b : Nat) (way : Int) (w : World), way = -1 ∨ way = 0 ∨ way = 1 → Tree g w p b →
    Calls Try.prog 37 #[.pointer (some ⟨b, 0, none⟩), .int .i64 way] w fun e w' => e = .returned (.string (mtx (sgn way p))) ∧ Drawn0 w w' := by
  induction hp with
  | leaf ch i h1 h2 =>
    intro hl b way w hw ht
    have hc3 : w.cell? ⟨b, 3, none⟩ = some (.slice none 0 0) := (blk_cell ht.2 3).trans rfl
    clear ht h1 h2
    rcases hw with rfl | rfl | rfl
    all_goals
      go_enter Try.func37, Try.ntmps37
      go_wp2
      go_ret
      exact ⟨str_ret (by show _ = mtx [_]; decide +kernel), by repeat (first | exact Drawn0.refl _ | apply Drawn0.step)⟩
  | @one p hp ih =>
    intro hl b way w hw ht
    have hs1 : (mtx (sgn (-way) p)).size ≤ 1000000 := by rw [mtx_size, sgn_len _ hp]; exact hl
    obtain ⟨k1, q, b1, k2, k3, k4, k5, k6, k7⟩ := ht
    have hc0 : w.cell? ⟨b, 0, none⟩ = some (.int .u8 33) := (blk_cell k5 0).trans rfl
    have hc1 : w.cell? ⟨b, 1, none⟩ = some (.slice none 0 0) := (blk_cell k5 1).trans rfl
    have hc3 : w.cell? ⟨b, 3, none⟩ = some (.slice (some ⟨q, 0, none⟩) 1 1) := (blk_cell k5 3).trans rfl
    have hq0 : w.cell? ⟨q, 0, none⟩ = some (.pointer (some ⟨b1, 0, none⟩)) := (blk_cell k6 0).trans rfl
    have HA := Aside0.mk (ih hl b1 (-way) w (neg_range hw) k7)
    have E1 : Aside0 (wrap64 (-way) = -way) := ⟨by unfold wrap64; omega⟩
    have E2 : Aside0 (IntKind.i64.wrap (-way) = -way) := ⟨by rw [IntKind.wrap_i64]; omega⟩
    have hnil := fun (w : World) (a : Option Addr) (l c : Nat) => Go.run_neq_slice_nil (P := Try.prog) w 29 3 a l c Try.underlying29
    have f1 : ¬ 9223372036854775807 < (mtx (sgn (-way) p)).size := by omega
    have f1b : decide (9223372036854775807 < (mtx (sgn (-way) p)).size) = false := decide_eq_false f1
    clear ih k1 k2 k3 k4 k5 k6 k7 hw hl hs1
    have e1 := E1.out
    have e2 := E2.out
    go_enter Try.func37, Try.ntmps37
    go_wp2
    go_loopg [7, 86] 2 (fun kq v7 v86 w' => ∃ i : Nat, v86 = .int .i64 i ∧ v7 = .string (pre1 (sgn (-way) p) i) ∧ Aside0 (kq + i = 2 ∧ i ≤ 1) ∧ Aside0 (i = 0 → w' = w) ∧ Aside0 (Drawn0 w w'))
    case atStart => exact ⟨0, rfl, rfl, ⟨by omega⟩, ⟨fun _ => rfl⟩, ⟨Drawn0.refl _⟩⟩
    case round =>
      obtain ⟨i, rfl, rfl, HX, HW, HP⟩ := hrel
      cases gk with
      | zero => exact absurd HX.out (by omega)
      | succ k1 =>
        by_cases hi : i = 0
        · subst hi
          obtain rfl := HW.out rfl
          rw [show pre1 (sgn (-way) p) 0 = ⟨#[]⟩ from rfl]
          have HK := HX
          clear HX HW HP
          go_wp2_with (go_at_call 37; (with_reducible refine HA.out.mono ?_); rintro e w2 ⟨rfl, ⟨nd, rfl⟩⟩)
          go_roundg k1
          case measure => omega
          case rel => exact ⟨1, (by first | rfl | go_num), str_eq (by rw [e_app]; rfl), ⟨by have := HK.out; omega⟩, ⟨fun h => absurd h (by decide)⟩, ⟨by repeat (first | exact Drawn0.refl _ | apply Drawn0.step)⟩⟩
        · obtain rfl : i = 1 := by have := HX.out; omega
          clear hi
          go_wp2
          go_ret
          exact ⟨str_ret rfl, HP.out⟩
  | @two ch p q hch hp hq ih1 ih2 =>
    intro hl b way w hw ht
    have hs1 : (mtx (sgn way p)).size ≤ 1000000 := by rw [mtx_size, sgn_len _ hp]; simp only [lvs] at hl; omega
    have hs2 : (mtx (sgn way p)).size + (mtx (sgn way q)).size ≤ 1000000 := by rw [mtx_size, mtx_size, sgn_len _ hp, sgn_len _ hq]; exact hl
    obtain ⟨k1, z, b1, b2, k2, k3, k4, k4', k5, k6, k7, k8⟩ := ht
    have hc0 : w.cell? ⟨b, 0, none⟩ = some (.int .u8 ch) := (blk_cell k5 0).trans rfl
    have hc1 : w.cell? ⟨b, 1, none⟩ = some (.slice none 0 0) := (blk_cell k5 1).trans rfl
    have hc3 : w.cell? ⟨b, 3, none⟩ = some (.slice (some ⟨z, 0, none⟩) 2 2) := (blk_cell k5 3).trans rfl
    have hq0 : w.cell? ⟨z, 0, none⟩ = some (.pointer (some ⟨b1, 0, none⟩)) := (blk_cell k6 0).trans rfl
    have HQ0 := Aside0.mk (fun wx (hx : Drawn0 w wx) => drawn_cell hx (show w.cell? ⟨z, 1, none⟩ = some (.pointer (some ⟨b2, 0, none⟩)) from (blk_cell k6 1).trans rfl))
    have d1 : (ch == 126) = false := by rcases hch with rfl | rfl <;> rfl
    have d2 : (ch == 33) = false := by rcases hch with rfl | rfl <;> rfl
    have HA := Aside0.mk (ih1 (by simp only [lvs] at hl; omega) b1 way w hw k7)
    have HQ := Aside0.mk (fun wx (hx : Drawn0 w wx) => ih2 (by simp only [lvs] at hl; omega) b2 way wx hw (by obtain ⟨n, rfl⟩ := hx; exact k8.same rfl))
    have HV : Aside0 (sgn way (.two ch p q) = sgn way p ++ sgn way q) := ⟨rfl⟩
    have hnil := fun (w : World) (a : Option Addr) (l c : Nat) => Go.run_neq_slice_nil (P := Try.prog) w 29 3 a l c Try.underlying29
    have f1 : ¬ 9223372036854775807 < (mtx (sgn way p)).size := by omega
    have f1b : decide (9223372036854775807 < (mtx (sgn way p)).size) = false := decide_eq_false f1
    have f2 : ¬ 9223372036854775807 < (mtx (sgn way p)).size + (mtx (sgn way q)).size := by omega
    have f2b : decide (9223372036854775807 < (mtx (sgn way p)).size + (mtx (sgn way q)).size) = false := decide_eq_false f2
    clear ih1 ih2 k1 k2 k3 k4 k4' k5 k6 k7 k8 hl hs1 hs2 hw hch
    go_enter Try.func37, Try.ntmps37
    go_wp2
    go_loopg [7, 86] 3 (fun kq v7 v86 w' => ∃ i : Nat, v86 = .int .i64 i ∧ v7 = .string (pre2 (sgn way p) (sgn way q) i) ∧ Aside0 (kq + i = 3 ∧ i ≤ 2) ∧ Aside0 (i = 0 → w' = w) ∧ Aside0 (Drawn0 w w'))
    case atStart => exact ⟨0, rfl, rfl, ⟨by omega⟩, ⟨fun _ => rfl⟩, ⟨Drawn0.refl _⟩⟩
    case round =>
      obtain ⟨i, rfl, rfl, HX, HW, HP⟩ := hrel
      cases gk with
      | zero => exact absurd HX.out (by omega)
      | succ k1 =>
        by_cases hi : i = 0
        · subst hi
          obtain rfl := HW.out rfl
          rw [show pre2 (sgn way p) (sgn way q) 0 = ⟨#[]⟩ from rfl]
          have HK := HX
          clear HX HW HP
          go_wp2_with (go_at_call 37; (with_reducible refine HA.out.mono ?_); rintro e w2 ⟨rfl, ⟨nd, rfl⟩⟩)
          go_roundg k1
          case measure => omega
          case rel => exact ⟨1, (by first | rfl | go_num), str_eq (by rw [e_app]; rfl), ⟨by have := HK.out; omega⟩, ⟨fun h => absurd h (by decide)⟩, ⟨by repeat (first | exact Drawn0.refl _ | apply Drawn0.step)⟩⟩
        · by_cases hj : i = 1
          · subst hj
            rw [show pre2 (sgn way p) (sgn way q) 1 = mtx (sgn way p) from rfl]
            have HK := HX
            have hq1 := HQ0.out _ HP.out
            have HM := Aside0.mk (HQ.out _ HP.out)
            clear HX HW hi
            go_wp2_with (go_at_call 37; (with_reducible refine HM.out.mono ?_); rintro e w2 ⟨rfl, ⟨nd, rfl⟩⟩)
            go_roundg k1
            case measure => omega
            case rel => exact ⟨2, (by first | rfl | go_num), str_eq (by rw [mtx_append]; rfl), ⟨by have := HK.out; omega⟩, ⟨fun h => absurd h (by decide)⟩, ⟨by obtain ⟨n, hn⟩ := HP.out; subst hn; repeat (first | exact Drawn0.refl _ | apply Drawn0.step)⟩⟩
          · obtain rfl : i = 2 := by have := HX.out; omega
            clear hi hj
            go_wp2
            go_ret
            exact ⟨str_ret rfl, HP.out⟩
set_option maxHeartbeats 8000000 in
set_option maxRecDepth 100000 in
theorem impl_part_marks.calls (g : Nat) {p : PT} (hp : SentT p) : lvs p ≤ 1000000 → ∀ (b : Nat) (way : Int) (w : World), way = -1 ∨ way = 0 ∨ way = 1 → Tree g w p b →
    Calls Try.prog 37 #[.pointer (some ⟨b, 0, none⟩), .int .i64 way] w fun e w' => e = .returned (.string (mtx (sgns way p))) ∧ Below w.heap.size w w' := by
  induction hp with
  | @one p hp ih =>
    intro hl b way w hw ht
    have hs1 : (mtx (sgns (-way) p)).size ≤ 1000000 := by rw [mtx_size, sgns_len _ hp]; exact hl
    obtain ⟨k1, q, b1, k2, k3, k4, k5, k6, k7⟩ := ht
    have hc0 : w.cell? ⟨b, 0, none⟩ = some (.int .u8 126) := (blk_cell k5 0).trans rfl
    have hc1 : w.cell? ⟨b, 1, none⟩ = some (.slice none 0 0) := (blk_cell k5 1).trans rfl
    have hc3 : w.cell? ⟨b, 3, none⟩ = some (.slice (some ⟨q, 0, none⟩) 1 1) := (blk_cell k5 3).trans rfl
    have hq0 : w.cell? ⟨q, 0, none⟩ = some (.pointer (some ⟨b1, 0, none⟩)) := (blk_cell k6 0).trans rfl
    have HA := Aside0.mk (ih hl b1 (-way) w (neg_range hw) k7)
    have E1 : Aside0 (wrap64 (-way) = -way) := ⟨by unfold wrap64; omega⟩
    have E2 : Aside0 (IntKind.i64.wrap (-way) = -way) := ⟨by rw [IntKind.wrap_i64]; omega⟩
    have hnil := fun (w : World) (a : Option Addr) (l c : Nat) => Go.run_neq_slice_nil (P := Try.prog) w 29 3 a l c Try.underlying29
    have f1 : ¬ 9223372036854775807 < (mtx (sgns (-way) p)).size := by omega
    have f1b : decide (9223372036854775807 < (mtx (sgns (-way) p)).size) = false := decide_eq_false f1
    clear ih k1 k2 k3 k4 k5 k6 k7 hw hl hs1
    have e1 := E1.out
    have e2 := E2.out
    go_enter Try.func37, Try.ntmps37
    go_wp2
    go_loopg [7, 86] 2 (fun kq v7 v86 w' => ∃ i : Nat, v86 = .int .i64 i ∧ v7 = .string (pre1 (sgns (-way) p) i) ∧ Aside0 (kq + i = 2 ∧ i ≤ 1) ∧ Aside0 (i = 0 → w' = w) ∧ Aside0 (Below w.heap.size w w'))
    case atStart => exact ⟨0, rfl, rfl, ⟨by omega⟩, ⟨fun _ => rfl⟩, ⟨Below.refl _ _⟩⟩
    case round =>
      obtain ⟨i, rfl, rfl, HX, HW, HP⟩ := hrel
      cases gk with
      | zero => exact absurd HX.out (by omega)
      | succ k1 =>
        by_cases hi : i = 0
        · subst hi
          obtain rfl := HW.out rfl
          rw [show pre1 (sgns (-way) p) 0 = ⟨#[]⟩ from rfl]
          have HK := HX
          clear HX HW HP
          go_wp2_with (go_at_call 37; (with_reducible refine HA.out.mono ?_); rintro e w2 ⟨rfl, hb2⟩; have HB2 := Aside0.mk hb2; clear hb2)
          go_roundg k1
          case measure => omega
          case rel => exact ⟨1, (by first | rfl | go_num), str_eq (by rw [e_app]; rfl), ⟨by have := HK.out; omega⟩, ⟨fun h => absurd h (by decide)⟩, ⟨HB2.out⟩⟩
        · obtain rfl : i = 1 := by have := HX.out; omega
          clear hi
          go_wp2
          go_ret
          exact ⟨str_ret rfl, HP.out⟩
  | @two ch p q hch hp hq ih1 ih2 =>
    intro hl b way w hw ht
    have hs1 : (mtx (sgns way p)).size ≤ 1000000 := by rw [mtx_size, sgns_len _ hp]; simp only [lvs] at hl; omega
    have hs2 : (mtx (sgns way p)).size + (mtx (sgns way q)).size ≤ 1000000 := by rw [mtx_size, mtx_size, sgns_len _ hp, sgns_len _ hq]; exact hl
    obtain ⟨k1, z, b1, b2, k2, k3, k4, k4', k5, k6, k7, k8⟩ := ht
    have hc0 : w.cell? ⟨b, 0, none⟩ = some (.int .u8 ch) := (blk_cell k5 0).trans rfl
    have hc1 : w.cell? ⟨b, 1, none⟩ = some (.slice none 0 0) := (blk_cell k5 1).trans rfl
    have hc3 : w.cell? ⟨b, 3, none⟩ = some (.slice (some ⟨z, 0, none⟩) 2 2) := (blk_cell k5 3).trans rfl
    have hq0 : w.cell? ⟨z, 0, none⟩ = some (.pointer (some ⟨b1, 0, none⟩)) := (blk_cell k6 0).trans rfl
    have HQ0 := Aside0.mk (fun wx (hx : Below w.heap.size w wx) => below_cell hx (show w.cell? ⟨z, 1, none⟩ = some (.pointer (some ⟨b2, 0, none⟩)) from (blk_cell k6 1).trans rfl))
    have d1 : (ch == 126) = false := by rcases hch with rfl | rfl <;> rfl
    have d2 : (ch == 33) = false := by rcases hch with rfl | rfl <;> rfl
    have HA := Aside0.mk (ih1 (by simp only [lvs] at hl; omega) b1 way w hw k7)
    have HQ := Aside0.mk (fun wx (hx : Below w.heap.size w wx) => ih2 (by simp only [lvs] at hl; omega) b2 way wx hw (k8.below hx))
    have HV : Aside0 (sgns way (.two ch p q) = sgns way p ++ sgns way q) := ⟨rfl⟩
    have hnil := fun (w : World) (a : Option Addr) (l c : Nat) => Go.run_neq_slice_nil (P := Try.prog) w 29 3 a l c Try.underlying29
    have f1 : ¬ 9223372036854775807 < (mtx (sgns way p)).size := by omega
    have f1b : decide (9223372036854775807 < (mtx (sgns way p)).size) = false := decide_eq_false f1
    have f2 : ¬ 9223372036854775807 < (mtx (sgns way p)).size + (mtx (sgns way q)).size := by omega
    have f2b : decide (9223372036854775807 < (mtx (sgns way p)).size + (mtx (sgns way q)).size) = false := decide_eq_false f2
    clear ih1 ih2 k1 k2 k3 k4 k4' k5 k6 k7 k8 hl hs1 hs2 hw hch
    go_enter Try.func37, Try.ntmps37
    go_wp2
    go_loopg [7, 86] 3 (fun kq v7 v86 w' => ∃ i : Nat, v86 = .int .i64 i ∧ v7 = .string (pre2 (sgns way p) (sgns way q) i) ∧ Aside0 (kq + i = 3 ∧ i ≤ 2) ∧ Aside0 (i = 0 → w' = w) ∧ Aside0 (Below w.heap.size w w'))
    case atStart => exact ⟨0, rfl, rfl, ⟨by omega⟩, ⟨fun _ => rfl⟩, ⟨Below.refl _ _⟩⟩
    case round =>
      obtain ⟨i, rfl, rfl, HX, HW, HP⟩ := hrel
      cases gk with
      | zero => exact absurd HX.out (by omega)
      | succ k1 =>
        by_cases hi : i = 0
        · subst hi
          obtain rfl := HW.out rfl
          rw [show pre2 (sgns way p) (sgns way q) 0 = ⟨#[]⟩ from rfl]
          have HK := HX
          clear HX HW HP
          go_wp2_with (go_at_call 37; (with_reducible refine HA.out.mono ?_); rintro e w2 ⟨rfl, hb2⟩; have HB2 := Aside0.mk hb2; clear hb2)
          go_roundg k1
          case measure => omega
          case rel => exact ⟨1, (by first | rfl | go_num), str_eq (by rw [e_app]; rfl), ⟨by have := HK.out; omega⟩, ⟨fun h => absurd h (by decide)⟩, ⟨HB2.out⟩⟩
        · by_cases hj : i = 1
          · subst hj
            rw [show pre2 (sgns way p) (sgns way q) 1 = mtx (sgns way p) from rfl]
            have HK := HX
            have hq1 := HQ0.out _ HP.out
            have HM := Aside0.mk (HQ.out _ HP.out)
            clear HX HW hi
            go_wp2_with (go_at_call 37; (with_reducible refine HM.out.mono ?_); rintro e w2 ⟨rfl, hb2⟩; have HB2 := Aside0.mk hb2; clear hb2)
            go_roundg k1
            case measure => omega
            case rel => exact ⟨2, (by first | rfl | go_num), str_eq (by rw [mtx_append]; rfl), ⟨by have := HK.out; omega⟩, ⟨fun h => absurd h (by decide)⟩, ⟨below_step HP.out HB2.out⟩⟩
          · obtain rfl : i = 2 := by have := HX.out; omega
            clear hi hj
            go_wp2
            go_ret
            exact ⟨str_ret rfl, HP.out⟩
  | @tri t p q x hx hp hq =>
    intro hl b way w hw ht
    obtain ⟨t21, _⟩ := nms_t _ hx
    simp only at t21
    have hs2 : (mtx (sgn (way * sg1 t) p)).size + (mtx (sgn (way * sg2 t) q)).size ≤ 1000000 := by rw [mtx_size, mtx_size, sgn_len _ hp, sgn_len _ hq]; exact hl
    obtain ⟨k1, z, b1, b2, v, k2, k3, k4, k4', k5, k6, kr, k7, k8⟩ := ht
    obtain ⟨At, ct, rfl⟩ := Kd.R_slice kr
    have krd := Kd.R_reads' kr
    obtain ⟨ad, hA, _⟩ := Kd.at_int krd.2.2 0 (by omega) (by omega)
    subst hA
    have hc1 : w.cell? ⟨b, 1, none⟩ = some (.slice (some ad) t.length ct) := (blk_cell k5 1).trans rfl
    have hc3 : w.cell? ⟨b, 3, none⟩ = some (.slice (some ⟨z, 0, none⟩) 2 2) := (blk_cell k5 3).trans rfl
    have hq0 : w.cell? ⟨z, 0, none⟩ = some (.pointer (some ⟨b1, 0, none⟩)) := (blk_cell k6 0).trans rfl
    have hq1 : w.cell? ⟨z, 1, none⟩ = some (.pointer (some ⟨b2, 0, none⟩)) := (blk_cell k6 1).trans rfl
    have HC1 := Aside0.mk hc1
    have HC3 := Aside0.mk hc3
    have HQ0 := Aside0.mk hq0
    have HQ1 := Aside0.mk hq1
    have HM1 := Aside0.mk (fun wx (hx : Below w.heap.size w wx) => impl_moreAre.calls (some ad) ct t wx t21 (Kd.C_below krd.2.2 hx) krd.2.1)
    have HM2 := Aside0.mk (fun wx (hx : Below w.heap.size w wx) => impl_fewerAre.calls (some ad) ct t wx t21 (Kd.C_below krd.2.2 hx) krd.2.1)
    have HM3 := Aside0.mk (fun wx (hx : Below w.heap.size w wx) => impl_moreDo.calls (some ad) ct t wx t21 (Kd.C_below krd.2.2 hx) krd.2.1)
    have HM4 := Aside0.mk (fun wx (hx : Below w.heap.size w wx) => impl_fewerDo.calls (some ad) ct t wx t21 (Kd.C_below krd.2.2 hx) krd.2.1)
    have HT1 := Aside0.mk (fun wx => impl_turnBy.calls way (mAre t) (fAre t) _ wx (turn_eq hw _ _))
    have HT2 := Aside0.mk (fun wx => impl_turnBy.calls way (mDo t) (fDo t) _ wx (turn_eq hw _ _))
    have HP1 : Aside0 (∀ wx, Below w.heap.size w wx → Calls Try.prog 37 #[.pointer (some ⟨b1, 0, none⟩), .int .i64 (way * sig (mAre t) (fAre t))] wx fun e w' => e = .returned (.string (mtx (sgn (way * sg1 t) p))) ∧ Drawn0 wx w') := ⟨fun wx hx => impl_part_marks.set g hp (by simp only [lvs] at hl; omega) b1 (way * sg1 t) wx (way_sig hw (sig_range _ _)) (k7.below hx)⟩
    have HP2 : Aside0 (∀ wx, Below w.heap.size w wx → Calls Try.prog 37 #[.pointer (some ⟨b2, 0, none⟩), .int .i64 (way * sig (mDo t) (fDo t))] wx fun e w' => e = .returned (.string (mtx (sgn (way * sg2 t) q))) ∧ Drawn0 wx w') := ⟨fun wx hx => impl_part_marks.set g hq (by simp only [lvs] at hl; omega) b2 (way * sg2 t) wx (way_sig hw (sig_range _ _)) (k8.below hx)⟩
    have hnil := fun (w : World) (a : Option Addr) (l c : Nat) => Go.run_neq_slice_nil (P := Try.prog) w 29 3 a l c Try.underlying29
    have f2 : ¬ 9223372036854775807 < (mtx (sgn (way * sg1 t) p)).size + (mtx (sgn (way * sg2 t) q)).size := by omega
    have f2b : decide (9223372036854775807 < (mtx (sgn (way * sg1 t) p)).size + (mtx (sgn (way * sg2 t) q)).size) = false := decide_eq_false f2
    have HV : Aside0 (sgns way (.tri t p q) = sgn (way * sg1 t) p ++ sgn (way * sg2 t) q) := ⟨rfl⟩
    clear k1 k2 k3 k4 k4' k5 k6 k7 k8 kr krd hs2 hl hw t21 hx hq0 hq1
    go_enter Try.func37, Try.ntmps37
    go_upto_region 4 with fail
    go_region_held3 (fun w' => w'.cell? ⟨b, 1, none⟩ = some (.slice (some ad) t.length ct) ∧ Aside0 (Below w.heap.size w w')) (first | exact ⟨hc1, ⟨below_drew1 (Below.refl _ _)⟩⟩ | ((try go_split_ands); refine ⟨below_cell hb3 ?_, ⟨below_step ?_ hb3⟩⟩ <;> first | assumption | exact Aside0.out (by assumption)) | ((try go_split_ands); refine ⟨?_, ⟨pw_below_drewN (Aside0.out (by assumption)) _⟩⟩; rw [World.cell?_drewN]; assumption) | go_keep) (first | (go_at_call 54; (try go_split_ands); refine (HM1.out _ ?_).mono ?_; (exact Aside0.out (by assumption)); rintro e w' ⟨rfl, hb3⟩) | (go_at_call 55; (try go_split_ands); refine (HM2.out _ ?_).mono ?_; (exact Aside0.out (by assumption)); rintro e w' ⟨rfl, hb3⟩) | (go_at_call 53; refine (HT1.out _).mono ?_; rintro e w' ⟨rfl, ⟨nd, rfl⟩⟩))
    go_upto_region 5 with fail
    have HBa : Aside0 (Below w.heap.size w (w'.drewN nd)) := by first | assumption | (go_split_ands; assumption)
    generalize w'.drewN nd = Wa at HBa ⊢
    clear hc1
    have hc1 := below_cell HBa.out HC1.out
    go_region_held3 (fun w' => w'.cell? ⟨b, 1, none⟩ = some (.slice (some ad) t.length ct) ∧ Aside0 (Below w.heap.size w w')) (first | exact ⟨hc1, ⟨below_drew1 HBa.out⟩⟩ | ((try go_split_ands); refine ⟨below_cell hb4 ?_, ⟨below_step ?_ hb4⟩⟩ <;> first | assumption | exact Aside0.out (by assumption)) | ((try go_split_ands); refine ⟨?_, ⟨pw_below_drewN (Aside0.out (by assumption)) _⟩⟩; rw [World.cell?_drewN]; assumption) | go_keep) (first | (go_at_call 56; (try go_split_ands); refine (HM3.out _ ?_).mono ?_; (exact Aside0.out (by assumption)); rintro e w' ⟨rfl, hb4⟩) | (go_at_call 57; (try go_split_ands); refine (HM4.out _ ?_).mono ?_; (exact Aside0.out (by assumption)); rintro e w' ⟨rfl, hb4⟩) | (go_at_call 53; refine (HT2.out _).mono ?_; rintro e w' ⟨rfl, ⟨nd2, rfl⟩⟩))
    go_upto_region 6 with fail
    have HBb : Aside0 (Below w.heap.size w (w'.drewN nd2)) := by first | assumption | (go_split_ands; assumption)
    generalize w'.drewN nd2 = Wb at HBb ⊢
    clear hc1
    have hc1 := below_cell HBb.out HC1.out
    clear hc1 hc3
    have hc3 := below_cell HBb.out HC3.out
    have hq0 := below_cell HBb.out HQ0.out
    have hq1 := below_cell HBb.out HQ1.out
    go_quiet ((go_at_call 37; first | (with_reducible exact Calls.quiet_of ((HP1.out _ (pw_below_drewN HBb.out _)).mono (fun _ _ h => ⟨h.1, h.2.out⟩))) | (with_reducible exact Calls.quiet_of ((HP2.out _ (pw_below_drewN HBb.out _)).mono (fun _ _ h => ⟨h.1, h.2.out⟩)))))
    go_wp2
    go_ret
    exact ⟨str_ret (by rw [HV.out, ← mtx_append]), by (with_reducible repeat apply pw_below_drewN); exact HBb.out⟩

/-! ### impl_part_places: function 36 -/
/-- where the letters stand -/
def plcs : PT → List Int
  | .leaf _ i => [(i : Int)]
  | .one _ p => plcs p
  | .two _ p q => plcs p ++ plcs q
  | .tri _ p q => plcs p ++ plcs q
theorem plcs_len : ∀ p : PT, (plcs p).length = lvs p
  | .leaf _ _ => rfl
  | .one _ p => plcs_len p
  | .two _ p q => by simp [plcs, lvs, plcs_len p, plcs_len q]
  | .tri _ p q => by simp [plcs, lvs, plcs_len p, plcs_len q]
def pl1 (x : List Int) (i : Nat) : List Int := if i = 0 then [] else x
def pl2 (x y : List Int) (i : Nat) : List Int := if i = 0 then [] else if i = 1 then x else x ++ y
set_option maxHeartbeats 8000000 in
set_option maxRecDepth 100000 in
theorem impl_part_places.calls (g : Nat) (p : PT) : ∀ (b : Nat) (w : World), Tree g w p b → lvs p ≤ 1000000 →
    Calls Try.prog 36 #[.pointer (some ⟨b, 0, none⟩)] w fun e w' => ∃ v0_ : Value, e = .returned v0_ ∧ Kd.R (Kd.int .i64) 3 w' w.heap.size (fun _ => True) v0_ (plcs p) ∧ Below w.heap.size w w' := by
  induction p with
  | leaf ch i =>
    intro b w ht hl
    have hc2 : w.cell? ⟨b, 2, none⟩ = some (.int .i64 (i : Int)) := (blk_cell ht.2 2).trans rfl
    have hc3 : w.cell? ⟨b, 3, none⟩ = some (.slice none 0 0) := (blk_cell ht.2 3).trans rfl
    have HB := Aside0.mk (Below.refl w.heap.size w)
    obtain ⟨y, hy⟩ : ∃ y_ : List Int, y_ = [(i : Int)] := ⟨_, rfl⟩
    have HY := Aside0.mk hy
    clear ht hl hy
    go_enter Try.func36, Try.ntmps36
    go_wp2_with (first | ((with_reducible refine gate_dst (N := 16) rfl ?_); refine Kd.R_lit (Kd.int .i64) _ 3 ?hg (N := 16) ?hd (xs := [(i : Int)]) (inner := [.int .i64 (i : Int)]) (ok := fun _ => True) (okp := fun _ => True) ?hr ?hp (fun _ hk => hk) trivial (Below.refl _ _) (Nat.le_refl _) (by simp) ?_; (case hd => rfl); (case hg => rfl); (case hr => first | (go_simp; done) | (go_simp; rfl)); (case hp => exact (Reps.one (show Kd.M (Kd.int .i64) _ _ _ (i : Int) [.int .i64 (i : Int)] from rfl) (Reps.none _ _))); intro v204 w6 ho7 hb hg_ hnew_; clear hg_ hnew_; have HO := Aside0.mk ho7; have HB6 := Aside0.mk hb; clear hb ho7))
    go_ret
    exact ⟨_, rfl, HO.out, HB6.out⟩
  | one ch p ih =>
    intro b w ht hl
    obtain ⟨k1, z, b1, k2, k3, k4, k5, k6, k7⟩ := ht
    have hc3 : w.cell? ⟨b, 3, none⟩ = some (.slice (some ⟨z, 0, none⟩) 1 1) := (blk_cell k5 3).trans rfl
    have HQ0 := Aside0.mk (fun wx (hx : Below w.heap.size w wx) => below_cell hx (show w.cell? ⟨z, 0, none⟩ = some (.pointer (some ⟨b1, 0, none⟩)) from (blk_cell k6 0).trans rfl))
    have HA := Aside0.mk (fun wx (hx : Below w.heap.size w wx) => ih b1 wx (k7.below hx) (by simp only [lvs] at hl; omega))
    have LM := Aside0.mk (show (plcs p).length ≤ 1000000 from by rw [plcs_len]; exact hl)
    have HB := Aside0.mk (Below.refl w.heap.size w)
    obtain ⟨y, hy⟩ : ∃ y_ : List Int, y_ = ([] : List Int) := ⟨_, rfl⟩
    have HY := Aside0.mk hy
    clear k1 k2 k3 k4 k5 k6 k7 hl hy ih 
    go_enter Try.func36, Try.ntmps36
    go_wp2_with (first | ((with_reducible refine gate_dst (N := 17) rfl ?_); refine Kd.R_lit (Kd.int .i64) _ 3 ?hg (N := 17) ?hd (xs := ([] : List Int)) (inner := []) (ok := fun _ => True) (okp := fun _ => True) ?hr ?hp (fun _ hk => hk) trivial (Below.refl _ _) (Nat.le_refl _) (by simp) ?_; (case hd => rfl); (case hg => rfl); (case hr => first | (go_simp; done) | (go_simp; rfl)); (case hp => exact (Reps.none _ _)); intro v207 w8 ho9 hb hg_ hnew_; clear hg_ hnew_; have HO := Aside0.mk ho9; have HB := Aside0.mk hb; have hc3 := below_cell hb hc3; clear hb ho9))
    go_loopg [3, 23] 2 (fun kq v3 v23 w' => ∃ i : Nat, v23 = .int .i64 i ∧ Aside0 (kq + i = 2 ∧ i ≤ 1) ∧ Aside0 (Kd.R (Kd.int .i64) 3 w' w.heap.size (fun _ => True) v3 (pl1 (plcs p) i)) ∧ Aside0 (Below w.heap.size w w'))
    case atStart => exact ⟨0, rfl, ⟨by omega⟩, ⟨HO.out⟩, ⟨HB.out⟩⟩
    case round =>
      try clear HO
      try clear HB
      obtain ⟨i, rfl, HX, HO, HB⟩ := hrel
      cases gk with
      | zero => exact absurd HX.out (by omega)
      | succ k1 =>
        by_cases hi : i = 0
        · subst hi
          have HK := HX
          have hq := HQ0.out _ HB.out
          have HM := Aside0.mk (HA.out _ HB.out)
          replace HO : Aside0 (Kd.R (Kd.int .i64) 3 _ w.heap.size (fun _ => True) _ ([])) := HO
          clear HX
          go_wp2_with (first | (go_at_call 36; (with_reducible refine HM.out.mono ?_); rintro e w2 ⟨v2, rfl, hr2, hb2⟩; obtain ⟨A2, c2, e2⟩ := Kd.R_slice hr2; subst e2; have HO2 := Aside0.mk (Kd.R_step HO.out (fun k _ hlt => hb2.block k hlt)); have HR2 := Aside0.mk (Kd.R_reads' hr2).2.2; have HB2 := Aside0.mk (below_step HB.out hb2); clear hr2 hb2 HB) | ((with_reducible refine gate_builtin (b := .append) (xs := #[.tmp 27, .tmp 29]) rfl ?_); at_builtin; refine Kd.R_append_rows (Kd.int .i64) (w0 := w) w.heap.size rfl (.tmp 27) (.tmp 29) 29 3 (.int .i64 0) 8 rfl Try.underlying29 info3 rfl (by decide) (by omega) u3 ([]) (plcs p) _ _ _ (fun _ => True) (fun _ => False) rfl rfl ?aO ?aR (fun _ _ h => h) (fun _ h => h.elim) ?aF ?aB ?aS ?aL ?_; (case aR => exact HR2.out); (case aO => exact HO2.out); (case aF => exact fun _ _ => trivial); (case aB => exact HB2.out); (case aS => exact HB2.out.size); (case aL => have := LM.out; simp only [List.length_nil]; omega); intro v9 w9 ho9 hb9 hg9 hat9; have HO9 := Aside0.mk ho9; have HB9 := Aside0.mk hb9; clear ho9 hb9 hg9 hat9))
          go_roundg k1
          case measure => omega
          case rel => exact ⟨1, (by first | rfl | go_num), ⟨by have := HK.out; omega⟩, ⟨HO9.out⟩, ⟨HB9.out⟩⟩
        · obtain rfl : i = 1 := by have := HX.out; omega
          clear hi
          go_wp2
          go_ret
          exact ⟨_, rfl, HO.out, HB.out⟩
  | two ch p q ih1 ih2 =>
    intro b w ht hl
    obtain ⟨k1, z, b1, b2, k2, k3, k4, k4', k5, k6, k7, k8⟩ := ht
    have hc3 : w.cell? ⟨b, 3, none⟩ = some (.slice (some ⟨z, 0, none⟩) 2 2) := (blk_cell k5 3).trans rfl
    have HQ0 := Aside0.mk (fun wx (hx : Below w.heap.size w wx) => below_cell hx (show w.cell? ⟨z, 0, none⟩ = some (.pointer (some ⟨b1, 0, none⟩)) from (blk_cell k6 0).trans rfl))
    have HQ1 := Aside0.mk (fun wx (hx : Below w.heap.size w wx) => below_cell hx (show w.cell? ⟨z, 1, none⟩ = some (.pointer (some ⟨b2, 0, none⟩)) from (blk_cell k6 1).trans rfl))
    have HA := Aside0.mk (fun wx (hx : Below w.heap.size w wx) => ih1 b1 wx (k7.below hx) (by simp only [lvs] at hl; omega))
    have HA2 := Aside0.mk (fun wx (hx : Below w.heap.size w wx) => ih2 b2 wx (k8.below hx) (by simp only [lvs] at hl; omega))
    have LM := Aside0.mk (show (plcs p).length + (plcs q).length ≤ 1000000 from by rw [plcs_len, plcs_len]; exact hl)
    have HB := Aside0.mk (Below.refl w.heap.size w)
    obtain ⟨y, hy⟩ : ∃ y_ : List Int, y_ = ([] : List Int) := ⟨_, rfl⟩
    have HY := Aside0.mk hy
    clear k1 k2 k3 k4 k5 k6 k7 hl hy ih1 ih2 k4' k8
    go_enter Try.func36, Try.ntmps36
    go_wp2_with (first | ((with_reducible refine gate_dst (N := 17) rfl ?_); refine Kd.R_lit (Kd.int .i64) _ 3 ?hg (N := 17) ?hd (xs := ([] : List Int)) (inner := []) (ok := fun _ => True) (okp := fun _ => True) ?hr ?hp (fun _ hk => hk) trivial (Below.refl _ _) (Nat.le_refl _) (by simp) ?_; (case hd => rfl); (case hg => rfl); (case hr => first | (go_simp; done) | (go_simp; rfl)); (case hp => exact (Reps.none _ _)); intro v207 w8 ho9 hb hg_ hnew_; clear hg_ hnew_; have HO := Aside0.mk ho9; have HB := Aside0.mk hb; have hc3 := below_cell hb hc3; clear hb ho9))
    go_loopg [3, 23] 3 (fun kq v3 v23 w' => ∃ i : Nat, v23 = .int .i64 i ∧ Aside0 (kq + i = 3 ∧ i ≤ 2) ∧ Aside0 (Kd.R (Kd.int .i64) 3 w' w.heap.size (fun _ => True) v3 (pl2 (plcs p) (plcs q) i)) ∧ Aside0 (Below w.heap.size w w'))
    case atStart => exact ⟨0, rfl, ⟨by omega⟩, ⟨HO.out⟩, ⟨HB.out⟩⟩
    case round =>
      try clear HO
      try clear HB
      obtain ⟨i, rfl, HX, HO, HB⟩ := hrel
      cases gk with
      | zero => exact absurd HX.out (by omega)
      | succ k1 =>
        by_cases hi : i = 0
        · subst hi
          have HK := HX
          have hq := HQ0.out _ HB.out
          have HM := Aside0.mk (HA.out _ HB.out)
          replace HO : Aside0 (Kd.R (Kd.int .i64) 3 _ w.heap.size (fun _ => True) _ ([])) := HO
          clear HX
          go_wp2_with (first | (go_at_call 36; (with_reducible refine HM.out.mono ?_); rintro e w2 ⟨v2, rfl, hr2, hb2⟩; obtain ⟨A2, c2, e2⟩ := Kd.R_slice hr2; subst e2; have HO2 := Aside0.mk (Kd.R_step HO.out (fun k _ hlt => hb2.block k hlt)); have HR2 := Aside0.mk (Kd.R_reads' hr2).2.2; have HB2 := Aside0.mk (below_step HB.out hb2); clear hr2 hb2 HB) | ((with_reducible refine gate_builtin (b := .append) (xs := #[.tmp 27, .tmp 29]) rfl ?_); at_builtin; refine Kd.R_append_rows (Kd.int .i64) (w0 := w) w.heap.size rfl (.tmp 27) (.tmp 29) 29 3 (.int .i64 0) 8 rfl Try.underlying29 info3 rfl (by decide) (by omega) u3 ([]) (plcs p) _ _ _ (fun _ => True) (fun _ => False) rfl rfl ?aO ?aR (fun _ _ h => h) (fun _ h => h.elim) ?aF ?aB ?aS ?aL ?_; (case aR => exact HR2.out); (case aO => exact HO2.out); (case aF => exact fun _ _ => trivial); (case aB => exact HB2.out); (case aS => exact HB2.out.size); (case aL => have := LM.out; simp only [List.length_nil]; omega); intro v9 w9 ho9 hb9 hg9 hat9; have HO9 := Aside0.mk ho9; have HB9 := Aside0.mk hb9; clear ho9 hb9 hg9 hat9))
          go_roundg k1
          case measure => omega
          case rel => exact ⟨1, (by first | rfl | go_num), ⟨by have := HK.out; omega⟩, ⟨HO9.out⟩, ⟨HB9.out⟩⟩
        · by_cases hj : i = 1
          · subst hj
            clear hi
            have HK := HX
            have hq := HQ1.out _ HB.out
            have HM := Aside0.mk (HA2.out _ HB.out)
            replace HO : Aside0 (Kd.R (Kd.int .i64) 3 _ w.heap.size (fun _ => True) _ (plcs p)) := HO
            clear HX
            go_wp2_with (first | (go_at_call 36; (with_reducible refine HM.out.mono ?_); rintro e w2 ⟨v2, rfl, hr2, hb2⟩; obtain ⟨A2, c2, e2⟩ := Kd.R_slice hr2; subst e2; have HO2 := Aside0.mk (Kd.R_step HO.out (fun k _ hlt => hb2.block k hlt)); have HR2 := Aside0.mk (Kd.R_reads' hr2).2.2; have HB2 := Aside0.mk (below_step HB.out hb2); clear hr2 hb2 HB) | ((with_reducible refine gate_builtin (b := .append) (xs := #[.tmp 27, .tmp 29]) rfl ?_); at_builtin; refine Kd.R_append_rows (Kd.int .i64) (w0 := w) w.heap.size rfl (.tmp 27) (.tmp 29) 29 3 (.int .i64 0) 8 rfl Try.underlying29 info3 rfl (by decide) (by omega) u3 (plcs p) (plcs q) _ _ _ (fun _ => True) (fun _ => False) rfl rfl ?aO ?aR (fun _ _ h => h) (fun _ h => h.elim) ?aF ?aB ?aS ?aL ?_; (case aR => exact HR2.out); (case aO => exact HO2.out); (case aF => exact fun _ _ => trivial); (case aB => exact HB2.out); (case aS => exact HB2.out.size); (case aL => have := LM.out; omega); intro v9 w9 ho9 hb9 hg9 hat9; have HO9 := Aside0.mk ho9; have HB9 := Aside0.mk hb9; clear ho9 hb9 hg9 hat9))
            go_roundg k1
            case measure => omega
            case rel => exact ⟨2, (by first | rfl | go_num), ⟨by have := HK.out; omega⟩, ⟨HO9.out⟩, ⟨HB9.out⟩⟩
          · obtain rfl : i = 2 := by have := HX.out; omega
            clear hi hj
            go_wp2
            go_ret
            exact ⟨_, rfl, HO.out, HB.out⟩
  | tri t p q ih1 ih2 =>
    intro b w ht hl
    obtain ⟨k1, z, b1, b2, v, k2, k3, k4, k4', k5, k6, kr, k7, k8⟩ := ht
    have hc3 : w.cell? ⟨b, 3, none⟩ = some (.slice (some ⟨z, 0, none⟩) 2 2) := (blk_cell k5 3).trans rfl
    have HQ0 := Aside0.mk (fun wx (hx : Below w.heap.size w wx) => below_cell hx (show w.cell? ⟨z, 0, none⟩ = some (.pointer (some ⟨b1, 0, none⟩)) from (blk_cell k6 0).trans rfl))
    have HQ1 := Aside0.mk (fun wx (hx : Below w.heap.size w wx) => below_cell hx (show w.cell? ⟨z, 1, none⟩ = some (.pointer (some ⟨b2, 0, none⟩)) from (blk_cell k6 1).trans rfl))
    have HA := Aside0.mk (fun wx (hx : Below w.heap.size w wx) => ih1 b1 wx (k7.below hx) (by simp only [lvs] at hl; omega))
    have HA2 := Aside0.mk (fun wx (hx : Below w.heap.size w wx) => ih2 b2 wx (k8.below hx) (by simp only [lvs] at hl; omega))
    have LM := Aside0.mk (show (plcs p).length + (plcs q).length ≤ 1000000 from by rw [plcs_len, plcs_len]; exact hl)
    have HB := Aside0.mk (Below.refl w.heap.size w)
    obtain ⟨y, hy⟩ : ∃ y_ : List Int, y_ = ([] : List Int) := ⟨_, rfl⟩
    have HY := Aside0.mk hy
    clear k1 k2 k3 k4 k5 k6 k7 hl hy ih1 ih2 k4' k8
    go_enter Try.func36, Try.ntmps36
    go_wp2_with (first | ((with_reducible refine gate_dst (N := 17) rfl ?_); refine Kd.R_lit (Kd.int .i64) _ 3 ?hg (N := 17) ?hd (xs := ([] : List Int)) (inner := []) (ok := fun _ => True) (okp := fun _ => True) ?hr ?hp (fun _ hk => hk) trivial (Below.refl _ _) (Nat.le_refl _) (by simp) ?_; (case hd => rfl); (case hg => rfl); (case hr => first | (go_simp; done) | (go_simp; rfl)); (case hp => exact (Reps.none _ _)); intro v207 w8 ho9 hb hg_ hnew_; clear hg_ hnew_; have HO := Aside0.mk ho9; have HB := Aside0.mk hb; have hc3 := below_cell hb hc3; clear hb ho9))
    go_loopg [3, 23] 3 (fun kq v3 v23 w' => ∃ i : Nat, v23 = .int .i64 i ∧ Aside0 (kq + i = 3 ∧ i ≤ 2) ∧ Aside0 (Kd.R (Kd.int .i64) 3 w' w.heap.size (fun _ => True) v3 (pl2 (plcs p) (plcs q) i)) ∧ Aside0 (Below w.heap.size w w'))
    case atStart => exact ⟨0, rfl, ⟨by omega⟩, ⟨HO.out⟩, ⟨HB.out⟩⟩
    case round =>
      try clear HO
      try clear HB
      obtain ⟨i, rfl, HX, HO, HB⟩ := hrel
      cases gk with
      | zero => exact absurd HX.out (by omega)
      | succ k1 =>
        by_cases hi : i = 0
        · subst hi
          have HK := HX
          have hq := HQ0.out _ HB.out
          have HM := Aside0.mk (HA.out _ HB.out)
          replace HO : Aside0 (Kd.R (Kd.int .i64) 3 _ w.heap.size (fun _ => True) _ ([])) := HO
          clear HX
          go_wp2_with (first | (go_at_call 36; (with_reducible refine HM.out.mono ?_); rintro e w2 ⟨v2, rfl, hr2, hb2⟩; obtain ⟨A2, c2, e2⟩ := Kd.R_slice hr2; subst e2; have HO2 := Aside0.mk (Kd.R_step HO.out (fun k _ hlt => hb2.block k hlt)); have HR2 := Aside0.mk (Kd.R_reads' hr2).2.2; have HB2 := Aside0.mk (below_step HB.out hb2); clear hr2 hb2 HB) | ((with_reducible refine gate_builtin (b := .append) (xs := #[.tmp 27, .tmp 29]) rfl ?_); at_builtin; refine Kd.R_append_rows (Kd.int .i64) (w0 := w) w.heap.size rfl (.tmp 27) (.tmp 29) 29 3 (.int .i64 0) 8 rfl Try.underlying29 info3 rfl (by decide) (by omega) u3 ([]) (plcs p) _ _ _ (fun _ => True) (fun _ => False) rfl rfl ?aO ?aR (fun _ _ h => h) (fun _ h => h.elim) ?aF ?aB ?aS ?aL ?_; (case aR => exact HR2.out); (case aO => exact HO2.out); (case aF => exact fun _ _ => trivial); (case aB => exact HB2.out); (case aS => exact HB2.out.size); (case aL => have := LM.out; simp only [List.length_nil]; omega); intro v9 w9 ho9 hb9 hg9 hat9; have HO9 := Aside0.mk ho9; have HB9 := Aside0.mk hb9; clear ho9 hb9 hg9 hat9))
          go_roundg k1
          case measure => omega
          case rel => exact ⟨1, (by first | rfl | go_num), ⟨by have := HK.out; omega⟩, ⟨HO9.out⟩, ⟨HB9.out⟩⟩
        · by_cases hj : i = 1
          · subst hj
            clear hi
            have HK := HX
            have hq := HQ1.out _ HB.out
            have HM := Aside0.mk (HA2.out _ HB.out)
            replace HO : Aside0 (Kd.R (Kd.int .i64) 3 _ w.heap.size (fun _ => True) _ (plcs p)) := HO
            clear HX
            go_wp2_with (first | (go_at_call 36; (with_reducible refine HM.out.mono ?_); rintro e w2 ⟨v2, rfl, hr2, hb2⟩; obtain ⟨A2, c2, e2⟩ := Kd.R_slice hr2; subst e2; have HO2 := Aside0.mk (Kd.R_step HO.out (fun k _ hlt => hb2.block k hlt)); have HR2 := Aside0.mk (Kd.R_reads' hr2).2.2; have HB2 := Aside0.mk (below_step HB.out hb2); clear hr2 hb2 HB) | ((with_reducible refine gate_builtin (b := .append) (xs := #[.tmp 27, .tmp 29]) rfl ?_); at_builtin; refine Kd.R_append_rows (Kd.int .i64) (w0 := w) w.heap.size rfl (.tmp 27) (.tmp 29) 29 3 (.int .i64 0) 8 rfl Try.underlying29 info3 rfl (by decide) (by omega) u3 (plcs p) (plcs q) _ _ _ (fun _ => True) (fun _ => False) rfl rfl ?aO ?aR (fun _ _ h => h) (fun _ h => h.elim) ?aF ?aB ?aS ?aL ?_; (case aR => exact HR2.out); (case aO => exact HO2.out); (case aF => exact fun _ _ => trivial); (case aB => exact HB2.out); (case aS => exact HB2.out.size); (case aL => have := LM.out; omega); intro v9 w9 ho9 hb9 hg9 hat9; have HO9 := Aside0.mk ho9; have HB9 := Aside0.mk hb9; clear ho9 hb9 hg9 hat9))
            go_roundg k1
            case measure => omega
            case rel => exact ⟨2, (by first | rfl | go_num), ⟨by have := HK.out; omega⟩, ⟨HO9.out⟩, ⟨HB9.out⟩⟩
          · obtain rfl : i = 2 := by have := HX.out; omega
            clear hi hj
            go_wp2
            go_ret
            exact ⟨_, rfl, HO.out, HB.out⟩

/-! ### impl_LetterAt: function 16 -/
/-- its letters stand where it says, and they are letters -/
def Leafs (s : ByteArray) : PT → Prop
  | .leaf c i => i < s.size ∧ bt s (i : Int) = c ∧ 97 ≤ c ∧ c ≤ 100
  | .one _ p => Leafs s p
  | .two _ p q => Leafs s p ∧ Leafs s q
  | .tri _ p q => Leafs s p ∧ Leafs s q
theorem pset_leafs (s : ByteArray) : ∀ n a p e, a ≤ s.size → pset n s a = some (p, e) → Leafs s p
  | 0, a, p, a', _, h => by cases h
  | n + 1, a, p, a', ha, h => by
    unfold pset at h
    split at h
    · rename_i c
      obtain ⟨k1, k2⟩ := nxt_pos ha (show (nxt s a).1 ≠ 0 by omega)
      injection h with h
      injection h with h h'
      subst h
      exact ⟨k1, by rw [nxt_lt k1], c.1, c.2⟩
    · split at h
      · rename_i c
        obtain ⟨k1, k2⟩ := nxt_pos ha (show (nxt s a).1 ≠ 0 by omega)
        cases h1 : pset n s (a + 1) with
        | none => rw [h1] at h; cases h
        | some r =>
          obtain ⟨x, e⟩ := r
          rw [h1] at h
          have := pset_leafs s n (a + 1) x e k1 h1
          injection h with h
          injection h with h h'
          subst h
          exact this
      · split at h
        · rename_i c
          obtain ⟨k1, k2⟩ := nxt_pos ha (show (nxt s a).1 ≠ 0 by omega)
          obtain ⟨x, y, a1, a3, h1, h2, h3, h4, h5, h6⟩ := ptwo_two h
          have p1 := pset_place s n _ _ _ k1 h1
          have p2 := nxt_le s a1 p1.2
          subst h5
          exact ⟨pset_leafs s n _ _ _ k1 h1, pset_leafs s n _ _ _ p2.2 h2⟩
        · cases h
theorem psent_leafs (s : ByteArray) : ∀ n a p e, a ≤ s.size → psent n s a = some (p, e) → Leafs s p
  | 0, a, p, a', _, h => by cases h
  | n + 1, a, p, a', ha, h => by
    by_cases c1 : (nxt s a).1 = 126
    · unfold psent at h
      rw [if_pos c1] at h
      obtain ⟨k1, k2⟩ := nxt_pos ha (show (nxt s a).1 ≠ 0 by omega)
      cases h1 : psent n s (a + 1) with
      | none => rw [h1] at h; cases h
      | some r =>
        obtain ⟨x, e⟩ := r
        rw [h1] at h
        have := psent_leafs s n (a + 1) x e k1 h1
        injection h with h
        injection h with h h'
        subst h
        exact this
    · by_cases c : (nxt s a).1 = 91
      · unfold psent at h
        rw [if_neg c1, if_pos c] at h
        obtain ⟨k1, k2⟩ := nxt_pos ha (show (nxt s a).1 ≠ 0 by omega)
        obtain ⟨x, y, a1, a3, h1, h2, h3, h4, h5, h6⟩ := ptwo_two h
        have p1 := psent_place s n _ _ _ k1 h1
        have p2 := nxt_le s a1 p1.2
        subst h5
        exact ⟨psent_leafs s n _ _ _ k1 h1, psent_leafs s n _ _ _ p2.2 h2⟩
      · rw [psent_tri c1 c] at h
        unfold ptri at h
        split at h
        · cases h
        · rename_i hn
          have hl := openAt_lt s a ha
          cases h0 : ntri (s.extract a (a + (openAt s a).toNat)) with
          | none => rw [h0] at h; cases h
          | some t =>
            rw [h0] at h
            simp only at h
            cases hq : ptwo (pset (s.size + 1) s) [44] 41 s (a + (openAt s a).toNat + 1) with
            | none => rw [hq] at h; cases h
            | some r =>
              obtain ⟨r1, r2⟩ := r
              obtain ⟨x, y, a1, a3, h1, h2, h3, h4, h5, h6⟩ := ptwo_44 hq
              have k1 : a + (openAt s a).toNat + 1 ≤ s.size := by omega
              have p1 := pset_place s _ _ _ _ k1 h1
              have p2 := nxt_le s a1 p1.2
              subst h5
              rw [hq] at h
              simp only at h
              injection h with h
              injection h with h h'
              subst h
              exact ⟨pset_leafs s _ _ _ _ k1 h1, pset_leafs s _ _ _ _ p2.2 h2⟩
theorem leafs_at {s : ByteArray} : ∀ {p : PT}, Leafs s p → ∀ x ∈ plcs p, 0 ≤ x ∧ x < (s.size : Int) ∧ 97 ≤ bt s x ∧ bt s x ≤ 100
  | .leaf c i, h, x, hx => by
    simp only [plcs, List.mem_singleton] at hx
    subst hx
    obtain ⟨h1, h2, h3, h4⟩ := h
    exact ⟨by omega, by omega, by omega, by omega⟩
  | .one _ p, h, x, hx => leafs_at (p := p) h x hx
  | .two _ p q, h, x, hx => by
    simp only [plcs, List.mem_append] at hx
    exact hx.elim (fun hx => leafs_at h.1 x hx) (fun hx => leafs_at h.2 x hx)
  | .tri _ p q, h, x, hx => by
    simp only [plcs, List.mem_append] at hx
    exact hx.elim (fun hx => leafs_at h.1 x hx) (fun hx => leafs_at h.2 x hx)
theorem top_leafs {s : ByteArray} {p : PT} (h : pread s = some p) : Leafs s p := psent_leafs s _ 0 p _ (by omega) (psent_top h).2.2.2
theorem rd_mem {l : List Int} {i : Int} (h0 : 0 ≤ i) (h1 : i < (l.length : Int)) : rd l i ∈ l := by
  unfold rd
  rw [List.getD_eq_getElem?_getD, List.getElem?_eq_getElem (by omega)]
  exact List.getElem_mem _
def impl_LetterAt.f (a0 : ByteArray) (a1 : Int) : Option (Int) := some (match pread a0 with | none => -1 | some p => if 0 ≤ a1 ∧ a1 < (lvs p : Int) then bt a0 (rd (plcs p) a1) - 97 else -1)
set_option maxHeartbeats 8000000 in
set_option maxRecDepth 100000 in
theorem impl_LetterAt.calls (a0 : ByteArray) (a1 : Int) (r : Int) (w : World) (h : impl_LetterAt.f a0 a1 = some r) :
    Calls Try.prog 16 #[.string a0, .int .i64 a1] w fun e w' => e = .returned (.int .i64 r) ∧ Below w.heap.size w w' := by
  unfold impl_LetterAt.f at h
  have HS := impl_readSentence.calls a0 w
  cases hp : pread a0 with
  | none =>
    rw [hp] at HS h
    obtain rfl := Option.some.inj h
    replace HS := Aside0.mk HS
    clear hp h
    go_enter Try.func16, Try.ntmps16
    go_wp2_with (go_at_call 33; (with_reducible refine HS.out.mono ?_); rintro e w2 ⟨hb, rfl⟩)
    go_ret
    exact ⟨by first | rfl | (simp; done), hb⟩
  | some p =>
    rw [hp] at HS h
    simp only at h
    obtain ⟨hs, hl, h80, _⟩ := psent_top hp
    have hlf := leafs_at (top_leafs hp)
    have hlen := plcs_len p
    replace HS := Aside0.mk HS
    have HM := Aside0.mk (fun b wx ht => impl_part_places.calls w.heap.size p b wx ht (by omega))
    by_cases c : 0 ≤ a1 ∧ a1 < (lvs p : Int)
    · rw [if_pos c] at h
      have hx := hlf (rd (plcs p) a1) (rd_mem c.1 (by omega))
      obtain ⟨X, hX⟩ : ∃ X, rd (plcs p) a1 = X := ⟨_, rfl⟩
      rw [hX] at hx h
      obtain ⟨x, rfl⟩ : ∃ x : Nat, X = (x : Int) := ⟨X.toNat, by omega⟩
      have hx5 := bt_nat a0 x
      obtain ⟨Z, hZ⟩ : ∃ Z, bt a0 (x : Int) = Z := ⟨_, rfl⟩
      rw [hZ] at hx hx5 h
      have HE : Aside0 (Z - 97 = r) := ⟨Option.some.inj h⟩
      have f0 : 0 ≤ a1 := c.1
      have f1 : a1 < ((plcs p).length : Int) := by omega
      have f2 : decide (a1 < 0) = false := decide_eq_false (by omega)
      have f3 : decide (((plcs p).length : Int) ≤ a1) = false := decide_eq_false (by omega)
      have f4 : 0 ≤ (x : Int) := by omega
      have f5 : (x : Int) < (a0.size : Int) := by omega
      have HX := Aside0.mk hX
      have F1 := Aside0.mk (And.intro f0 f1)
      have E1 : Aside0 ((Z - 97) % 256 = Z - 97) := ⟨by omega⟩
      have E2 : Aside0 (IntKind.u8.wrap (Z - 97) = Z - 97) := ⟨by rw [IntKind.wrap_u8]; omega⟩
      have E3 : Aside0 (wrap64 (Z - 97) = Z - 97) := ⟨by unfold wrap64; omega⟩
      clear hp h hs hl h80 hlf hlen c hx hX hZ
      have e1 := E1.out
      have e2 := E2.out
      have e3 := E3.out
      go_enter Try.func16, Try.ntmps16
      go_wp2_with (first | (go_at_call 33; (with_reducible refine HS.out.mono ?_); rintro e w2 ⟨hb, b, rfl, ht⟩; have HT := Aside0.mk ht; have HB := Aside0.mk hb; clear ht hb) | (go_at_call 36; (with_reducible refine (HM.out _ _ HT.out).mono ?_); rintro e w3 ⟨v3, rfl, hr3, hb3⟩; obtain ⟨A3, c3, e3⟩ := Kd.R_slice hr3; subst e3; obtain ⟨ad, hA, hcell⟩ := Kd.at_int (Kd.R_reads' hr3).2.2 a1 F1.out.1 F1.out.2; subst hA; rw [HX.out] at hcell; have HB3 := Aside0.mk (below_step HB.out hb3); clear hr3 hb3))
      go_ret
      exact ⟨int_ret HE.out, HB3.out⟩
    · rw [if_neg c] at h
      have HE : Aside0 (-1 = r) := ⟨Option.some.inj h⟩
      by_cases c0 : a1 < 0
      · have f2 : decide (a1 < 0) = true := decide_eq_true c0
        clear hp h hs hl h80 hlf hlen c c0
        go_enter Try.func16, Try.ntmps16
        go_wp2_with (first | (go_at_call 33; (with_reducible refine HS.out.mono ?_); rintro e w2 ⟨hb, b, rfl, ht⟩; have HT := Aside0.mk ht; have HB := Aside0.mk hb; clear ht hb) | (go_at_call 36; (with_reducible refine (HM.out _ _ HT.out).mono ?_); rintro e w3 ⟨v3, rfl, hr3, hb3⟩; obtain ⟨A3, c3, e3⟩ := Kd.R_slice hr3; subst e3; have HB3 := Aside0.mk (below_step HB.out hb3); clear hr3 hb3))
        go_ret
        exact ⟨int_ret HE.out, HB3.out⟩
      · have f2 : decide (a1 < 0) = false := decide_eq_false c0
        have f3 : decide (((plcs p).length : Int) ≤ a1) = true := decide_eq_true (by omega)
        clear hp h hs hl h80 hlf hlen c c0
        go_enter Try.func16, Try.ntmps16
        go_wp2_with (first | (go_at_call 33; (with_reducible refine HS.out.mono ?_); rintro e w2 ⟨hb, b, rfl, ht⟩; have HT := Aside0.mk ht; have HB := Aside0.mk hb; clear ht hb) | (go_at_call 36; (with_reducible refine (HM.out _ _ HT.out).mono ?_); rintro e w3 ⟨v3, rfl, hr3, hb3⟩; obtain ⟨A3, c3, e3⟩ := Kd.R_slice hr3; subst e3; have HB3 := Aside0.mk (below_step HB.out hb3); clear hr3 hb3))
        go_ret
        exact ⟨int_ret HE.out, HB3.out⟩

/-! ### impl_ReplacedIn: function 18 -/
/-- a letter by its number -/
def lch (n : Int) : ByteArray := if n = 0 then ⟨#[97]⟩ else if n = 1 then ⟨#[98]⟩ else if n = 2 then ⟨#[99]⟩ else ⟨#[100]⟩
def repl (s : ByteArray) (i : Int) (n : Int) : ByteArray := (s.extract 0 i.toNat ++ lch n) ++ s.extract (i.toNat + 1) s.size
theorem two_ret {a b : ByteArray} {c : Bool} (h : a = b) : Ending.returned (.tuple #[.string a, .bool c]) = .returned (.tuple #[.string b, .bool c]) := by rw [h]
def impl_ReplacedIn.g (s : ByteArray) (a1 a2 : Int) : ByteArray × Bool := match pread s with
  | none => (⟨#[]⟩, false)
  | some p => if 0 ≤ a2 ∧ a2 < 4 then (if 0 ≤ a1 ∧ a1 < (lvs p : Int) then (repl s (rd (plcs p) a1) a2, true) else (⟨#[]⟩, false)) else (⟨#[]⟩, false)
def impl_ReplacedIn.f (a0 : ByteArray) (a1 : Int) (a2 : Int) : Option (ByteArray × Bool) := some (impl_ReplacedIn.g a0 a1 a2)
set_option maxHeartbeats 8000000 in
set_option maxRecDepth 100000 in
theorem impl_ReplacedIn.calls (a0 : ByteArray) (a1 : Int) (a2 : Int) (r1 : ByteArray) (r2 : Bool) (w : World) (h : impl_ReplacedIn.f a0 a1 a2 = some (r1, r2)) :
    Calls Try.prog 18 #[.string a0, .int .i64 a1, .int .i64 a2] w fun e w' => e = .returned (.tuple #[.string r1, .bool r2]) ∧ Below w.heap.size w w' := by
  unfold impl_ReplacedIn.f impl_ReplacedIn.g at h
  have HS := impl_readSentence.calls a0 w
  cases hp : pread a0 with
  | none =>
    rw [hp] at HS h
    simp only [Option.some.injEq, Prod.mk.injEq] at h
    obtain ⟨rfl, rfl⟩ := h
    replace HS := Aside0.mk HS
    clear hp
    go_enter Try.func18, Try.ntmps18
    go_wp2_with (go_at_call 33; (with_reducible refine HS.out.mono ?_); rintro e w2 ⟨hb, rfl⟩)
    go_ret2
    exact ⟨by first | rfl | (simp; done), hb⟩
  | some p =>
    rw [hp] at HS h
    simp only at h
    obtain ⟨hs, hl, h80, _⟩ := psent_top hp
    have hlf := leafs_at (top_leafs hp)
    have hlen := plcs_len p
    replace HS := Aside0.mk HS
    have HM := Aside0.mk (fun b wx ht => impl_part_places.calls w.heap.size p b wx ht (by omega))
    by_cases d : 0 ≤ a2 ∧ a2 < 4
    · rw [if_pos d] at h
      by_cases c : 0 ≤ a1 ∧ a1 < (lvs p : Int)
      · rw [if_pos c] at h
        have hx := hlf (rd (plcs p) a1) (rd_mem c.1 (by omega))
        obtain ⟨X, hX⟩ : ∃ X, rd (plcs p) a1 = X := ⟨_, rfl⟩
        rw [hX] at hx h
        obtain ⟨x, rfl⟩ : ∃ x : Nat, X = (x : Int) := ⟨X.toNat, by omega⟩
        simp only [Option.some.injEq, Prod.mk.injEq] at h
        obtain ⟨h, rfl⟩ := h
        have HE := Aside0.mk h
        have f0 : 0 ≤ a1 := c.1
        have f1 : a1 < ((plcs p).length : Int) := by omega
        have f2 : decide (a1 < 0) = false := decide_eq_false (by omega)
        have f3 : decide (((plcs p).length : Int) ≤ a1) = false := decide_eq_false (by omega)
        have f4 : 0 ≤ (x : Int) := by omega
        have f5 : (x : Int) ≤ (a0.size : Int) := by omega
        have f6 : 0 ≤ (x : Int) + 1 := by omega
        have f7 : (x : Int) + 1 ≤ (a0.size : Int) := by omega
        have s1 : (a0.extract 0 x).size = x := by rw [ByteArray.size_extract]; omega
        have s2 : (a0.extract (x + 1) a0.size).size = a0.size - (x + 1) := by rw [ByteArray.size_extract]; omega
        have k1 : ¬ 9223372036854775807 < (a0.extract 0 x).size + 1 := by omega
        have k2 : ¬ 9223372036854775807 < min x a0.size + 1 := by omega
        have k3 : ¬ 9223372036854775807 < x + 1 := by omega
        have k4 : ¬ 9223372036854775807 < min x a0.size + 1 + (a0.size - (x + 1)) := by omega
        have k5 : ¬ 9223372036854775807 < x + 1 + (a0.size - (x + 1)) := by omega
        have k6 : ¬ 9223372036854775807 < (a0.extract 0 x).size + 1 + (a0.extract (x + 1) a0.size).size := by omega
        have k7 : ¬ 9223372036854775807 < (a0.extract 0 x).size + 1 + (a0.size - (x + 1)) := by omega
        have k8 : min x a0.size = x := by omega
        have HX := Aside0.mk hX
        have F1 := Aside0.mk (And.intro f0 f1)
        have E1 : Aside0 (IntKind.i64.wrap ((x : Int) + 1) = (x : Int) + 1) := ⟨by rw [IntKind.wrap_i64]; omega⟩
        have E2 : Aside0 (wrap64 ((x : Int) + 1) = (x : Int) + 1) := ⟨by unfold wrap64; omega⟩
        have HZ := Aside0.mk (And.intro h80 (And.intro s1 s2))
        rcases (show a2 = 0 ∨ a2 = 1 ∨ a2 = 2 ∨ a2 = 3 by omega) with rfl | rfl | rfl | rfl
        all_goals
          clear hp h hs hl h80 hlf hlen c d hx hX s1 s2
          have e1 := E1.out
          have e2 := E2.out
          have u1 : IntKind.i64.wrap (1 : Int) = 1 := by rw [IntKind.wrap_i64]; decide
          have u2 : IntKind.i64.wrap (2 : Int) = 2 := by rw [IntKind.wrap_i64]; decide
          have u3 : IntKind.i64.wrap (3 : Int) = 3 := by rw [IntKind.wrap_i64]; decide
          have u4 : IntKind.i64.wrap (4 : Int) = 4 := by rw [IntKind.wrap_i64]; decide
          go_enter Try.func18, Try.ntmps18
          go_wp2_with (first | (go_at_call 33; (with_reducible refine HS.out.mono ?_); rintro e w2 ⟨hb, b, rfl, ht⟩; have HT := Aside0.mk ht; have HB := Aside0.mk hb; clear ht hb) | (go_at_call 36; (with_reducible refine (HM.out _ _ HT.out).mono ?_); rintro e w3 ⟨v3, rfl, hr3, hb3⟩; obtain ⟨A3, c3, e3⟩ := Kd.R_slice hr3; subst e3; obtain ⟨ad, hA, hcell⟩ := Kd.at_int (Kd.R_reads' hr3).2.2 a1 F1.out.1 F1.out.2; subst hA; rw [HX.out] at hcell; have HB3 := Aside0.mk (below_step HB.out hb3); clear hr3 hb3))
          go_quiet (fail)
          go_wp2
          go_ret2
          exact ⟨two_ret ((show _ = repl a0 (x : Int) _ from by unfold repl lch; simp; decide +kernel).trans HE.out), by (with_reducible repeat apply pw_below_drewN); exact HB3.out⟩
      · rw [if_neg c] at h
        simp only [Option.some.injEq, Prod.mk.injEq] at h
        obtain ⟨rfl, rfl⟩ := h
        have g1 : decide (a2 < 0) = false := decide_eq_false (by omega)
        have g2 : decide (4 ≤ a2) = false := decide_eq_false (by omega)
        by_cases c0 : a1 < 0
        · have f2 : decide (a1 < 0) = true := decide_eq_true c0
          clear hp hs hl h80 hlf hlen c c0 d
          go_enter Try.func18, Try.ntmps18
          go_wp2_with (first | (go_at_call 33; (with_reducible refine HS.out.mono ?_); rintro e w2 ⟨hb, b, rfl, ht⟩; have HT := Aside0.mk ht; have HB := Aside0.mk hb; clear ht hb) | (go_at_call 36; (with_reducible refine (HM.out _ _ HT.out).mono ?_); rintro e w3 ⟨v3, rfl, hr3, hb3⟩; obtain ⟨A3, c3, e3⟩ := Kd.R_slice hr3; subst e3; have HB3 := Aside0.mk (below_step HB.out hb3); clear hr3 hb3))
          go_ret2
          exact ⟨by first | rfl | (simp; done), HB3.out⟩
        · have f2 : decide (a1 < 0) = false := decide_eq_false c0
          have f3 : decide (((plcs p).length : Int) ≤ a1) = true := decide_eq_true (by omega)
          clear hp hs hl h80 hlf hlen c c0 d
          go_enter Try.func18, Try.ntmps18
          go_wp2_with (first | (go_at_call 33; (with_reducible refine HS.out.mono ?_); rintro e w2 ⟨hb, b, rfl, ht⟩; have HT := Aside0.mk ht; have HB := Aside0.mk hb; clear ht hb) | (go_at_call 36; (with_reducible refine (HM.out _ _ HT.out).mono ?_); rintro e w3 ⟨v3, rfl, hr3, hb3⟩; obtain ⟨A3, c3, e3⟩ := Kd.R_slice hr3; subst e3; have HB3 := Aside0.mk (below_step HB.out hb3); clear hr3 hb3))
          go_ret2
          exact ⟨by first | rfl | (simp; done), HB3.out⟩
    · rw [if_neg d] at h
      simp only [Option.some.injEq, Prod.mk.injEq] at h
      obtain ⟨rfl, rfl⟩ := h
      by_cases d0 : a2 < 0
      · have g1 : decide (a2 < 0) = true := decide_eq_true d0
        clear hp hs hl h80 hlf hlen d d0
        go_enter Try.func18, Try.ntmps18
        go_wp2_with (first | (go_at_call 33; (with_reducible refine HS.out.mono ?_); rintro e w2 ⟨hb, b, rfl, ht⟩; have HT := Aside0.mk ht; have HB := Aside0.mk hb; clear ht hb))
        go_ret2
        exact ⟨by first | rfl | (simp; done), HB.out⟩
      · have g1 : decide (a2 < 0) = false := decide_eq_false d0
        have g2 : decide (4 ≤ a2) = true := decide_eq_true (by omega)
        clear hp hs hl h80 hlf hlen d d0
        go_enter Try.func18, Try.ntmps18
        go_wp2_with (first | (go_at_call 33; (with_reducible refine HS.out.mono ?_); rintro e w2 ⟨hb, b, rfl, ht⟩; have HT := Aside0.mk ht; have HB := Aside0.mk hb; clear ht hb))
        go_ret2
        exact ⟨by first | rfl | (simp; done), HB.out⟩

/-! ### laws_FnExactReplacedIn: function 5 -/
def laws_FnExactReplacedIn.f (k : Nat) (a0 : ByteArray) (a1 : Int) (a2 : Int) : Option (Bool) := if (a0.size : Int) > 1048576 then (some true) else ((spec_ReplacedIn.f k a0 a1 a2).bind fun bt236 => ((impl_ReplacedIn.f a0 a1 a2).bind fun bt238 => (if bt238.1.toList = bt236.1.toList then (if (bt238.2 != bt236.2) = true then (some false) else (some true)) else (some false))))
theorem laws_FnExactReplacedIn.mono : ∀ a0 a1 a2 k, LeO (laws_FnExactReplacedIn.f k a0 a1 a2) (laws_FnExactReplacedIn.f (k + 1) a0 a1 a2) := by
  intro a0 a1 a2 k
  unfold laws_FnExactReplacedIn.f
  repeat' first
      | (with_reducible exact spec_ReplacedIn.mono _ _ _ _)
      | (with_reducible exact LeO.refl _)
      | (with_reducible exact LeO.none _)
      | (with_reducible refine LeO.ite ?_ ?_)
      | (with_reducible refine LeO.bind ?_ (fun _ => ?_))
      | exact spec_ReplacedIn.mono _ _ _ _
      | exact LeO.none _
      | refine LeO.ite ?_ ?_
      | refine LeO.bind ?_ (fun _ => ?_)
set_option maxHeartbeats 8000000 in
set_option maxRecDepth 100000 in
theorem laws_FnExactReplacedIn.calls (k : Nat) (a0 : ByteArray) (a1 : Int) (a2 : Int) (r : Bool) (w : World) (h : laws_FnExactReplacedIn.f k a0 a1 a2 = some r) :
    Calls Try.prog 5 #[.string a0, .int .i64 a1, .int .i64 a2] w fun e w' => e = .returned (.bool r) ∧ Below w.heap.size w w' := by
  have HB := Aside0.mk (Below.refl w.heap.size w)
  have H : (if (a0.size : Int) > 1048576 then (some true) else ((spec_ReplacedIn.f k a0 a1 a2).bind fun bt236 => ((impl_ReplacedIn.f a0 a1 a2).bind fun bt238 => (if bt238.1.toList = bt236.1.toList then (if (bt238.2 != bt236.2) = true then (some false) else (some true)) else (some false))))) = some r := h
  clear h
  by_cases c4 : (a0.size : Int) > 1048576
  · rw [if_pos c4] at H
    have c4b0 : decide (1048576 < (a0.size : Int)) = true := decide_eq_true c4
    have c4b1 : decide (1048576 < a0.size) = true := decide_eq_true (by omega)
    clear c4
    obtain rfl := Option.some.inj H
    go_enter Try.func5, Try.ntmps5
    go_wp2
    go_ret
    exact ⟨by first | rfl | (simp [errW_none, errW_some] <;> rfl) | (simp [*, errW_none, errW_some] <;> rfl), by repeat (first | (with_reducible first | exact HB.out | apply below_alloc | apply pw_below_drewN | apply below_drew1) | exact HB.out)⟩
  · rw [if_neg c4] at H
    have c4b0 : decide (1048576 < (a0.size : Int)) = false := decide_eq_false c4
    have c4b1 : decide (1048576 < a0.size) = false := decide_eq_false (by omega)
    clear c4
    replace H := Option.bind_eq_some_iff.mp H
    obtain ⟨⟨t236, t237⟩, A50, H⟩ := H
    replace H : ((impl_ReplacedIn.f a0 a1 a2).bind fun bt238 => (if bt238.1.toList = t236.toList then (if (bt238.2 != t237) = true then (some false) else (some true)) else (some false))) = some r := H
    have A5 := Aside0.mk A50
    clear A50
    replace H := Option.bind_eq_some_iff.mp H
    obtain ⟨⟨t238, t239⟩, A60, H⟩ := H
    replace H : (if t238.toList = t236.toList then (if (t239 != t237) = true then (some false) else (some true)) else (some false)) = some r := H
    have A6 := Aside0.mk A60
    clear A60
    by_cases c7 : t238.toList = t236.toList
    · rw [if_pos c7] at H
      have c7b0 : (t238.toList == t236.toList) = true := beq_iff_eq.mpr c7
      have c7b1 : (t238.toList != t236.toList) = false := bne_eq_false_iff_eq.mpr c7
      clear c7
      by_cases c8 : (t239 != t237) = true
      · rw [if_pos c8] at H
        have c8b0 : (t239 != t237) = true := c8
        (try (have c8b1 : decide (t239 = t237) = false := by simpa using c8))
        (try (have c8b2 : (t239 == t237) = false := by simpa using c8))
        (try (have c8b3 : ¬ (t239 = t237) := by simpa using c8))
        clear c8
        obtain rfl := Option.some.inj H
        go_enter Try.func5, Try.ntmps5
        go_wp2_with (first | ((with_reducible refine gate_callee (f := 17) rfl ?_); refine goesL_ (some 18) rfl rfl Try.func17 (by kernel_rfl) rfl #[.string a0, .int .i64 a1, .int .i64 a2] rfl (by (try simp only [List.map_toArray, List.map_cons, List.map_nil]); first | done | rfl | (simp only [List.length_drop, List.length_take]; rfl)) ?_; (with_reducible refine (spec_ReplacedIn.calls k a0 a1 a2 t236 t237 _ A5.out).mono ?_); rintro e w9 ⟨rfl, hb⟩; refine ⟨_, rfl, ?_⟩; have n0_ := Aside0.mk (below_step (by repeat (first | (with_reducible first | exact HB.out | apply below_alloc | apply pw_below_drewN | apply below_drew1) | exact HB.out)) hb); clear HB; have HB := n0_; clear n0_; (try clear hb); (try clear hb2); (try clear hk); (try clear hi)) | ((with_reducible refine gate_callee (f := 18) rfl ?_); refine goesL_ (some 25) rfl rfl Try.func18 (by kernel_rfl) rfl #[.string a0, .int .i64 a1, .int .i64 a2] rfl (by (try simp only [List.map_toArray, List.map_cons, List.map_nil]); first | done | rfl | (simp only [List.length_drop, List.length_take]; rfl)) ?_; (with_reducible refine (impl_ReplacedIn.calls a0 a1 a2 t238 t239 _ A6.out).mono ?_); rintro e w10 ⟨rfl, hb⟩; refine ⟨_, rfl, ?_⟩; have n0_ := Aside0.mk (below_step (by repeat (first | (with_reducible first | exact HB.out | apply below_alloc | apply pw_below_drewN | apply below_drew1) | exact HB.out)) hb); clear HB; have HB := n0_; clear n0_; (try clear hb); (try clear hb2); (try clear hk); (try clear hi)))
        go_ret
        exact ⟨by first | rfl | (simp [errW_none, errW_some] <;> rfl) | (simp [*, errW_none, errW_some] <;> rfl), by repeat (first | (with_reducible first | exact HB.out | apply below_alloc | apply pw_below_drewN | apply below_drew1) | exact HB.out)⟩
      · rw [if_neg c8] at H
        have c8b0 : (t239 != t237) = false := by simpa using c8
        (try (have c8b1 : decide (t239 = t237) = true := by simpa using c8))
        (try (have c8b2 : (t239 == t237) = true := by simpa using c8))
        clear c8
        obtain rfl := Option.some.inj H
        go_enter Try.func5, Try.ntmps5
        go_wp2_with (first | ((with_reducible refine gate_callee (f := 17) rfl ?_); refine goesL_ (some 18) rfl rfl Try.func17 (by kernel_rfl) rfl #[.string a0, .int .i64 a1, .int .i64 a2] rfl (by (try simp only [List.map_toArray, List.map_cons, List.map_nil]); first | done | rfl | (simp only [List.length_drop, List.length_take]; rfl)) ?_; (with_reducible refine (spec_ReplacedIn.calls k a0 a1 a2 t236 t237 _ A5.out).mono ?_); rintro e w11 ⟨rfl, hb⟩; refine ⟨_, rfl, ?_⟩; have n0_ := Aside0.mk (below_step (by repeat (first | (with_reducible first | exact HB.out | apply below_alloc | apply pw_below_drewN | apply below_drew1) | exact HB.out)) hb); clear HB; have HB := n0_; clear n0_; (try clear hb); (try clear hb2); (try clear hk); (try clear hi)) | ((with_reducible refine gate_callee (f := 18) rfl ?_); refine goesL_ (some 25) rfl rfl Try.func18 (by kernel_rfl) rfl #[.string a0, .int .i64 a1, .int .i64 a2] rfl (by (try simp only [List.map_toArray, List.map_cons, List.map_nil]); first | done | rfl | (simp only [List.length_drop, List.length_take]; rfl)) ?_; (with_reducible refine (impl_ReplacedIn.calls a0 a1 a2 t238 t239 _ A6.out).mono ?_); rintro e w12 ⟨rfl, hb⟩; refine ⟨_, rfl, ?_⟩; have n0_ := Aside0.mk (below_step (by repeat (first | (with_reducible first | exact HB.out | apply below_alloc | apply pw_below_drewN | apply below_drew1) | exact HB.out)) hb); clear HB; have HB := n0_; clear n0_; (try clear hb); (try clear hb2); (try clear hk); (try clear hi)))
        go_ret
        exact ⟨by first | rfl | (simp [errW_none, errW_some] <;> rfl) | (simp [*, errW_none, errW_some] <;> rfl), by repeat (first | (with_reducible first | exact HB.out | apply below_alloc | apply pw_below_drewN | apply below_drew1) | exact HB.out)⟩
    · rw [if_neg c7] at H
      have c7b0 : (t238.toList == t236.toList) = false := beq_eq_false_iff_ne.mpr c7
      have c7b1 : (t238.toList != t236.toList) = true := bne_iff_ne.mpr c7
      obtain rfl := Option.some.inj H
      go_enter Try.func5, Try.ntmps5
      go_wp2_with (first | ((with_reducible refine gate_callee (f := 17) rfl ?_); refine goesL_ (some 18) rfl rfl Try.func17 (by kernel_rfl) rfl #[.string a0, .int .i64 a1, .int .i64 a2] rfl (by (try simp only [List.map_toArray, List.map_cons, List.map_nil]); first | done | rfl | (simp only [List.length_drop, List.length_take]; rfl)) ?_; (with_reducible refine (spec_ReplacedIn.calls k a0 a1 a2 t236 t237 _ A5.out).mono ?_); rintro e w13 ⟨rfl, hb⟩; refine ⟨_, rfl, ?_⟩; have n0_ := Aside0.mk (below_step (by repeat (first | (with_reducible first | exact HB.out | apply below_alloc | apply pw_below_drewN | apply below_drew1) | exact HB.out)) hb); clear HB; have HB := n0_; clear n0_; (try clear hb); (try clear hb2); (try clear hk); (try clear hi)) | ((with_reducible refine gate_callee (f := 18) rfl ?_); refine goesL_ (some 25) rfl rfl Try.func18 (by kernel_rfl) rfl #[.string a0, .int .i64 a1, .int .i64 a2] rfl (by (try simp only [List.map_toArray, List.map_cons, List.map_nil]); first | done | rfl | (simp only [List.length_drop, List.length_take]; rfl)) ?_; (with_reducible refine (impl_ReplacedIn.calls a0 a1 a2 t238 t239 _ A6.out).mono ?_); rintro e w14 ⟨rfl, hb⟩; refine ⟨_, rfl, ?_⟩; have n0_ := Aside0.mk (below_step (by repeat (first | (with_reducible first | exact HB.out | apply below_alloc | apply pw_below_drewN | apply below_drew1) | exact HB.out)) hb); clear HB; have HB := n0_; clear n0_; (try clear hb); (try clear hb2); (try clear hk); (try clear hi)))
      go_ret
      exact ⟨by first | rfl | (simp [errW_none, errW_some] <;> rfl) | (simp [*, errW_none, errW_some] <;> rfl), by repeat (first | (with_reducible first | exact HB.out | apply below_alloc | apply pw_below_drewN | apply below_drew1) | exact HB.out)⟩

/-- THE ONE PURE STATEMENT of laws_FnExactReplacedIn: yours. -/
def laws_FnExactReplacedIn.Pure : Prop := ∀ (a0 : ByteArray) (a1 : Int) (a2 : Int), a0.size ≤ 140737488351232 → (Lit.int .i64 a1).wf = true → (Lit.int .i64 a2).wf = true → ∃ k, laws_FnExactReplacedIn.f k a0 a1 a2 = some true
theorem laws_FnExactReplacedIn.walk (P : laws_FnExactReplacedIn.Pure) (a0 : ByteArray) (a1 : Int) (a2 : Int) (w : World) (w0 : a0.size ≤ 140737488351232) (w1 : (Lit.int .i64 a1).wf = true) (w2 : (Lit.int .i64 a2).wf = true) :
    Calls Try.prog 5 #[.string a0, .int .i64 a1, .int .i64 a2] w fun e w' => e = .returned (.bool true) ∧ Below w.heap.size w w' := by
  obtain ⟨k, h⟩ := P a0 a1 a2 w0 w1 w2
  refine (laws_FnExactReplacedIn.calls k a0 a1 a2 true w h).mono ?_
  rintro e w' ⟨rfl, hd⟩
  exact ⟨rfl, hd⟩

end Go.Proofs.Ytfjfdnododnepaa.PFnExactReplacedIn
