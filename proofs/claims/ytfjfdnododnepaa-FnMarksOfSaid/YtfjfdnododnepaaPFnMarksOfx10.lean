-- Written by a program of this session (wip/patch_print.py, over the kit's print) and not by hand; Lean checks every word.
import Derived.Test.YtfjfdnododnepaaPFnMarksOfx0
import Derived.Test.YtfjfdnododnepaaPFnMarksOfx1
import Derived.Test.YtfjfdnododnepaaPFnMarksOfx2
import Derived.Test.YtfjfdnododnepaaPFnMarksOfx3
import Derived.Test.YtfjfdnododnepaaPFnMarksOfx7
import Derived.Test.YtfjfdnododnepaaPFnMarksOfx8
import Derived.Test.YtfjfdnododnepaaPFnMarksOfx9
namespace Go.Proofs.Ytfjfdnododnepaa.PFnMarksOf
open Go.RowKit Go.Proofs.YtfjfdnododnepaaW.PrintWords Go.Proofs.YtfjfdnododnepaaW.PrintLast Go.Proofs.YtfjfdnododnepaaW.PrintMore
attribute [local go_sem] max2_int min2_int max_two min_two max_three min_three max_four min_four   -- for this text's walks alone
set_option linter.unusedVariables false
set_option linter.unusedSimpArgs false

/-! ### impl_part_places: function 36 -/
/-- where the letters stand -/
def plcs : PT → List Int
  | .leaf _ i => [(i : Int)]
  | .one _ p => plcs p
  | .two _ p q => plcs p ++ plcs q
  | .tri _ p q => plcs p ++ plcs q
theorem plcs_len : ∀ p : PT, (plcs p).length = lvs p
  | .leaf _ _ => rfl
  | .one _ p => plcs_len p
  | .two _ p q => by simp [plcs, lvs, plcs_len p, plcs_len q]
  | .tri _ p q => by simp [plcs, lvs, plcs_len p, plcs_len q]
def pl1 (x : List Int) (i : Nat) : List Int := if i = 0 then [] else x
def pl2 (x y : List Int) (i : Nat) : List Int := if i = 0 then [] else if i = 1 then x else x ++ y
set_option maxHeartbeats 8000000 in
set_option maxRecDepth 100000 in
theorem impl_part_places.calls (g : Nat) (p : PT) : ∀ (b : Nat) (w : World), Tree g w p b → lvs p ≤ 1000000 →
    Calls Try.prog 36 #[.pointer (some ⟨b, 0, none⟩)] w fun e w' => ∃ v0_ : Value, e = .returned v0_ ∧ Kd.R (Kd.int .i64) 3 w' w.heap.size (fun _ => True) v0_ (plcs p) ∧ Below w.heap.size w w' := by
  induction p with
  | leaf ch i =>
    intro b w ht hl
    have hc2 : w.cell? ⟨b, 2, none⟩ = some (.int .i64 (i : Int)) := (blk_cell ht.2 2).trans rfl
    have hc3 : w.cell? ⟨b, 3, none⟩ = some (.slice none 0 0) := (blk_cell ht.2 3).trans rfl
    have HB := Aside0.mk (Below.refl w.heap.size w)
    obtain ⟨y, hy⟩ : ∃ y_ : List Int, y_ = [(i : Int)] := ⟨_, rfl⟩
    have HY := Aside0.mk hy
    clear ht hl hy
    go_enter Try.func36, Try.ntmps36
    go_wp2_with (first | ((with_reducible refine gate_dst (N := 16) rfl ?_); refine Kd.R_lit (Kd.int .i64) _ 3 ?hg (N := 16) ?hd (xs := [(i : Int)]) (inner := [.int .i64 (i : Int)]) (ok := fun _ => True) (okp := fun _ => True) ?hr ?hp (fun _ hk => hk) trivial (Below.refl _ _) (Nat.le_refl _) (by simp) ?_; (case hd => rfl); (case hg => rfl); (case hr => first | (go_simp; done) | (go_simp; rfl)); (case hp => exact (Reps.one (show Kd.M (Kd.int .i64) _ _ _ (i : Int) [.int .i64 (i : Int)] from rfl) (Reps.none _ _))); intro v204 w6 ho7 hb hg_ hnew_; clear hg_ hnew_; have HO := Aside0.mk ho7; have HB6 := Aside0.mk hb; clear hb ho7))
    go_ret
    exact ⟨_, rfl, HO.out, HB6.out⟩
  | one ch p ih =>
    intro b w ht hl
    obtain ⟨k1, z, b1, k2, k3, k4, k5, k6, k7⟩ := ht
    have hc3 : w.cell? ⟨b, 3, none⟩ = some (.slice (some ⟨z, 0, none⟩) 1 1) := (blk_cell k5 3).trans rfl
    have HQ0 := Aside0.mk (fun wx (hx : Below w.heap.size w wx) => below_cell hx (show w.cell? ⟨z, 0, none⟩ = some (.pointer (some ⟨b1, 0, none⟩)) from (blk_cell k6 0).trans rfl))
    have HA := Aside0.mk (fun wx (hx : Below w.heap.size w wx) => ih b1 wx (k7.below hx) (by simp only [lvs] at hl; omega))
    have LM := Aside0.mk (show (plcs p).length ≤ 1000000 from by rw [plcs_len]; exact hl)
    have HB := Aside0.mk (Below.refl w.heap.size w)
    obtain ⟨y, hy⟩ : ∃ y_ : List Int, y_ = ([] : List Int) := ⟨_, rfl⟩
    have HY := Aside0.mk hy
    clear k1 k2 k3 k4 k5 k6 k7 hl hy ih 
    go_enter Try.func36, Try.ntmps36
    go_wp2_with (first | ((with_reducible refine gate_dst (N := 17) rfl ?_); refine Kd.R_lit (Kd.int .i64) _ 3 ?hg (N := 17) ?hd (xs := ([] : List Int)) (inner := []) (ok := fun _ => True) (okp := fun _ => True) ?hr ?hp (fun _ hk => hk) trivial (Below.refl _ _) (Nat.le_refl _) (by simp) ?_; (case hd => rfl); (case hg => rfl); (case hr => first | (go_simp; done) | (go_simp; rfl)); (case hp => exact (Reps.none _ _)); intro v207 w8 ho9 hb hg_ hnew_; clear hg_ hnew_; have HO := Aside0.mk ho9; have HB := Aside0.mk hb; have hc3 := below_cell hb hc3; clear hb ho9))
    go_loopg [3, 23] 2 (fun kq v3 v23 w' => ∃ i : Nat, v23 = .int .i64 i ∧ Aside0 (kq + i = 2 ∧ i ≤ 1) ∧ Aside0 (Kd.R (Kd.int .i64) 3 w' w.heap.size (fun _ => True) v3 (pl1 (plcs p) i)) ∧ Aside0 (Below w.heap.size w w'))
    case atStart => exact ⟨0, rfl, ⟨by omega⟩, ⟨HO.out⟩, ⟨HB.out⟩⟩
    case round =>
      try clear HO
      try clear HB
      obtain ⟨i, rfl, HX, HO, HB⟩ := hrel
      cases gk with
      | zero => exact absurd HX.out (by omega)
      | succ k1 =>
        by_cases hi : i = 0
        · subst hi
          have HK := HX
          have hq := HQ0.out _ HB.out
          have HM := Aside0.mk (HA.out _ HB.out)
          replace HO : Aside0 (Kd.R (Kd.int .i64) 3 _ w.heap.size (fun _ => True) _ ([])) := HO
          clear HX
          go_wp2_with (first | (go_at_call 36; (with_reducible refine HM.out.mono ?_); rintro e w2 ⟨v2, rfl, hr2, hb2⟩; obtain ⟨A2, c2, e2⟩ := Kd.R_slice hr2; subst e2; have HO2 := Aside0.mk (Kd.R_step HO.out (fun k _ hlt => hb2.block k hlt)); have HR2 := Aside0.mk (Kd.R_reads' hr2).2.2; have HB2 := Aside0.mk (below_step HB.out hb2); clear hr2 hb2 HB) | ((with_reducible refine gate_builtin (b := .append) (xs := #[.tmp 27, .tmp 29]) rfl ?_); at_builtin; refine Kd.R_append_rows (Kd.int .i64) (w0 := w) w.heap.size rfl (.tmp 27) (.tmp 29) 29 3 (.int .i64 0) 8 rfl Try.underlying29 info3 rfl (by decide) (by omega) u3 ([]) (plcs p) _ _ _ (fun _ => True) (fun _ => False) rfl rfl ?aO ?aR (fun _ _ h => h) (fun _ h => h.elim) ?aF ?aB ?aS ?aL ?_; (case aR => exact HR2.out); (case aO => exact HO2.out); (case aF => exact fun _ _ => trivial); (case aB => exact HB2.out); (case aS => exact HB2.out.size); (case aL => have := LM.out; simp only [List.length_nil]; omega); intro v9 w9 ho9 hb9 hg9 hat9; have HO9 := Aside0.mk ho9; have HB9 := Aside0.mk hb9; clear ho9 hb9 hg9 hat9))
          go_roundg k1
          case measure => omega
          case rel => exact ⟨1, (by first | rfl | go_num), ⟨by have := HK.out; omega⟩, ⟨HO9.out⟩, ⟨HB9.out⟩⟩
        · obtain rfl : i = 1 := by have := HX.out; omega
          clear hi
          go_wp2
          go_ret
          exact ⟨_, rfl, HO.out, HB.out⟩
  | two ch p q ih1 ih2 =>
    intro b w ht hl
    obtain ⟨k1, z, b1, b2, k2, k3, k4, k4', k5, k6, k7, k8⟩ := ht
    have hc3 : w.cell? ⟨b, 3, none⟩ = some (.slice (some ⟨z, 0, none⟩) 2 2) := (blk_cell k5 3).trans rfl
    have HQ0 := Aside0.mk (fun wx (hx : Below w.heap.size w wx) => below_cell hx (show w.cell? ⟨z, 0, none⟩ = some (.pointer (some ⟨b1, 0, none⟩)) from (blk_cell k6 0).trans rfl))
    have HQ1 := Aside0.mk (fun wx (hx : Below w.heap.size w wx) => below_cell hx (show w.cell? ⟨z, 1, none⟩ = some (.pointer (some ⟨b2, 0, none⟩)) from (blk_cell k6 1).trans rfl))
    have HA := Aside0.mk (fun wx (hx : Below w.heap.size w wx) => ih1 b1 wx (k7.below hx) (by simp only [lvs] at hl; omega))
    have HA2 := Aside0.mk (fun wx (hx : Below w.heap.size w wx) => ih2 b2 wx (k8.below hx) (by simp only [lvs] at hl; omega))
    have LM := Aside0.mk (show (plcs p).length + (plcs q).length ≤ 1000000 from by rw [plcs_len, plcs_len]; exact hl)
    have HB := Aside0.mk (Below.refl w.heap.size w)
    obtain ⟨y, hy⟩ : ∃ y_ : List Int, y_ = ([] : List Int) := ⟨_, rfl⟩
    have HY := Aside0.mk hy
    clear k1 k2 k3 k4 k5 k6 k7 hl hy ih1 ih2 k4' k8
    go_enter Try.func36, Try.ntmps36
    go_wp2_with (first | ((with_reducible refine gate_dst (N := 17) rfl ?_); refine Kd.R_lit (Kd.int .i64) _ 3 ?hg (N := 17) ?hd (xs := ([] : List Int)) (inner := []) (ok := fun _ => True) (okp := fun _ => True) ?hr ?hp (fun _ hk => hk) trivial (Below.refl _ _) (Nat.le_refl _) (by simp) ?_; (case hd => rfl); (case hg => rfl); (case hr => first | (go_simp; done) | (go_simp; rfl)); (case hp => exact (Reps.none _ _)); intro v207 w8 ho9 hb hg_ hnew_; clear hg_ hnew_; have HO := Aside0.mk ho9; have HB := Aside0.mk hb; have hc3 := below_cell hb hc3; clear hb ho9))
    go_loopg [3, 23] 3 (fun kq v3 v23 w' => ∃ i : Nat, v23 = .int .i64 i ∧ Aside0 (kq + i = 3 ∧ i ≤ 2) ∧ Aside0 (Kd.R (Kd.int .i64) 3 w' w.heap.size (fun _ => True) v3 (pl2 (plcs p) (plcs q) i)) ∧ Aside0 (Below w.heap.size w w'))
    case atStart => exact ⟨0, rfl, ⟨by omega⟩, ⟨HO.out⟩, ⟨HB.out⟩⟩
    case round =>
      try clear HO
      try clear HB
      obtain ⟨i, rfl, HX, HO, HB⟩ := hrel
      cases gk with
      | zero => exact absurd HX.out (by omega)
      | succ k1 =>
        by_cases hi : i = 0
        · subst hi
          have HK := HX
          have hq := HQ0.out _ HB.out
          have HM := Aside0.mk (HA.out _ HB.out)
          replace HO : Aside0 (Kd.R (Kd.int .i64) 3 _ w.heap.size (fun _ => True) _ ([])) := HO
          clear HX
          go_wp2_with (first | (go_at_call 36; (with_reducible refine HM.out.mono ?_); rintro e w2 ⟨v2, rfl, hr2, hb2⟩; obtain ⟨A2, c2, e2⟩ := Kd.R_slice hr2; subst e2; have HO2 := Aside0.mk (Kd.R_step HO.out (fun k _ hlt => hb2.block k hlt)); have HR2 := Aside0.mk (Kd.R_reads' hr2).2.2; have HB2 := Aside0.mk (below_step HB.out hb2); clear hr2 hb2 HB) | ((with_reducible refine gate_builtin (b := .append) (xs := #[.tmp 27, .tmp 29]) rfl ?_); at_builtin; refine Kd.R_append_rows (Kd.int .i64) (w0 := w) w.heap.size rfl (.tmp 27) (.tmp 29) 29 3 (.int .i64 0) 8 rfl Try.underlying29 info3 rfl (by decide) (by omega) u3 ([]) (plcs p) _ _ _ (fun _ => True) (fun _ => False) rfl rfl ?aO ?aR (fun _ _ h => h) (fun _ h => h.elim) ?aF ?aB ?aS ?aL ?_; (case aR => exact HR2.out); (case aO => exact HO2.out); (case aF => exact fun _ _ => trivial); (case aB => exact HB2.out); (case aS => exact HB2.out.size); (case aL => have := LM.out; simp only [List.length_nil]; omega); intro v9 w9 ho9 hb9 hg9 hat9; have HO9 := Aside0.mk ho9; have HB9 := Aside0.mk hb9; clear ho9 hb9 hg9 hat9))
          go_roundg k1
          case measure => omega
          case rel => exact ⟨1, (by first | rfl | go_num), ⟨by have := HK.out; omega⟩, ⟨HO9.out⟩, ⟨HB9.out⟩⟩
        · by_cases hj : i = 1
          · subst hj
            clear hi
            have HK := HX
            have hq := HQ1.out _ HB.out
            have HM := Aside0.mk (HA2.out _ HB.out)
            replace HO : Aside0 (Kd.R (Kd.int .i64) 3 _ w.heap.size (fun _ => True) _ (plcs p)) := HO
            clear HX
            go_wp2_with (first | (go_at_call 36; (with_reducible refine HM.out.mono ?_); rintro e w2 ⟨v2, rfl, hr2, hb2⟩; obtain ⟨A2, c2, e2⟩ := Kd.R_slice hr2; subst e2; have HO2 := Aside0.mk (Kd.R_step HO.out (fun k _ hlt => hb2.block k hlt)); have HR2 := Aside0.mk (Kd.R_reads' hr2).2.2; have HB2 := Aside0.mk (below_step HB.out hb2); clear hr2 hb2 HB) | ((with_reducible refine gate_builtin (b := .append) (xs := #[.tmp 27, .tmp 29]) rfl ?_); at_builtin; refine Kd.R_append_rows (Kd.int .i64) (w0 := w) w.heap.size rfl (.tmp 27) (.tmp 29) 29 3 (.int .i64 0) 8 rfl Try.underlying29 info3 rfl (by decide) (by omega) u3 (plcs p) (plcs q) _ _ _ (fun _ => True) (fun _ => False) rfl rfl ?aO ?aR (fun _ _ h => h) (fun _ h => h.elim) ?aF ?aB ?aS ?aL ?_; (case aR => exact HR2.out); (case aO => exact HO2.out); (case aF => exact fun _ _ => trivial); (case aB => exact HB2.out); (case aS => exact HB2.out.size); (case aL => have := LM.out; omega); intro v9 w9 ho9 hb9 hg9 hat9; have HO9 := Aside0.mk ho9; have HB9 := Aside0.mk hb9; clear ho9 hb9 hg9 hat9))
            go_roundg k1
            case measure => omega
            case rel => exact ⟨2, (by first | rfl | go_num), ⟨by have := HK.out; omega⟩, ⟨HO9.out⟩, ⟨HB9.out⟩⟩
          · obtain rfl : i = 2 := by have := HX.out; omega
            clear hi hj
            go_wp2
            go_ret
            exact ⟨_, rfl, HO.out, HB.out⟩
  | tri t p q ih1 ih2 =>
    intro b w ht hl
    obtain ⟨k1, z, b1, b2, v, k2, k3, k4, k4', k5, k6, kr, k7, k8⟩ := ht
    have hc3 : w.cell? ⟨b, 3, none⟩ = some (.slice (some ⟨z, 0, none⟩) 2 2) := (blk_cell k5 3).trans rfl
    have HQ0 := Aside0.mk (fun wx (hx : Below w.heap.size w wx) => below_cell hx (show w.cell? ⟨z, 0, none⟩ = some (.pointer (some ⟨b1, 0, none⟩)) from (blk_cell k6 0).trans rfl))
    have HQ1 := Aside0.mk (fun wx (hx : Below w.heap.size w wx) => below_cell hx (show w.cell? ⟨z, 1, none⟩ = some (.pointer (some ⟨b2, 0, none⟩)) from (blk_cell k6 1).trans rfl))
    have HA := Aside0.mk (fun wx (hx : Below w.heap.size w wx) => ih1 b1 wx (k7.below hx) (by simp only [lvs] at hl; omega))
    have HA2 := Aside0.mk (fun wx (hx : Below w.heap.size w wx) => ih2 b2 wx (k8.below hx) (by simp only [lvs] at hl; omega))
    have LM := Aside0.mk (show (plcs p).length + (plcs q).length ≤ 1000000 from by rw [plcs_len, plcs_len]; exact hl)
    have HB := Aside0.mk (Below.refl w.heap.size w)
    obtain ⟨y, hy⟩ : ∃ y_ : List Int, y_ = ([] : List Int) := ⟨_, rfl⟩
    have HY := Aside0.mk hy
    clear k1 k2 k3 k4 k5 k6 k7 hl hy ih1 ih2 k4' k8
    go_enter Try.func36, Try.ntmps36
    go_wp2_with (first | ((with_reducible refine gate_dst (N := 17) rfl ?_); refine Kd.R_lit (Kd.int .i64) _ 3 ?hg (N := 17) ?hd (xs := ([] : List Int)) (inner := []) (ok := fun _ => True) (okp := fun _ => True) ?hr ?hp (fun _ hk => hk) trivial (Below.refl _ _) (Nat.le_refl _) (by simp) ?_; (case hd => rfl); (case hg => rfl); (case hr => first | (go_simp; done) | (go_simp; rfl)); (case hp => exact (Reps.none _ _)); intro v207 w8 ho9 hb hg_ hnew_; clear hg_ hnew_; have HO := Aside0.mk ho9; have HB := Aside0.mk hb; have hc3 := below_cell hb hc3; clear hb ho9))
    go_loopg [3, 23] 3 (fun kq v3 v23 w' => ∃ i : Nat, v23 = .int .i64 i ∧ Aside0 (kq + i = 3 ∧ i ≤ 2) ∧ Aside0 (Kd.R (Kd.int .i64) 3 w' w.heap.size (fun _ => True) v3 (pl2 (plcs p) (plcs q) i)) ∧ Aside0 (Below w.heap.size w w'))
    case atStart => exact ⟨0, rfl, ⟨by omega⟩, ⟨HO.out⟩, ⟨HB.out⟩⟩
    case round =>
      try clear HO
      try clear HB
      obtain ⟨i, rfl, HX, HO, HB⟩ := hrel
      cases gk with
      | zero => exact absurd HX.out (by omega)
      | succ k1 =>
        by_cases hi : i = 0
        · subst hi
          have HK := HX
          have hq := HQ0.out _ HB.out
          have HM := Aside0.mk (HA.out _ HB.out)
          replace HO : Aside0 (Kd.R (Kd.int .i64) 3 _ w.heap.size (fun _ => True) _ ([])) := HO
          clear HX
          go_wp2_with (first | (go_at_call 36; (with_reducible refine HM.out.mono ?_); rintro e w2 ⟨v2, rfl, hr2, hb2⟩; obtain ⟨A2, c2, e2⟩ := Kd.R_slice hr2; subst e2; have HO2 := Aside0.mk (Kd.R_step HO.out (fun k _ hlt => hb2.block k hlt)); have HR2 := Aside0.mk (Kd.R_reads' hr2).2.2; have HB2 := Aside0.mk (below_step HB.out hb2); clear hr2 hb2 HB) | ((with_reducible refine gate_builtin (b := .append) (xs := #[.tmp 27, .tmp 29]) rfl ?_); at_builtin; refine Kd.R_append_rows (Kd.int .i64) (w0 := w) w.heap.size rfl (.tmp 27) (.tmp 29) 29 3 (.int .i64 0) 8 rfl Try.underlying29 info3 rfl (by decide) (by omega) u3 ([]) (plcs p) _ _ _ (fun _ => True) (fun _ => False) rfl rfl ?aO ?aR (fun _ _ h => h) (fun _ h => h.elim) ?aF ?aB ?aS ?aL ?_; (case aR => exact HR2.out); (case aO => exact HO2.out); (case aF => exact fun _ _ => trivial); (case aB => exact HB2.out); (case aS => exact HB2.out.size); (case aL => have := LM.out; simp only [List.length_nil]; omega); intro v9 w9 ho9 hb9 hg9 hat9; have HO9 := Aside0.mk ho9; have HB9 := Aside0.mk hb9; clear ho9 hb9 hg9 hat9))
          go_roundg k1
          case measure => omega
          case rel => exact ⟨1, (by first | rfl | go_num), ⟨by have := HK.out; omega⟩, ⟨HO9.out⟩, ⟨HB9.out⟩⟩
        · by_cases hj : i = 1
          · subst hj
            clear hi
            have HK := HX
            have hq := HQ1.out _ HB.out
            have HM := Aside0.mk (HA2.out _ HB.out)
            replace HO : Aside0 (Kd.R (Kd.int .i64) 3 _ w.heap.size (fun _ => True) _ (plcs p)) := HO
            clear HX
            go_wp2_with (first | (go_at_call 36; (with_reducible refine HM.out.mono ?_); rintro e w2 ⟨v2, rfl, hr2, hb2⟩; obtain ⟨A2, c2, e2⟩ := Kd.R_slice hr2; subst e2; have HO2 := Aside0.mk (Kd.R_step HO.out (fun k _ hlt => hb2.block k hlt)); have HR2 := Aside0.mk (Kd.R_reads' hr2).2.2; have HB2 := Aside0.mk (below_step HB.out hb2); clear hr2 hb2 HB) | ((with_reducible refine gate_builtin (b := .append) (xs := #[.tmp 27, .tmp 29]) rfl ?_); at_builtin; refine Kd.R_append_rows (Kd.int .i64) (w0 := w) w.heap.size rfl (.tmp 27) (.tmp 29) 29 3 (.int .i64 0) 8 rfl Try.underlying29 info3 rfl (by decide) (by omega) u3 (plcs p) (plcs q) _ _ _ (fun _ => True) (fun _ => False) rfl rfl ?aO ?aR (fun _ _ h => h) (fun _ h => h.elim) ?aF ?aB ?aS ?aL ?_; (case aR => exact HR2.out); (case aO => exact HO2.out); (case aF => exact fun _ _ => trivial); (case aB => exact HB2.out); (case aS => exact HB2.out.size); (case aL => have := LM.out; omega); intro v9 w9 ho9 hb9 hg9 hat9; have HO9 := Aside0.mk ho9; have HB9 := Aside0.mk hb9; clear ho9 hb9 hg9 hat9))
            go_roundg k1
            case measure => omega
            case rel => exact ⟨2, (by first | rfl | go_num), ⟨by have := HK.out; omega⟩, ⟨HO9.out⟩, ⟨HB9.out⟩⟩
          · obtain rfl : i = 2 := by have := HX.out; omega
            clear hi hj
            go_wp2
            go_ret
            exact ⟨_, rfl, HO.out, HB.out⟩

/-! ### impl_LetterAt: function 16 -/
/-- its letters stand where it says, and they are letters -/
def Leafs (s : ByteArray) : PT → Prop
  | .leaf c i => i < s.size ∧ bt s (i : Int) = c ∧ 97 ≤ c ∧ c ≤ 100
  | .one _ p => Leafs s p
  | .two _ p q => Leafs s p ∧ Leafs s q
  | .tri _ p q => Leafs s p ∧ Leafs s q
theorem pset_leafs (s : ByteArray) : ∀ n a p e, a ≤ s.size → pset n s a = some (p, e) → Leafs s p
  | 0, a, p, a', _, h => by cases h
  | n + 1, a, p, a', ha, h => by
    unfold pset at h
    split at h
    · rename_i c
      obtain ⟨k1, k2⟩ := nxt_pos ha (show (nxt s a).1 ≠ 0 by omega)
      injection h with h
      injection h with h h'
      subst h
      exact ⟨k1, by rw [nxt_lt k1], c.1, c.2⟩
    · split at h
      · rename_i c
        obtain ⟨k1, k2⟩ := nxt_pos ha (show (nxt s a).1 ≠ 0 by omega)
        cases h1 : pset n s (a + 1) with
        | none => rw [h1] at h; cases h
        | some r =>
          obtain ⟨x, e⟩ := r
          rw [h1] at h
          have := pset_leafs s n (a + 1) x e k1 h1
          injection h with h
          injection h with h h'
          subst h
          exact this
      · split at h
        · rename_i c
          obtain ⟨k1, k2⟩ := nxt_pos ha (show (nxt s a).1 ≠ 0 by omega)
          obtain ⟨x, y, a1, a3, h1, h2, h3, h4, h5, h6⟩ := ptwo_two h
          have p1 := pset_place s n _ _ _ k1 h1
          have p2 := nxt_le s a1 p1.2
          subst h5
          exact ⟨pset_leafs s n _ _ _ k1 h1, pset_leafs s n _ _ _ p2.2 h2⟩
        · cases h
theorem psent_leafs (s : ByteArray) : ∀ n a p e, a ≤ s.size → psent n s a = some (p, e) → Leafs s p
  | 0, a, p, a', _, h => by cases h
  | n + 1, a, p, a', ha, h => by
    by_cases c1 : (nxt s a).1 = 126
    · unfold psent at h
      rw [if_pos c1] at h
      obtain ⟨k1, k2⟩ := nxt_pos ha (show (nxt s a).1 ≠ 0 by omega)
      cases h1 : psent n s (a + 1) with
      | none => rw [h1] at h; cases h
      | some r =>
        obtain ⟨x, e⟩ := r
        rw [h1] at h
        have := psent_leafs s n (a + 1) x e k1 h1
        injection h with h
        injection h with h h'
        subst h
        exact this
    · by_cases c : (nxt s a).1 = 91
      · unfold psent at h
        rw [if_neg c1, if_pos c] at h
        obtain ⟨k1, k2⟩ := nxt_pos ha (show (nxt s a).1 ≠ 0 by omega)
        obtain ⟨x, y, a1, a3, h1, h2, h3, h4, h5, h6⟩ := ptwo_two h
        have p1 := psent_place s n _ _ _ k1 h1
        have p2 := nxt_le s a1 p1.2
        subst h5
        exact ⟨psent_leafs s n _ _ _ k1 h1, psent_leafs s n _ _ _ p2.2 h2⟩
      · rw [psent_tri c1 c] at h
        unfold ptri at h
        split at h
        · cases h
        · rename_i hn
          have hl := openAt_lt s a ha
          cases h0 : ntri (s.extract a (a + (openAt s a).toNat)) with
          | none => rw [h0] at h; cases h
          | some t =>
            rw [h0] at h
            simp only at h
            cases hq : ptwo (pset (s.size + 1) s) [44] 41 s (a + (openAt s a).toNat + 1) with
            | none => rw [hq] at h; cases h
            | some r =>
              obtain ⟨r1, r2⟩ := r
              obtain ⟨x, y, a1, a3, h1, h2, h3, h4, h5, h6⟩ := ptwo_44 hq
              have k1 : a + (openAt s a).toNat + 1 ≤ s.size := by omega
              have p1 := pset_place s _ _ _ _ k1 h1
              have p2 := nxt_le s a1 p1.2
              subst h5
              rw [hq] at h
              simp only at h
              injection h with h
              injection h with h h'
              subst h
              exact ⟨pset_leafs s _ _ _ _ k1 h1, pset_leafs s _ _ _ _ p2.2 h2⟩
theorem leafs_at {s : ByteArray} : ∀ {p : PT}, Leafs s p → ∀ x ∈ plcs p, 0 ≤ x ∧ x < (s.size : Int) ∧ 97 ≤ bt s x ∧ bt s x ≤ 100
  | .leaf c i, h, x, hx => by
    simp only [plcs, List.mem_singleton] at hx
    subst hx
    obtain ⟨h1, h2, h3, h4⟩ := h
    exact ⟨by omega, by omega, by omega, by omega⟩
  | .one _ p, h, x, hx => leafs_at (p := p) h x hx
  | .two _ p q, h, x, hx => by
    simp only [plcs, List.mem_append] at hx
    exact hx.elim (fun hx => leafs_at h.1 x hx) (fun hx => leafs_at h.2 x hx)
  | .tri _ p q, h, x, hx => by
    simp only [plcs, List.mem_append] at hx
    exact hx.elim (fun hx => leafs_at h.1 x hx) (fun hx => leafs_at h.2 x hx)
theorem top_leafs {s : ByteArray} {p : PT} (h : pread s = some p) : Leafs s p := psent_leafs s _ 0 p _ (by omega) (psent_top h).2.2.2
theorem rd_mem {l : List Int} {i : Int} (h0 : 0 ≤ i) (h1 : i < (l.length : Int)) : rd l i ∈ l := by
  unfold rd
  rw [List.getD_eq_getElem?_getD, List.getElem?_eq_getElem (by omega)]
  exact List.getElem_mem _
def impl_LetterAt.f (a0 : ByteArray) (a1 : Int) : Option (Int) := some (match pread a0 with | none => -1 | some p => if 0 ≤ a1 ∧ a1 < (lvs p : Int) then bt a0 (rd (plcs p) a1) - 97 else -1)
set_option maxHeartbeats 8000000 in
set_option maxRecDepth 100000 in
theorem impl_LetterAt.calls (a0 : ByteArray) (a1 : Int) (r : Int) (w : World) (h : impl_LetterAt.f a0 a1 = some r) :
    Calls Try.prog 16 #[.string a0, .int .i64 a1] w fun e w' => e = .returned (.int .i64 r) ∧ Below w.heap.size w w' := by
  unfold impl_LetterAt.f at h
  have HS := impl_readSentence.calls a0 w
  cases hp : pread a0 with
  | none =>
    rw [hp] at HS h
    obtain rfl := Option.some.inj h
    replace HS := Aside0.mk HS
    clear hp h
    go_enter Try.func16, Try.ntmps16
    go_wp2_with (go_at_call 33; (with_reducible refine HS.out.mono ?_); rintro e w2 ⟨hb, rfl⟩)
    go_ret
    exact ⟨by first | rfl | (simp; done), hb⟩
  | some p =>
    rw [hp] at HS h
    simp only at h
    obtain ⟨hs, hl, h80, _⟩ := psent_top hp
    have hlf := leafs_at (top_leafs hp)
    have hlen := plcs_len p
    replace HS := Aside0.mk HS
    have HM := Aside0.mk (fun b wx ht => impl_part_places.calls w.heap.size p b wx ht (by omega))
    by_cases c : 0 ≤ a1 ∧ a1 < (lvs p : Int)
    · rw [if_pos c] at h
      have hx := hlf (rd (plcs p) a1) (rd_mem c.1 (by omega))
      obtain ⟨X, hX⟩ : ∃ X, rd (plcs p) a1 = X := ⟨_, rfl⟩
      rw [hX] at hx h
      obtain ⟨x, rfl⟩ : ∃ x : Nat, X = (x : Int) := ⟨X.toNat, by omega⟩
      have hx5 := bt_nat a0 x
      obtain ⟨Z, hZ⟩ : ∃ Z, bt a0 (x : Int) = Z := ⟨_, rfl⟩
      rw [hZ] at hx hx5 h
      have HE : Aside0 (Z - 97 = r) := ⟨Option.some.inj h⟩
      have f0 : 0 ≤ a1 := c.1
      have f1 : a1 < ((plcs p).length : Int) := by omega
      have f2 : decide (a1 < 0) = false := decide_eq_false (by omega)
      have f3 : decide (((plcs p).length : Int) ≤ a1) = false := decide_eq_false (by omega)
      have f4 : 0 ≤ (x : Int) := by omega
      have f5 : (x : Int) < (a0.size : Int) := by omega
      have HX := Aside0.mk hX
      have F1 := Aside0.mk (And.intro f0 f1)
      have E1 : Aside0 ((Z - 97) % 256 = Z - 97) := ⟨by omega⟩
      have E2 : Aside0 (IntKind.u8.wrap (Z - 97) = Z - 97) := ⟨by rw [IntKind.wrap_u8]; omega⟩
      have E3 : Aside0 (wrap64 (Z - 97) = Z - 97) := ⟨by unfold wrap64; omega⟩
      clear hp h hs hl h80 hlf hlen c hx hX hZ
      have e1 := E1.out
      have e2 := E2.out
      have e3 := E3.out
      go_enter Try.func16, Try.ntmps16
      go_wp2_with (first | (go_at_call 33; (with_reducible refine HS.out.mono ?_); rintro e w2 ⟨hb, b, rfl, ht⟩; have HT := Aside0.mk ht; have HB := Aside0.mk hb; clear ht hb) | (go_at_call 36; (with_reducible refine (HM.out _ _ HT.out).mono ?_); rintro e w3 ⟨v3, rfl, hr3, hb3⟩; obtain ⟨A3, c3, e3⟩ := Kd.R_slice hr3; subst e3; obtain ⟨ad, hA, hcell⟩ := Kd.at_int (Kd.R_reads' hr3).2.2 a1 F1.out.1 F1.out.2; subst hA; rw [HX.out] at hcell; have HB3 := Aside0.mk (below_step HB.out hb3); clear hr3 hb3))
      go_ret
      exact ⟨int_ret HE.out, HB3.out⟩
    · rw [if_neg c] at h
      have HE : Aside0 (-1 = r) := ⟨Option.some.inj h⟩
      by_cases c0 : a1 < 0
      · have f2 : decide (a1 < 0) = true := decide_eq_true c0
        clear hp h hs hl h80 hlf hlen c c0
        go_enter Try.func16, Try.ntmps16
        go_wp2_with (first | (go_at_call 33; (with_reducible refine HS.out.mono ?_); rintro e w2 ⟨hb, b, rfl, ht⟩; have HT := Aside0.mk ht; have HB := Aside0.mk hb; clear ht hb) | (go_at_call 36; (with_reducible refine (HM.out _ _ HT.out).mono ?_); rintro e w3 ⟨v3, rfl, hr3, hb3⟩; obtain ⟨A3, c3, e3⟩ := Kd.R_slice hr3; subst e3; have HB3 := Aside0.mk (below_step HB.out hb3); clear hr3 hb3))
        go_ret
        exact ⟨int_ret HE.out, HB3.out⟩
      · have f2 : decide (a1 < 0) = false := decide_eq_false c0
        have f3 : decide (((plcs p).length : Int) ≤ a1) = true := decide_eq_true (by omega)
        clear hp h hs hl h80 hlf hlen c c0
        go_enter Try.func16, Try.ntmps16
        go_wp2_with (first | (go_at_call 33; (with_reducible refine HS.out.mono ?_); rintro e w2 ⟨hb, b, rfl, ht⟩; have HT := Aside0.mk ht; have HB := Aside0.mk hb; clear ht hb) | (go_at_call 36; (with_reducible refine (HM.out _ _ HT.out).mono ?_); rintro e w3 ⟨v3, rfl, hr3, hb3⟩; obtain ⟨A3, c3, e3⟩ := Kd.R_slice hr3; subst e3; have HB3 := Aside0.mk (below_step HB.out hb3); clear hr3 hb3))
        go_ret
        exact ⟨int_ret HE.out, HB3.out⟩

/-! ### spec_SentenceOk: function 13 -/
def spec_SentenceOk.f (a0 : ByteArray) : Option (Bool) := if a0.size ≤ 17000000000000 then some (pread a0).isSome else none
theorem zeros_sets : Sets [0, 0, 0, 0] := setsOk_sets (by decide)
set_option maxHeartbeats 8000000 in
set_option maxRecDepth 100000 in
theorem spec_SentenceOk.calls (a0 : ByteArray) (r : Bool) (w : World) (h : spec_SentenceOk.f a0 = some r) :
    Calls Try.prog 13 #[.string a0] w fun e w' => e = .returned (.bool r) ∧ Below w.heap.size w w' := by
  unfold spec_SentenceOk.f at h
  split at h
  case isFalse => cases h
  rename_i hsz
  obtain rfl := Option.some.inj h
  clear h
  have HB := Aside0.mk (Below.refl w.heap.size w)
  obtain ⟨y203, hy203⟩ : ∃ y_ : List Int, y_ = (([0, 0, 0, 0] : List Int)) := ⟨_, rfl⟩
  obtain ⟨y206, hy206⟩ : ∃ y_ : List Int, y_ = (([] : List Int)) := ⟨_, rfl⟩
  obtain ⟨R, hR⟩ : ∃ R, qres y203 1 y206 (psent (a0.size + 1) a0 0) = R := ⟨_, rfl⟩
  have HX : ∀ (A : Option Addr) (c : Nat), y203.length ≤ c → ∀ (wx : World) (P : Nat → Prop) (u : Value), Below w.heap.size w wx → (∀ W_, Kept wx W_ P → Kd.C (Kd.int .i64) W_ A y203.length y203) → Kd.R (Kd.int .i64) 3 wx w.heap.size P u y206 → Calls Try.prog 32 #[.slice A y203.length c, .string a0, .int .i64 0, .int .i64 1, u] wx (PostQ w wx P R) := fun A c hc wx P u hb hs hr => by
    have := spec_l7Read.walk a0 (by omega) y203 (by rw [hy203]; exact zeros_sets) A c hc w (a0.size + 1) 0 1 y206 u P wx (by omega) (by omega) (by decide) (by decide) (by rw [hy206]; simp; omega) hb hs hr
    rw [hR] at this
    exact this
  have Ny203 := Aside0.mk hy203
  have Ny206 := Aside0.mk hy206
  have HSZ := Aside0.mk hsz
  replace HX := Aside0.mk HX
  clear hy203 hy206 hsz
  cases hp : psent (a0.size + 1) a0 0 with
  | none =>
    have hpr : (pread a0).isSome = false := by unfold pread; rw [hp]; split <;> rfl
    have HE : Aside0 (R = none) := ⟨by rw [← hR, hp]; rfl⟩
    rw [hpr]
    have hne : ((-1 : Int) == (a0.size : Int)) = false := by rw [beq_eq_false_iff_ne]; omega
    clear hR hp hpr
    go_enter Try.func13, Try.ntmps13
    go_wp2_with (first | ((with_reducible refine gate_dst (N := 7) rfl ?_); refine Kd.R_lit (Kd.int .i64) _ 3 ?hg (N := 7) ?hd (xs := ([0, 0, 0, 0] : List Int)) (inner := [.int .i64 0, .int .i64 0, .int .i64 0, .int .i64 0]) (ok := fun _ => True) (okp := fun _ => True) ?hr ?hp (fun _ hk => hk) trivial (Below.refl _ _) (Nat.le_refl _) (by simp) ?_; (case hd => rfl); (case hg => rfl); (case hr => first | (go_simp; done) | (go_simp; rfl)); (case hp => exact (Reps.one (show Kd.M (Kd.int .i64) _ _ _ 0 [.int .i64 0] from rfl) (Reps.one (show Kd.M (Kd.int .i64) _ _ _ 0 [.int .i64 0] from rfl) (Reps.one (show Kd.M (Kd.int .i64) _ _ _ 0 [.int .i64 0] from rfl) (Reps.one (show Kd.M (Kd.int .i64) _ _ _ 0 [.int .i64 0] from rfl) (Reps.none _ _)))))); intro v204 w6 ho7 hb hg_ hnew_; clear hg_ hnew_; rw [← Ny203.out] at ho7; have n1_ := Aside0.mk (below_step (by repeat (first | (with_reducible first | exact HB.out | apply below_alloc | apply pw_below_drewN | apply below_drew1) | exact HB.out)) hb); have HO205 := Aside0.mk (Kd.R_lower ho7 (below_size (by repeat (first | (with_reducible first | exact HB.out | apply below_alloc | apply pw_below_drewN | apply below_drew1) | exact HB.out)))); clear HB; have HB := n1_; clear n1_ hb ho7) | ((with_reducible refine gate_dst (N := 9) rfl ?_); refine Kd.R_lit (Kd.int .i64) _ 3 ?hg (N := 9) ?hd (xs := ([] : List Int)) (inner := []) (ok := fun _ => True) (okp := fun _ => True) ?hr ?hp (fun _ hk => hk) trivial (Below.refl _ _) (Nat.le_refl _) (by simp) ?_; (case hd => rfl); (case hg => rfl); (case hr => first | (go_simp; done) | (go_simp; rfl)); (case hp => exact (Reps.none _ _)); intro v207 w8 ho9 hb hg_ hnew_; clear hg_ hnew_; rw [← Ny206.out] at ho9; have n0_ := Aside0.mk (Kd.R_elder' (by (with_reducible repeat (first | apply Kd.R_alloc | apply Kd.R_drewN | apply Kd.R_drew)); exact HO205.out) (Kd.R_base ho9) hb); have n1_ := Aside0.mk (Kd.R_lower (Kd.R_new' ho9 (Kd.R_lt (by (with_reducible repeat (first | apply Kd.R_alloc | apply Kd.R_drewN | apply Kd.R_drew)); exact HO205.out))) (below_size (by repeat (first | (with_reducible first | exact HB.out | apply below_alloc | apply pw_below_drewN | apply below_drew1) | exact HB.out)))); have n2_ := Aside0.mk (below_step (by repeat (first | (with_reducible first | exact HB.out | apply below_alloc | apply pw_below_drewN | apply below_drew1) | exact HB.out)) hb); clear HO205; clear HB; have HO205 := n0_; have HO208 := n1_; have HB := n2_; clear n0_ n1_ n2_; clear hb ho9; obtain ⟨Ao10, co10, eo10⟩ := Kd.R_slice HO205.out; subst eo10; obtain ⟨Ao11, co11, eo11⟩ := Kd.R_slice HO208.out; subst eo11) | (have HY := (HX.out Ao10 co10 (Kd.R_reads' HO205.out).2.1 _ (fun k_ => some k_ = (.slice Ao11 y206.length co11 : Value).ownBlock) (.slice Ao11 y206.length co11) HB.out (Kd.C_kept_own (HO205.out) (fun k_ hk_ hs_ => (hk_.2) hs_)) (Kd.R_tight rfl HO208.out)); (with_reducible refine HY.mono ?_); clear HY; rintro e3 w12 hq3; rw [HE.out] at hq3; obtain ⟨hb3, hk3, x3, v3, rfl⟩ := hq3; have HB3 := Aside0.mk hb3))
    all_goals
      go_ret
      exact ⟨by first | rfl | (simp; done) | (simp [*]; done), HB3.out⟩
  | some r =>
    obtain ⟨p, e⟩ := r
    have hpl := psent_place a0 _ 0 p e (by omega) hp
    have HE : Aside0 (R = some (truv y203 p, y206 ++ sgns 1 p, e)) := ⟨by rw [← hR, hp]; rfl⟩
    have hpr : (pread a0).isSome = decide (a0.size ≤ 80 ∧ e = a0.size) := by
      unfold pread
      rw [hp]
      by_cases c : (a0.size : Int) > 80
      · rw [if_pos c]; simp; omega
      · rw [if_neg c]
        by_cases ce : e = a0.size
        · simp only; rw [if_pos ce]; simp; omega
        · simp only; rw [if_neg ce]; simp; omega
    rw [hpr]
    clear hR hp hpr
    have hsz := HSZ.out
    have hpos : 0 < a0.size := by omega
    have f1 : decide (0 < (a0.size : Int)) = true := decide_eq_true (by omega)
    have f1' : decide (0 < a0.size) = true := decide_eq_true hpos
    have HP := Aside0.mk hpos
    by_cases c : a0.size ≤ 80
    · have f2 : decide ((a0.size : Int) ≤ 80) = true := decide_eq_true (by omega)
      have f2' : decide (a0.size ≤ 80) = true := decide_eq_true c
      by_cases ce : e = a0.size
      · have f3 : ((e : Int) == (a0.size : Int)) = true := by rw [beq_iff_eq]; omega
        rw [show decide (a0.size ≤ 80 ∧ e = a0.size) = true from decide_eq_true ⟨c, ce⟩]
        clear hpl hsz hpos c ce
        go_enter Try.func13, Try.ntmps13
        go_wp2_with (first | ((with_reducible refine gate_dst (N := 7) rfl ?_); refine Kd.R_lit (Kd.int .i64) _ 3 ?hg (N := 7) ?hd (xs := ([0, 0, 0, 0] : List Int)) (inner := [.int .i64 0, .int .i64 0, .int .i64 0, .int .i64 0]) (ok := fun _ => True) (okp := fun _ => True) ?hr ?hp (fun _ hk => hk) trivial (Below.refl _ _) (Nat.le_refl _) (by simp) ?_; (case hd => rfl); (case hg => rfl); (case hr => first | (go_simp; done) | (go_simp; rfl)); (case hp => exact (Reps.one (show Kd.M (Kd.int .i64) _ _ _ 0 [.int .i64 0] from rfl) (Reps.one (show Kd.M (Kd.int .i64) _ _ _ 0 [.int .i64 0] from rfl) (Reps.one (show Kd.M (Kd.int .i64) _ _ _ 0 [.int .i64 0] from rfl) (Reps.one (show Kd.M (Kd.int .i64) _ _ _ 0 [.int .i64 0] from rfl) (Reps.none _ _)))))); intro v204 w6 ho7 hb hg_ hnew_; clear hg_ hnew_; rw [← Ny203.out] at ho7; have n1_ := Aside0.mk (below_step (by repeat (first | (with_reducible first | exact HB.out | apply below_alloc | apply pw_below_drewN | apply below_drew1) | exact HB.out)) hb); have HO205 := Aside0.mk (Kd.R_lower ho7 (below_size (by repeat (first | (with_reducible first | exact HB.out | apply below_alloc | apply pw_below_drewN | apply below_drew1) | exact HB.out)))); clear HB; have HB := n1_; clear n1_ hb ho7) | ((with_reducible refine gate_dst (N := 9) rfl ?_); refine Kd.R_lit (Kd.int .i64) _ 3 ?hg (N := 9) ?hd (xs := ([] : List Int)) (inner := []) (ok := fun _ => True) (okp := fun _ => True) ?hr ?hp (fun _ hk => hk) trivial (Below.refl _ _) (Nat.le_refl _) (by simp) ?_; (case hd => rfl); (case hg => rfl); (case hr => first | (go_simp; done) | (go_simp; rfl)); (case hp => exact (Reps.none _ _)); intro v207 w8 ho9 hb hg_ hnew_; clear hg_ hnew_; rw [← Ny206.out] at ho9; have n0_ := Aside0.mk (Kd.R_elder' (by (with_reducible repeat (first | apply Kd.R_alloc | apply Kd.R_drewN | apply Kd.R_drew)); exact HO205.out) (Kd.R_base ho9) hb); have n1_ := Aside0.mk (Kd.R_lower (Kd.R_new' ho9 (Kd.R_lt (by (with_reducible repeat (first | apply Kd.R_alloc | apply Kd.R_drewN | apply Kd.R_drew)); exact HO205.out))) (below_size (by repeat (first | (with_reducible first | exact HB.out | apply below_alloc | apply pw_below_drewN | apply below_drew1) | exact HB.out)))); have n2_ := Aside0.mk (below_step (by repeat (first | (with_reducible first | exact HB.out | apply below_alloc | apply pw_below_drewN | apply below_drew1) | exact HB.out)) hb); clear HO205; clear HB; have HO205 := n0_; have HO208 := n1_; have HB := n2_; clear n0_ n1_ n2_; clear hb ho9; obtain ⟨Ao10, co10, eo10⟩ := Kd.R_slice HO205.out; subst eo10; obtain ⟨Ao11, co11, eo11⟩ := Kd.R_slice HO208.out; subst eo11) | (have HY := (HX.out Ao10 co10 (Kd.R_reads' HO205.out).2.1 _ (fun k_ => some k_ = (.slice Ao11 y206.length co11 : Value).ownBlock) (.slice Ao11 y206.length co11) HB.out (Kd.C_kept_own (HO205.out) (fun k_ hk_ hs_ => (hk_.2) hs_)) (Kd.R_tight rfl HO208.out)); (with_reducible refine HY.mono ?_); clear HY; rintro e3 w12 hq3; rw [HE.out] at hq3; obtain ⟨hb3, hk3, v3, rfl, hr3⟩ := hq3; have HB3 := Aside0.mk hb3))
        go_ret
        exact ⟨by first | rfl | (simp; done), HB3.out⟩
      · have f3 : ((e : Int) == (a0.size : Int)) = false := by rw [beq_eq_false_iff_ne]; omega
        rw [show decide (a0.size ≤ 80 ∧ e = a0.size) = false from decide_eq_false (fun h => ce h.2)]
        clear hpl hsz hpos c ce
        go_enter Try.func13, Try.ntmps13
        go_wp2_with (first | ((with_reducible refine gate_dst (N := 7) rfl ?_); refine Kd.R_lit (Kd.int .i64) _ 3 ?hg (N := 7) ?hd (xs := ([0, 0, 0, 0] : List Int)) (inner := [.int .i64 0, .int .i64 0, .int .i64 0, .int .i64 0]) (ok := fun _ => True) (okp := fun _ => True) ?hr ?hp (fun _ hk => hk) trivial (Below.refl _ _) (Nat.le_refl _) (by simp) ?_; (case hd => rfl); (case hg => rfl); (case hr => first | (go_simp; done) | (go_simp; rfl)); (case hp => exact (Reps.one (show Kd.M (Kd.int .i64) _ _ _ 0 [.int .i64 0] from rfl) (Reps.one (show Kd.M (Kd.int .i64) _ _ _ 0 [.int .i64 0] from rfl) (Reps.one (show Kd.M (Kd.int .i64) _ _ _ 0 [.int .i64 0] from rfl) (Reps.one (show Kd.M (Kd.int .i64) _ _ _ 0 [.int .i64 0] from rfl) (Reps.none _ _)))))); intro v204 w6 ho7 hb hg_ hnew_; clear hg_ hnew_; rw [← Ny203.out] at ho7; have n1_ := Aside0.mk (below_step (by repeat (first | (with_reducible first | exact HB.out | apply below_alloc | apply pw_below_drewN | apply below_drew1) | exact HB.out)) hb); have HO205 := Aside0.mk (Kd.R_lower ho7 (below_size (by repeat (first | (with_reducible first | exact HB.out | apply below_alloc | apply pw_below_drewN | apply below_drew1) | exact HB.out)))); clear HB; have HB := n1_; clear n1_ hb ho7) | ((with_reducible refine gate_dst (N := 9) rfl ?_); refine Kd.R_lit (Kd.int .i64) _ 3 ?hg (N := 9) ?hd (xs := ([] : List Int)) (inner := []) (ok := fun _ => True) (okp := fun _ => True) ?hr ?hp (fun _ hk => hk) trivial (Below.refl _ _) (Nat.le_refl _) (by simp) ?_; (case hd => rfl); (case hg => rfl); (case hr => first | (go_simp; done) | (go_simp; rfl)); (case hp => exact (Reps.none _ _)); intro v207 w8 ho9 hb hg_ hnew_; clear hg_ hnew_; rw [← Ny206.out] at ho9; have n0_ := Aside0.mk (Kd.R_elder' (by (with_reducible repeat (first | apply Kd.R_alloc | apply Kd.R_drewN | apply Kd.R_drew)); exact HO205.out) (Kd.R_base ho9) hb); have n1_ := Aside0.mk (Kd.R_lower (Kd.R_new' ho9 (Kd.R_lt (by (with_reducible repeat (first | apply Kd.R_alloc | apply Kd.R_drewN | apply Kd.R_drew)); exact HO205.out))) (below_size (by repeat (first | (with_reducible first | exact HB.out | apply below_alloc | apply pw_below_drewN | apply below_drew1) | exact HB.out)))); have n2_ := Aside0.mk (below_step (by repeat (first | (with_reducible first | exact HB.out | apply below_alloc | apply pw_below_drewN | apply below_drew1) | exact HB.out)) hb); clear HO205; clear HB; have HO205 := n0_; have HO208 := n1_; have HB := n2_; clear n0_ n1_ n2_; clear hb ho9; obtain ⟨Ao10, co10, eo10⟩ := Kd.R_slice HO205.out; subst eo10; obtain ⟨Ao11, co11, eo11⟩ := Kd.R_slice HO208.out; subst eo11) | (have HY := (HX.out Ao10 co10 (Kd.R_reads' HO205.out).2.1 _ (fun k_ => some k_ = (.slice Ao11 y206.length co11 : Value).ownBlock) (.slice Ao11 y206.length co11) HB.out (Kd.C_kept_own (HO205.out) (fun k_ hk_ hs_ => (hk_.2) hs_)) (Kd.R_tight rfl HO208.out)); (with_reducible refine HY.mono ?_); clear HY; rintro e3 w12 hq3; rw [HE.out] at hq3; obtain ⟨hb3, hk3, v3, rfl, hr3⟩ := hq3; have HB3 := Aside0.mk hb3))
        go_ret
        exact ⟨by first | rfl | (simp; done), HB3.out⟩
    · have f2 : decide ((a0.size : Int) ≤ 80) = false := decide_eq_false (by omega)
      have f2' : decide (a0.size ≤ 80) = false := decide_eq_false c
      rw [show decide (a0.size ≤ 80 ∧ e = a0.size) = false from decide_eq_false (fun h => c h.1)]
      clear hpl hsz hpos c
      go_enter Try.func13, Try.ntmps13
      go_wp2_with (first | ((with_reducible refine gate_dst (N := 7) rfl ?_); refine Kd.R_lit (Kd.int .i64) _ 3 ?hg (N := 7) ?hd (xs := ([0, 0, 0, 0] : List Int)) (inner := [.int .i64 0, .int .i64 0, .int .i64 0, .int .i64 0]) (ok := fun _ => True) (okp := fun _ => True) ?hr ?hp (fun _ hk => hk) trivial (Below.refl _ _) (Nat.le_refl _) (by simp) ?_; (case hd => rfl); (case hg => rfl); (case hr => first | (go_simp; done) | (go_simp; rfl)); (case hp => exact (Reps.one (show Kd.M (Kd.int .i64) _ _ _ 0 [.int .i64 0] from rfl) (Reps.one (show Kd.M (Kd.int .i64) _ _ _ 0 [.int .i64 0] from rfl) (Reps.one (show Kd.M (Kd.int .i64) _ _ _ 0 [.int .i64 0] from rfl) (Reps.one (show Kd.M (Kd.int .i64) _ _ _ 0 [.int .i64 0] from rfl) (Reps.none _ _)))))); intro v204 w6 ho7 hb hg_ hnew_; clear hg_ hnew_; rw [← Ny203.out] at ho7; have n1_ := Aside0.mk (below_step (by repeat (first | (with_reducible first | exact HB.out | apply below_alloc | apply pw_below_drewN | apply below_drew1) | exact HB.out)) hb); have HO205 := Aside0.mk (Kd.R_lower ho7 (below_size (by repeat (first | (with_reducible first | exact HB.out | apply below_alloc | apply pw_below_drewN | apply below_drew1) | exact HB.out)))); clear HB; have HB := n1_; clear n1_ hb ho7) | ((with_reducible refine gate_dst (N := 9) rfl ?_); refine Kd.R_lit (Kd.int .i64) _ 3 ?hg (N := 9) ?hd (xs := ([] : List Int)) (inner := []) (ok := fun _ => True) (okp := fun _ => True) ?hr ?hp (fun _ hk => hk) trivial (Below.refl _ _) (Nat.le_refl _) (by simp) ?_; (case hd => rfl); (case hg => rfl); (case hr => first | (go_simp; done) | (go_simp; rfl)); (case hp => exact (Reps.none _ _)); intro v207 w8 ho9 hb hg_ hnew_; clear hg_ hnew_; rw [← Ny206.out] at ho9; have n0_ := Aside0.mk (Kd.R_elder' (by (with_reducible repeat (first | apply Kd.R_alloc | apply Kd.R_drewN | apply Kd.R_drew)); exact HO205.out) (Kd.R_base ho9) hb); have n1_ := Aside0.mk (Kd.R_lower (Kd.R_new' ho9 (Kd.R_lt (by (with_reducible repeat (first | apply Kd.R_alloc | apply Kd.R_drewN | apply Kd.R_drew)); exact HO205.out))) (below_size (by repeat (first | (with_reducible first | exact HB.out | apply below_alloc | apply pw_below_drewN | apply below_drew1) | exact HB.out)))); have n2_ := Aside0.mk (below_step (by repeat (first | (with_reducible first | exact HB.out | apply below_alloc | apply pw_below_drewN | apply below_drew1) | exact HB.out)) hb); clear HO205; clear HB; have HO205 := n0_; have HO208 := n1_; have HB := n2_; clear n0_ n1_ n2_; clear hb ho9; obtain ⟨Ao10, co10, eo10⟩ := Kd.R_slice HO205.out; subst eo10; obtain ⟨Ao11, co11, eo11⟩ := Kd.R_slice HO208.out; subst eo11) | (have HY := (HX.out Ao10 co10 (Kd.R_reads' HO205.out).2.1 _ (fun k_ => some k_ = (.slice Ao11 y206.length co11 : Value).ownBlock) (.slice Ao11 y206.length co11) HB.out (Kd.C_kept_own (HO205.out) (fun k_ hk_ hs_ => (hk_.2) hs_)) (Kd.R_tight rfl HO208.out)); (with_reducible refine HY.mono ?_); clear HY; rintro e3 w12 hq3; rw [HE.out] at hq3; obtain ⟨hb3, hk3, v3, rfl, hr3⟩ := hq3; have HB3 := Aside0.mk hb3))
      go_ret
      exact ⟨by first | rfl | (simp; done), HB3.out⟩

/-! ### spec_MarksOf: function 19 -/
def spec_MarksOf.l0 : Nat → List Int → ByteArray → Int → Option (ByteArray)
  | 0, _, _, _ => none
  | k + 1, x4, x6, x7 => if x7 < (x4.length : Int) then ((some (([(⟨#[45]⟩ : ByteArray), (⟨#[61]⟩ : ByteArray), (⟨#[43]⟩ : ByteArray)] : List ByteArray) : List ByteArray)).bind fun y222 => (if 0 ≤ x7 then (if 0 ≤ (wrap64 ((rd x4 x7) + 1)) then (if (wrap64 ((rd x4 x7) + 1)) < (y222.length : Int) then (if x6.size + (rdOf ByteArray.empty y222 (wrap64 ((rd x4 x7) + 1))).size ≤ 9223372036854775807 then (spec_MarksOf.l0 k x4 (x6 ++ (rdOf ByteArray.empty y222 (wrap64 ((rd x4 x7) + 1)))) (wrap64 (x7 + 1))) else (none)) else (none)) else (none)) else (none))) else (some x6)
def spec_MarksOf.f (k : Nat) (a0 : ByteArray) : Option (ByteArray) := (spec_SentenceOk.f a0).bind fun t210 => (if t210 = true then ((spec_l7Read.f (([0, 0, 0, 0] : List Int)) a0 0 1 (([] : List Int))).bind fun bt217 => (spec_MarksOf.l0 k bt217.2.1 (⟨#[]⟩ : ByteArray) 0)) else (some (⟨#[]⟩ : ByteArray)))
theorem spec_MarksOf.mono_l : ∀ k, (∀ y0 y1 y2, LeO (spec_MarksOf.l0 k y0 y1 y2) (spec_MarksOf.l0 (k + 1) y0 y1 y2))
  | 0 => fun _ _ _ r h => by simp [spec_MarksOf.l0] at h
  | k + 1 => by
    have ih0 := spec_MarksOf.mono_l k
    · intro y0 y1 y2
      unfold spec_MarksOf.l0
      repeat' first
      | (with_reducible exact ih0 _ _ _)
      | (with_reducible exact LeO.refl _)
      | (with_reducible exact LeO.none _)
      | (with_reducible refine LeO.ite ?_ ?_)
      | (with_reducible refine LeO.bind ?_ (fun _ => ?_))
      | exact ih0 _ _ _
      | exact LeO.none _
      | refine LeO.ite ?_ ?_
      | refine LeO.bind ?_ (fun _ => ?_)
theorem spec_MarksOf.mono : ∀ a0 k, LeO (spec_MarksOf.f k a0) (spec_MarksOf.f (k + 1) a0) := by
  intro a0 k
  have ih0 := spec_MarksOf.mono_l k
  unfold spec_MarksOf.f
  repeat' first
      | (with_reducible exact ih0 _ _ _)
      | (with_reducible exact LeO.refl _)
      | (with_reducible exact LeO.none _)
      | (with_reducible refine LeO.ite ?_ ?_)
      | (with_reducible refine LeO.bind ?_ (fun _ => ?_))
      | exact ih0 _ _ _
      | exact LeO.none _
      | refine LeO.ite ?_ ?_
      | refine LeO.bind ?_ (fun _ => ?_)
set_option maxHeartbeats 8000000 in
set_option maxRecDepth 100000 in
theorem spec_MarksOf.calls (k : Nat) (a0 : ByteArray) (r : ByteArray) (w : World) (h : spec_MarksOf.f k a0 = some r) :
    Calls Try.prog 19 #[.string a0] w fun e w' => e = .returned (.string r) ∧ Below w.heap.size w w' := by
  have HB := Aside0.mk (Below.refl w.heap.size w)
  have H : ((spec_SentenceOk.f a0).bind fun t210 => (if t210 = true then ((spec_l7Read.f (([0, 0, 0, 0] : List Int)) a0 0 1 (([] : List Int))).bind fun bt217 => (spec_MarksOf.l0 k bt217.2.1 (⟨#[]⟩ : ByteArray) 0)) else (some (⟨#[]⟩ : ByteArray)))) = some r := h
  clear h
  replace H := Option.bind_eq_some_iff.mp H
  obtain ⟨t210, A20, H⟩ := H
  replace H : (if t210 = true then ((spec_l7Read.f (([0, 0, 0, 0] : List Int)) a0 0 1 (([] : List Int))).bind fun bt217 => (spec_MarksOf.l0 k bt217.2.1 (⟨#[]⟩ : ByteArray) 0)) else (some (⟨#[]⟩ : ByteArray))) = some r := H
  have A2 := Aside0.mk A20
  clear A20
  by_cases c3 : t210 = true
  · subst c3
    have H1 : ((spec_l7Read.f (([0, 0, 0, 0] : List Int)) a0 0 1 (([] : List Int))).bind fun bt217 => (spec_MarksOf.l0 k bt217.2.1 (⟨#[]⟩ : ByteArray) 0)) = some r := by rw [if_pos rfl] at H; exact H
    clear H
    have H := H1
    clear H1
    obtain ⟨y211, hy211⟩ : ∃ y_ : List Int, y_ = (([0, 0, 0, 0] : List Int)) := ⟨_, rfl⟩
    replace H : ((spec_l7Read.f y211 a0 0 1 (([] : List Int))).bind fun bt217 => (spec_MarksOf.l0 k bt217.2.1 (⟨#[]⟩ : ByteArray) 0)) = some r := by first | (rw [hy211]; with_reducible exact H) | (have H2_ := (Option.bind_some _ _).symm.trans H; rw [hy211]; with_reducible exact H2_) | (have H2_ := (Option.bind_some _ _).symm.trans H; with_reducible exact H2_) | with_reducible exact H | (rw [hy211]; exact H) | exact H
    have Ny211 := Aside0.mk hy211
    clear hy211
    obtain ⟨y214, hy214⟩ : ∃ y_ : List Int, y_ = (([] : List Int)) := ⟨_, rfl⟩
    replace H : ((spec_l7Read.f y211 a0 0 1 y214).bind fun bt217 => (spec_MarksOf.l0 k bt217.2.1 (⟨#[]⟩ : ByteArray) 0)) = some r := by first | (rw [hy214]; with_reducible exact H) | (have H2_ := (Option.bind_some _ _).symm.trans H; rw [hy214]; with_reducible exact H2_) | (have H2_ := (Option.bind_some _ _).symm.trans H; with_reducible exact H2_) | with_reducible exact H | (rw [hy214]; exact H) | exact H
    have Ny214 := Aside0.mk hy214
    clear hy214
    replace H := Option.bind_eq_some_iff.mp H
    obtain ⟨⟨t217, t218, t221⟩, A40, H⟩ := H
    replace H : (spec_MarksOf.l0 k t218 (⟨#[]⟩ : ByteArray) 0) = some r := H
    have A4 := Aside0.mk A40
    clear A40
    have H' := Aside0.mk H
    clear H
    go_enter Try.func19, Try.ntmps19
    go_wp2_with (first | ((with_reducible refine gate_callee (f := 13) rfl ?_); refine goesL_ (some 9) rfl rfl Try.func13 (by kernel_rfl) rfl #[.string a0] rfl (by (try simp only [List.map_toArray, List.map_cons, List.map_nil]); first | done | rfl | (simp only [List.length_drop, List.length_take]; rfl)) ?_; (with_reducible refine (spec_SentenceOk.calls a0 true _ A2.out).mono ?_); rintro e w5 ⟨rfl, hb⟩; refine ⟨_, rfl, ?_⟩; have n0_ := Aside0.mk (below_step (by repeat (first | (with_reducible first | exact HB.out | apply below_alloc | apply pw_below_drewN | apply below_drew1) | exact HB.out)) hb); clear HB; have HB := n0_; clear n0_; (try clear hb); (try clear hb2); (try clear hk); (try clear hi)) | ((with_reducible refine gate_dst (N := 12) rfl ?_); refine Kd.R_lit (Kd.int .i64) _ 3 ?hg (N := 12) ?hd (xs := ([0, 0, 0, 0] : List Int)) (inner := [.int .i64 0, .int .i64 0, .int .i64 0, .int .i64 0]) (ok := fun _ => True) (okp := fun _ => True) ?hr ?hp (fun _ hk => hk) trivial (Below.refl _ _) (Nat.le_refl _) (by simp) ?_; (case hd => rfl); (case hg => rfl); (case hr => first | (go_simp; done) | (go_simp; rfl)); (case hp => exact (Reps.one (show Kd.M (Kd.int .i64) _ _ _ 0 [.int .i64 0] from rfl) (Reps.one (show Kd.M (Kd.int .i64) _ _ _ 0 [.int .i64 0] from rfl) (Reps.one (show Kd.M (Kd.int .i64) _ _ _ 0 [.int .i64 0] from rfl) (Reps.one (show Kd.M (Kd.int .i64) _ _ _ 0 [.int .i64 0] from rfl) (Reps.none _ _)))))); intro v212 w6 ho7 hb hg_ hnew_; clear hg_ hnew_; (first | rw [← Ny211.out] at ho7 | (simp only [Int.reduceToNat] at ho7; rw [← Ny211.out] at ho7)); have n0_ := Aside0.mk (Kd.R_lower ho7 (below_size (by repeat (first | (with_reducible first | exact HB.out | apply below_alloc | apply pw_below_drewN | apply below_drew1) | exact HB.out)))); have n1_ := Aside0.mk (below_step (by repeat (first | (with_reducible first | exact HB.out | apply below_alloc | apply pw_below_drewN | apply below_drew1) | exact HB.out)) hb); clear HB; have HO213 := n0_; have HB := n1_; clear n0_ n1_; clear hb ho7) | ((with_reducible refine gate_dst (N := 14) rfl ?_); refine Kd.R_lit (Kd.int .i64) _ 3 ?hg (N := 14) ?hd (xs := ([] : List Int)) (inner := []) (ok := fun _ => True) (okp := fun _ => True) ?hr ?hp (fun _ hk => hk) trivial (Below.refl _ _) (Nat.le_refl _) (by simp) ?_; (case hd => rfl); (case hg => rfl); (case hr => first | (go_simp; done) | (go_simp; rfl)); (case hp => exact (Reps.none _ _)); intro v215 w8 ho9 hb hg_ hnew_; clear hg_ hnew_; (first | rw [← Ny214.out] at ho9 | (simp only [Int.reduceToNat] at ho9; rw [← Ny214.out] at ho9)); have n0_ := Aside0.mk (Kd.R_elder' (by (with_reducible repeat (first | apply Kd.R_alloc | apply Kd.R_drewN | apply Kd.R_drew)); exact HO213.out) (Kd.R_base ho9) hb); have n1_ := Aside0.mk (Kd.R_lower (Kd.R_new' ho9 (Kd.R_lt (by (with_reducible repeat (first | apply Kd.R_alloc | apply Kd.R_drewN | apply Kd.R_drew)); exact HO213.out))) (below_size (by repeat (first | (with_reducible first | exact HB.out | apply below_alloc | apply pw_below_drewN | apply below_drew1) | exact HB.out)))); have n2_ := Aside0.mk (below_step (by repeat (first | (with_reducible first | exact HB.out | apply below_alloc | apply pw_below_drewN | apply below_drew1) | exact HB.out)) hb); clear HO213; clear HB; have HO213 := n0_; have HO216 := n1_; have HB := n2_; clear n0_ n1_ n2_; clear hb ho9; obtain ⟨Ao10, co10, eo10⟩ := Kd.R_slice HO213.out; subst eo10; obtain ⟨Ao11, co11, eo11⟩ := Kd.R_slice HO216.out; subst eo11) | ((with_reducible refine gate_callee (f := 32) rfl ?_); refine goesL_ (some 15) rfl rfl Try.func32 (by kernel_rfl) rfl #[.slice Ao10 y211.length co10, .string a0, .int .i64 0, .int .i64 1, .slice Ao11 y214.length co11] rfl (by (try simp only [List.map_toArray, List.map_cons, List.map_nil]); first | done | rfl | (simp only [List.length_drop, List.length_take]; rfl)) ?_; (with_reducible refine (spec_l7Read.calls _ _ y211 a0 0 1 (fun k_ => some k_ = (.slice Ao11 y214.length co11 : Value).ownBlock) (.slice Ao11 y214.length co11) y214 t217 t218 t221 w _ ?side1 ?side2 ?side3 ?side4 A4.out).mono ?_); (case side1 => repeat (first | (with_reducible first | exact HB.out | apply below_alloc | apply pw_below_drewN | apply below_drew1) | exact HB.out)); (case side2 => exact Kd.C_kept_own (HO213.out) (fun k_ hk_ hs_ => (hk_.2) hs_)); (case side3 => exact (Kd.R_reads' HO213.out).2.1); (case side4 => exact Kd.R_tight rfl HO216.out); rintro e w12 ⟨v219, rfl, ho0, hb, hkp⟩; refine ⟨_, rfl, ?_⟩; have n0_ := Aside0.mk (Kd.R_mono (ok' := fun k_ => some k_ ≠ (v219 : Value).ownBlock) (Kd.R_keptB (HO213.out) hkp (fun k_ hk_ hs_ => (hk_.2) hs_)) (fun k_ hk_ => fun e_ => Or.elim (ho0.1 k_ e_.symm) (fun hs_ => hk_.2.1 hs_) (fun hn_ => Nat.not_le.2 hk_.2.2 hn_))); have n1_ := Aside0.mk (Kd.R_mono (ok' := fun k_ => some k_ ≠ (.slice Ao10 y211.length co10 : Value).ownBlock) ho0 (fun k_ hk_ => Or.elim hk_ (fun hs_ => fun e_ => (((HO213.out).1 k_ e_.symm).2) hs_) (fun hn_ => (Kd.fresh' (Kd.R_lt (by (with_reducible repeat (first | apply Kd.R_alloc | apply Kd.R_drewN | apply Kd.R_drew)); exact HO213.out)) k_ hn_)))); have n2_ := Aside0.mk (hb); clear HO213; clear HB; clear HO216; have HO213 := n0_; have HO220 := n1_; have HB := n2_; clear n0_ n1_ n2_; (try clear hb); (try clear hkp); (try clear ho0)))
    go_loopg [6, 7] k (fun kq v6 v7 w' => ∃ (x6_1 : ByteArray) (x7_1 : Int), v6 = .string x6_1 ∧ v7 = .int .i64 x7_1 ∧ Aside0 (spec_MarksOf.l0 kq t218 x6_1 x7_1 = some r) ∧ Aside0 (kq ≤ k) ∧ Aside0 (Kd.R (Kd.int .i64) 3 w' w.heap.size (fun _ => True) v219 t218) ∧ Aside0 (Below w.heap.size w w'))
    case atStart => exact ⟨((⟨#[]⟩ : ByteArray)), (0), (by first | rfl | (simp; done) | (simp [*]; done)), (by first | rfl | (simp; done) | (simp [*]; done)), H', ⟨Nat.le_refl _⟩, ⟨by (with_reducible repeat (first | apply Kd.R_alloc | apply Kd.R_drewN | apply Kd.R_drew)); exact Kd.R_mono HO220.out (fun _ hk => trivial)⟩, ⟨by repeat (first | (with_reducible first | exact HB.out | apply below_alloc | apply pw_below_drewN | apply below_drew1) | exact HB.out)⟩⟩
    case round =>
      clear H'
      try clear c1
      try clear p2
      try clear c3
      obtain ⟨x6_1, x7_1, rfl, rfl, HA, HK1, HO_4, HB⟩ := hrel
      cases gk with
      | zero => exact absurd HA.out (by simp [spec_MarksOf.l0])
      | succ k1 =>
        have H := HA.out
        clear HA
        simp only [spec_MarksOf.l0] at H
        by_cases c13 : x7_1 < (t218.length : Int)
        · rw [if_pos c13] at H
          have c13b0 : decide (x7_1 < (t218.length : Int)) = true := decide_eq_true c13
          clear c13
          obtain ⟨y222, hy222⟩ : ∃ y_ : List ByteArray, y_ = (([(⟨#[45]⟩ : ByteArray), (⟨#[61]⟩ : ByteArray), (⟨#[43]⟩ : ByteArray)] : List ByteArray)) := ⟨_, rfl⟩
          replace H : (if 0 ≤ x7_1 then (if 0 ≤ (wrap64 ((rd t218 x7_1) + 1)) then (if (wrap64 ((rd t218 x7_1) + 1)) < (y222.length : Int) then (if x6_1.size + (rdOf ByteArray.empty y222 (wrap64 ((rd t218 x7_1) + 1))).size ≤ 9223372036854775807 then (spec_MarksOf.l0 k1 t218 (x6_1 ++ (rdOf ByteArray.empty y222 (wrap64 ((rd t218 x7_1) + 1)))) (wrap64 (x7_1 + 1))) else (none)) else (none)) else (none)) else (none)) = some r := by first | (rw [hy222]; with_reducible exact H) | (have H2_ := (Option.bind_some _ _).symm.trans H; rw [hy222]; with_reducible exact H2_) | (have H2_ := (Option.bind_some _ _).symm.trans H; with_reducible exact H2_) | with_reducible exact H | (rw [hy222]; exact H) | exact H
          have Ny222 := Aside0.mk hy222
          clear hy222
          by_cases c14 : 0 ≤ x7_1
          · rw [if_pos c14] at H
            have c14b0 : decide (0 ≤ x7_1) = true := decide_eq_true c14
            clear c14
            obtain ⟨ji15, hji15⟩ : ∃ j_ : Int, (wrap64 ((rd t218 x7_1) + 1)) = j_ := ⟨_, rfl⟩
            replace H : (if 0 ≤ (ji15) then (if (ji15) < (y222.length : Int) then (if x6_1.size + (rdOf ByteArray.empty y222 (ji15)).size ≤ 9223372036854775807 then (spec_MarksOf.l0 k1 t218 (x6_1 ++ (rdOf ByteArray.empty y222 (ji15))) (wrap64 (x7_1 + 1))) else (none)) else (none)) else (none)) = some r := by first | (rw [hji15] at H; exact H) | (simp only [hji15] at H ⊢; exact H)
            have hji15w : (IntKind.i64.wrap ((rd t218 x7_1) + 1)) = ji15 := (i64_w _).trans hji15
            by_cases c16 : 0 ≤ (ji15)
            · rw [if_pos c16] at H
              have c16b0 : decide (0 ≤ (ji15)) = true := decide_eq_true c16
              clear c16
              by_cases c17 : (ji15) < (y222.length : Int)
              · rw [if_pos c17] at H
                have c17b0 : decide ((ji15) < (y222.length : Int)) = true := decide_eq_true c17
                clear c17
                by_cases c18 : x6_1.size + (rdOf ByteArray.empty y222 (ji15)).size ≤ 9223372036854775807
                · rw [if_pos c18] at H
                  have c18b0 := eq_true c18
                  have c18b1 : decide (x6_1.size + (rdOf ByteArray.empty y222 (ji15)).size ≤ 9223372036854775807) = true := decide_eq_true c18
                  try have c18b2 : (9223372036854775807 < x6_1.size + (rdOf ByteArray.empty y222 (ji15)).size) = False := eq_false (Nat.not_lt.2 c18)
                  have H' := Aside0.mk H
                  clear H
                  obtain ⟨Ao19, co19, eo19⟩ := Kd.R_slice HO_4.out
                  subst eo19
                  go_wp2_with (first | ((with_reducible refine gate_dst (N := 26) rfl ?_); refine Kd.R_lit Kd.string _ 9 ?hg (N := 26) ?hd (xs := ([(⟨#[45]⟩ : ByteArray), (⟨#[61]⟩ : ByteArray), (⟨#[43]⟩ : ByteArray)] : List ByteArray)) (inner := [.string (⟨#[45]⟩ : ByteArray), .string (⟨#[61]⟩ : ByteArray), .string (⟨#[43]⟩ : ByteArray)]) (ok := fun _ => True) (okp := fun _ => True) ?hr ?hp (fun _ hk => hk) trivial (Below.refl _ _) (Nat.le_refl _) (by simp) ?_; (case hd => rfl); (case hg => rfl); (case hr => first | (go_simp; done) | (go_simp; rfl)); (case hp => exact (Reps.one (show Kd.M Kd.string _ _ _ (⟨#[45]⟩ : ByteArray) [.string (⟨#[45]⟩ : ByteArray)] from rfl) (Reps.one (show Kd.M Kd.string _ _ _ (⟨#[61]⟩ : ByteArray) [.string (⟨#[61]⟩ : ByteArray)] from rfl) (Reps.one (show Kd.M Kd.string _ _ _ (⟨#[43]⟩ : ByteArray) [.string (⟨#[43]⟩ : ByteArray)] from rfl) (Reps.none _ _))))); intro v223 w20 ho21 hb hg_ hnew_; clear hg_ hnew_; (first | rw [← Ny222.out] at ho21 | (simp only [Int.reduceToNat] at ho21; rw [← Ny222.out] at ho21)); have n0_ := Aside0.mk (Kd.R_below (by (with_reducible repeat (first | apply Kd.R_alloc | apply Kd.R_drewN | apply Kd.R_drew)); exact HO_4.out) hb); have n1_ := Aside0.mk (Kd.R_lower ho21 (below_size (by repeat (first | (with_reducible first | exact HB.out | apply below_alloc | apply pw_below_drewN | apply below_drew1) | exact HB.out)))); have n2_ := Aside0.mk (below_step (by repeat (first | (with_reducible first | exact HB.out | apply below_alloc | apply pw_below_drewN | apply below_drew1) | exact HB.out)) hb); clear HO_4; clear HB; have HO_4 := n0_; have HO224 := n1_; have HB := n2_; clear n0_ n1_ n2_; clear hb ho21; have p225 : 0 ≤ (x7_1 : Int) := of_decide_eq_true (by first | (with_reducible assumption) | assumption); have q225 : x7_1 < (t218.length : Int) := of_decide_eq_true (by first | (with_reducible assumption) | assumption); obtain ⟨ad225, e225, hx225_0⟩ := Kd.at_int (Kd.R_reads' HO_4.out).2.2 x7_1 p225 q225; cases e225; replace p225 := eq_true p225; replace q225 := eq_true q225; obtain ⟨Ao22, co22, eo22⟩ := Kd.R_slice HO224.out; subst eo22; have p226 : 0 ≤ ((ji15) : Int) := of_decide_eq_true (by first | (with_reducible assumption) | assumption); have q226 : (ji15) < (y222.length : Int) := of_decide_eq_true (by first | (with_reducible assumption) | assumption); obtain ⟨ad226, e226, hx226_0⟩ := Kd.at_string (Kd.R_reads' HO224.out).2.2 (ji15) p226 q226; cases e226; replace p226 := eq_true p226; replace q226 := eq_true q226))
                  go_roundg k1
                  case measure => have := HK1.out; omega
                  case rel => exact ⟨(x6_1 ++ (rdOf ByteArray.empty y222 (ji15))), (wrap64 (x7_1 + 1)), (by first | rfl | (simp; done) | (simp only [← hji15] <;> (first | rfl | simp)) | (simp [*]; done)), (by first | rfl | (simp; done) | (simp [*]; done)), H', ⟨by have := HK1.out; omega⟩, ⟨by (with_reducible repeat (first | apply Kd.R_alloc | apply Kd.R_drewN | apply Kd.R_drew)); exact HO_4.out⟩, ⟨by repeat (first | (with_reducible first | exact HB.out | apply below_alloc | apply pw_below_drewN | apply below_drew1) | exact HB.out)⟩⟩
                · rw [if_neg c18] at H
                  exact absurd H (by simp)
              · rw [if_neg c17] at H
                exact absurd H (by simp)
            · rw [if_neg c16] at H
              exact absurd H (by simp)
          · rw [if_neg c14] at H
            exact absurd H (by simp)
        · rw [if_neg c13] at H
          have c13b0 : decide (x7_1 < (t218.length : Int)) = false := decide_eq_false c13
          clear c13
          obtain rfl := Option.some.inj H
          obtain ⟨Ao23, co23, eo23⟩ := Kd.R_slice HO_4.out
          subst eo23
          go_wp2
          go_ret
          exact ⟨by first | rfl | (simp [errW_none, errW_some] <;> rfl) | (simp [*, errW_none, errW_some] <;> rfl), by repeat (first | (with_reducible first | exact HB.out | apply below_alloc | apply pw_below_drewN | apply below_drew1) | exact HB.out)⟩
  · replace c3 := Bool.eq_false_iff.mpr c3
    subst c3
    have H1 : (some (⟨#[]⟩ : ByteArray)) = some r := by rw [if_neg (show ¬ (false = true) by decide)] at H; exact H
    clear H
    have H := H1
    clear H1
    obtain rfl := Option.some.inj H
    go_enter Try.func19, Try.ntmps19
    go_wp2_with (first | ((with_reducible refine gate_callee (f := 13) rfl ?_); refine goesL_ (some 9) rfl rfl Try.func13 (by kernel_rfl) rfl #[.string a0] rfl (by (try simp only [List.map_toArray, List.map_cons, List.map_nil]); first | done | rfl | (simp only [List.length_drop, List.length_take]; rfl)) ?_; (with_reducible refine (spec_SentenceOk.calls a0 false _ A2.out).mono ?_); rintro e w24 ⟨rfl, hb⟩; refine ⟨_, rfl, ?_⟩; have n0_ := Aside0.mk (below_step (by repeat (first | (with_reducible first | exact HB.out | apply below_alloc | apply pw_below_drewN | apply below_drew1) | exact HB.out)) hb); clear HB; have HB := n0_; clear n0_; (try clear hb); (try clear hb2); (try clear hk); (try clear hi)))
    go_ret
    exact ⟨by first | rfl | (simp [errW_none, errW_some] <;> rfl) | (simp [*, errW_none, errW_some] <;> rfl), by repeat (first | (with_reducible first | exact HB.out | apply below_alloc | apply pw_below_drewN | apply below_drew1) | exact HB.out)⟩

/-! ### impl_MarksOf: function 20 -/
def impl_MarksOf.f (a0 : ByteArray) : Option (ByteArray) := some (match pread a0 with | none => ⟨#[]⟩ | some p => mtx (sgns 1 p))
set_option maxHeartbeats 8000000 in
set_option maxRecDepth 100000 in
theorem impl_MarksOf.calls (a0 : ByteArray) (r : ByteArray) (w : World) (h : impl_MarksOf.f a0 = some r) :
    Calls Try.prog 20 #[.string a0] w fun e w' => e = .returned (.string r) ∧ Below w.heap.size w w' := by
  unfold impl_MarksOf.f at h
  have HS := impl_readSentence.calls a0 w
  cases hp : pread a0 with
  | none =>
    rw [hp] at HS h
    obtain rfl := Option.some.inj h
    replace HS := Aside0.mk HS
    clear hp h
    go_enter Try.func20, Try.ntmps20
    go_wp2_with (go_at_call 33; (with_reducible refine HS.out.mono ?_); rintro e w2 ⟨hb, rfl⟩)
    go_ret
    exact ⟨by first | rfl | (simp; done), hb⟩
  | some p =>
    rw [hp] at HS h
    obtain rfl := Option.some.inj h
    obtain ⟨hs, hl, _, _⟩ := psent_top hp
    replace HS := Aside0.mk HS
    have HM := Aside0.mk (fun b wx ht => impl_part_marks.calls w.heap.size hs (by omega) b 1 wx (by decide) ht)
    clear hp h hs hl
    go_enter Try.func20, Try.ntmps20
    go_wp2_with (first | (go_at_call 33; (with_reducible refine HS.out.mono ?_); rintro e w2 ⟨hb, b, rfl, ht⟩; have HT := Aside0.mk ht; have HB := Aside0.mk hb; clear ht hb) | (go_at_call 37; (with_reducible refine (HM.out _ _ HT.out).mono ?_); rintro e w3 ⟨rfl, hb3⟩))
    go_ret
    exact ⟨by first | rfl | (simp; done), below_step HB.out hb3⟩

/-! ### impl_PlaceOf: function 42 -/
def impl_PlaceOf.f (a0 : Int) (a1 : Int) : Option (Int) := if a0 < 0 then (some (-1)) else (if a0 > 5 then (some (-1)) else (if a1 < 0 then (some (-1)) else (if a1 > a0 then (some (-1)) else ((impl_placeOf.f a0 a1).bind fun t227 => (some t227)))))
set_option maxHeartbeats 8000000 in
set_option maxRecDepth 100000 in
theorem impl_PlaceOf.calls (a0 : Int) (a1 : Int) (r : Int) (w : World) (h : impl_PlaceOf.f a0 a1 = some r) :
    Calls Try.prog 42 #[.int .i64 a0, .int .i64 a1] w fun e w' => e = .returned (.int .i64 r) ∧ Drawn0 w w' := by
  have H : (if a0 < 0 then (some (-1)) else (if a0 > 5 then (some (-1)) else (if a1 < 0 then (some (-1)) else (if a1 > a0 then (some (-1)) else ((impl_placeOf.f a0 a1).bind fun t227 => (some t227)))))) = some r := h
  clear h
  by_cases c3 : a0 < 0
  · rw [if_pos c3] at H
    have c3b0 : decide (a0 < 0) = true := decide_eq_true c3
    clear c3
    obtain rfl := Option.some.inj H
    go_enter Try.func42, Try.ntmps42
    go_wp2
    go_ret
    exact ⟨by first | rfl | (simp; done) | (simp [*]; done), by repeat (first | exact Drawn0.refl _ | apply Drawn0.step)⟩
  · rw [if_neg c3] at H
    have c3b0 : decide (a0 < 0) = false := decide_eq_false c3
    clear c3
    by_cases c4 : a0 > 5
    · rw [if_pos c4] at H
      have c4b0 : decide (5 < a0) = true := decide_eq_true c4
      clear c4
      obtain rfl := Option.some.inj H
      go_enter Try.func42, Try.ntmps42
      go_wp2
      go_ret
      exact ⟨by first | rfl | (simp; done) | (simp [*]; done), by repeat (first | exact Drawn0.refl _ | apply Drawn0.step)⟩
    · rw [if_neg c4] at H
      have c4b0 : decide (5 < a0) = false := decide_eq_false c4
      clear c4
      by_cases c5 : a1 < 0
      · rw [if_pos c5] at H
        have c5b0 : decide (a1 < 0) = true := decide_eq_true c5
        clear c5
        obtain rfl := Option.some.inj H
        go_enter Try.func42, Try.ntmps42
        go_wp2
        go_ret
        exact ⟨by first | rfl | (simp; done) | (simp [*]; done), by repeat (first | exact Drawn0.refl _ | apply Drawn0.step)⟩
      · rw [if_neg c5] at H
        have c5b0 : decide (a1 < 0) = false := decide_eq_false c5
        clear c5
        by_cases c6 : a1 > a0
        · rw [if_pos c6] at H
          have c6b0 : decide (a0 < a1) = true := decide_eq_true c6
          clear c6
          obtain rfl := Option.some.inj H
          go_enter Try.func42, Try.ntmps42
          go_wp2
          go_ret
          exact ⟨by first | rfl | (simp; done) | (simp [*]; done), by repeat (first | exact Drawn0.refl _ | apply Drawn0.step)⟩
        · rw [if_neg c6] at H
          have c6b0 : decide (a0 < a1) = false := decide_eq_false c6
          clear c6
          replace H := Option.bind_eq_some_iff.mp H
          obtain ⟨t227, A70, H⟩ := H
          replace H : (some t227) = some r := H
          have A7 := Aside0.mk A70
          clear A70
          obtain rfl := Option.some.inj H
          go_enter Try.func42, Try.ntmps42
          go_wp2_with (first | ((with_reducible refine gate_callee (f := 63) rfl ?_); refine goesL_ (some 22) rfl rfl Try.func63 (by kernel_rfl) rfl #[.int .i64 a0, .int .i64 a1] rfl (by (try simp only [List.map_toArray, List.map_cons, List.map_nil]); first | done | rfl | (simp only [List.length_drop, List.length_take]; rfl)) ?_; (with_reducible refine (impl_placeOf.calls a0 a1 t227 _ A7.out).mono ?_); rintro e w' ⟨rfl, ⟨nd, rfl⟩⟩; refine ⟨_, rfl, ?_⟩))
          go_ret
          exact ⟨by first | rfl | (simp; done) | (simp [*]; done), by repeat (first | exact Drawn0.refl _ | apply Drawn0.step)⟩

/-! ### laws_alive: function 26 -/
def laws_alive.f  : Option (Bool) := (impl_PlaceOf.f 0 0).bind fun t228 => (if t228 = 0 then ((impl_PlaceOf.f 0 1).bind fun t229 => (some (t229 == (-1)))) else (some false))
set_option maxHeartbeats 8000000 in
set_option maxRecDepth 100000 in
theorem laws_alive.calls  (r : Bool) (w : World) (h : laws_alive.f  = some r) :
    Calls Try.prog 26 #[] w fun e w' => e = .returned (.bool r) ∧ Drawn0 w w' := by
  have H : ((impl_PlaceOf.f 0 0).bind fun t228 => (if t228 = 0 then ((impl_PlaceOf.f 0 1).bind fun t229 => (some (t229 == (-1)))) else (some false))) = some r := h
  clear h
  replace H := Option.bind_eq_some_iff.mp H
  obtain ⟨t228, A10, H⟩ := H
  replace H : (if t228 = 0 then ((impl_PlaceOf.f 0 1).bind fun t229 => (some (t229 == (-1)))) else (some false)) = some r := H
  have A1 := Aside0.mk A10
  clear A10
  by_cases c2 : t228 = 0
  · rw [if_pos c2] at H
    have c2b0 : (t228 == 0) = true := beq_iff_eq.mpr c2
    have c2b1 : (t228 != 0) = false := bne_eq_false_iff_eq.mpr c2
    clear c2
    replace H := Option.bind_eq_some_iff.mp H
    obtain ⟨t229, A30, H⟩ := H
    replace H : (some (t229 == (-1))) = some r := H
    have A3 := Aside0.mk A30
    clear A30
    obtain rfl := Option.some.inj H
    go_enter Try.func26, Try.ntmps26
    go_wp2_with (first | ((with_reducible refine gate_callee (f := 42) rfl ?_); refine goesL_ (some 1) rfl rfl Try.func42 (by kernel_rfl) rfl #[.int .i64 0, .int .i64 0] rfl (by (try simp only [List.map_toArray, List.map_cons, List.map_nil]); first | done | rfl | (simp only [List.length_drop, List.length_take]; rfl)) ?_; (with_reducible refine (impl_PlaceOf.calls 0 0 t228 _ A1.out).mono ?_); rintro e w' ⟨rfl, ⟨nd, rfl⟩⟩; refine ⟨_, rfl, ?_⟩) | (go_at_call 42; (with_reducible refine (impl_PlaceOf.calls 0 1 t229 _ A3.out).mono ?_); rintro e w' ⟨rfl, ⟨nd, rfl⟩⟩))
    go_ret
    exact ⟨by first | rfl | (simp; done) | (simp [*]; done), by repeat (first | exact Drawn0.refl _ | apply Drawn0.step)⟩
  · rw [if_neg c2] at H
    have c2b0 : (t228 == 0) = false := beq_eq_false_iff_ne.mpr c2
    have c2b1 : (t228 != 0) = true := bne_iff_ne.mpr c2
    obtain rfl := Option.some.inj H
    go_enter Try.func26, Try.ntmps26
    go_wp2_with (first | ((with_reducible refine gate_callee (f := 42) rfl ?_); refine goesL_ (some 1) rfl rfl Try.func42 (by kernel_rfl) rfl #[.int .i64 0, .int .i64 0] rfl (by (try simp only [List.map_toArray, List.map_cons, List.map_nil]); first | done | rfl | (simp only [List.length_drop, List.length_take]; rfl)) ?_; (with_reducible refine (impl_PlaceOf.calls 0 0 t228 _ A1.out).mono ?_); rintro e w' ⟨rfl, ⟨nd, rfl⟩⟩; refine ⟨_, rfl, ?_⟩))
    go_ret
    exact ⟨by first | rfl | (simp; done) | (simp [*]; done), by repeat (first | exact Drawn0.refl _ | apply Drawn0.step)⟩

end Go.Proofs.Ytfjfdnododnepaa.PFnMarksOf
