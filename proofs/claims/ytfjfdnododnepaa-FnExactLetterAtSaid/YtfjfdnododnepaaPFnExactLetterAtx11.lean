-- Written by a program of this session (wip/patch_print.py, over the kit's print) and not by hand; Lean checks every word.
import Derived.Test.YtfjfdnododnepaaPFnExactLetterAtx0
import Derived.Test.YtfjfdnododnepaaPFnExactLetterAtx1
import Derived.Test.YtfjfdnododnepaaPFnExactLetterAtx2
import Derived.Test.YtfjfdnododnepaaPFnExactLetterAtx3
import Derived.Test.YtfjfdnododnepaaPFnExactLetterAtx7
import Derived.Test.YtfjfdnododnepaaPFnExactLetterAtx8
import Derived.Test.YtfjfdnododnepaaPFnExactLetterAtx9
import Derived.Test.YtfjfdnododnepaaPFnExactLetterAtx10
namespace Go.Proofs.Ytfjfdnododnepaa.PFnExactLetterAt
open Go.RowKit Go.Proofs.YtfjfdnododnepaaW.PrintWords Go.Proofs.YtfjfdnododnepaaW.PrintLast Go.Proofs.YtfjfdnododnepaaW.PrintMore
attribute [local go_sem] max2_int min2_int max_two min_two max_three min_three max_four min_four   -- for this text's walks alone
set_option linter.unusedVariables false
set_option linter.unusedSimpArgs false

/-! ### impl_LetterAt: function 16 -/
/-- its letters stand where it says, and they are letters -/
def Leafs (s : ByteArray) : PT → Prop
  | .leaf c i => i < s.size ∧ bt s (i : Int) = c ∧ 97 ≤ c ∧ c ≤ 100
  | .one _ p => Leafs s p
  | .two _ p q => Leafs s p ∧ Leafs s q
  | .tri _ p q => Leafs s p ∧ Leafs s q
theorem pset_leafs (s : ByteArray) : ∀ n a p e, a ≤ s.size → pset n s a = some (p, e) → Leafs s p
  | 0, a, p, a', _, h => by cases h
  | n + 1, a, p, a', ha, h => by
    unfold pset at h
    split at h
    · rename_i c
      obtain ⟨k1, k2⟩ := nxt_pos ha (show (nxt s a).1 ≠ 0 by omega)
      injection h with h
      injection h with h h'
      subst h
      exact ⟨k1, by rw [nxt_lt k1], c.1, c.2⟩
    · split at h
      · rename_i c
        obtain ⟨k1, k2⟩ := nxt_pos ha (show (nxt s a).1 ≠ 0 by omega)
        cases h1 : pset n s (a + 1) with
        | none => rw [h1] at h; cases h
        | some r =>
          obtain ⟨x, e⟩ := r
          rw [h1] at h
          have := pset_leafs s n (a + 1) x e k1 h1
          injection h with h
          injection h with h h'
          subst h
          exact this
      · split at h
        · rename_i c
          obtain ⟨k1, k2⟩ := nxt_pos ha (show (nxt s a).1 ≠ 0 by omega)
          obtain ⟨x, y, a1, a3, h1, h2, h3, h4, h5, h6⟩ := ptwo_two h
          have p1 := pset_place s n _ _ _ k1 h1
          have p2 := nxt_le s a1 p1.2
          subst h5
          exact ⟨pset_leafs s n _ _ _ k1 h1, pset_leafs s n _ _ _ p2.2 h2⟩
        · cases h
theorem psent_leafs (s : ByteArray) : ∀ n a p e, a ≤ s.size → psent n s a = some (p, e) → Leafs s p
  | 0, a, p, a', _, h => by cases h
  | n + 1, a, p, a', ha, h => by
    by_cases c1 : (nxt s a).1 = 126
    · unfold psent at h
      rw [if_pos c1] at h
      obtain ⟨k1, k2⟩ := nxt_pos ha (show (nxt s a).1 ≠ 0 by omega)
      cases h1 : psent n s (a + 1) with
      | none => rw [h1] at h; cases h
      | some r =>
        obtain ⟨x, e⟩ := r
        rw [h1] at h
        have := psent_leafs s n (a + 1) x e k1 h1
        injection h with h
        injection h with h h'
        subst h
        exact this
    · by_cases c : (nxt s a).1 = 91
      · unfold psent at h
        rw [if_neg c1, if_pos c] at h
        obtain ⟨k1, k2⟩ := nxt_pos ha (show (nxt s a).1 ≠ 0 by omega)
        obtain ⟨x, y, a1, a3, h1, h2, h3, h4, h5, h6⟩ := ptwo_two h
        have p1 := psent_place s n _ _ _ k1 h1
        have p2 := nxt_le s a1 p1.2
        subst h5
        exact ⟨psent_leafs s n _ _ _ k1 h1, psent_leafs s n _ _ _ p2.2 h2⟩
      · rw [psent_tri c1 c] at h
        unfold ptri at h
        split at h
        · cases h
        · rename_i hn
          have hl := openAt_lt s a ha
          cases h0 : ntri (s.extract a (a + (openAt s a).toNat)) with
          | none => rw [h0] at h; cases h
          | some t =>
            rw [h0] at h
            simp only at h
            cases hq : ptwo (pset (s.size + 1) s) [44] 41 s (a + (openAt s a).toNat + 1) with
            | none => rw [hq] at h; cases h
            | some r =>
              obtain ⟨r1, r2⟩ := r
              obtain ⟨x, y, a1, a3, h1, h2, h3, h4, h5, h6⟩ := ptwo_44 hq
              have k1 : a + (openAt s a).toNat + 1 ≤ s.size := by omega
              have p1 := pset_place s _ _ _ _ k1 h1
              have p2 := nxt_le s a1 p1.2
              subst h5
              rw [hq] at h
              simp only at h
              injection h with h
              injection h with h h'
              subst h
              exact ⟨pset_leafs s _ _ _ _ k1 h1, pset_leafs s _ _ _ _ p2.2 h2⟩
theorem leafs_at {s : ByteArray} : ∀ {p : PT}, Leafs s p → ∀ x ∈ plcs p, 0 ≤ x ∧ x < (s.size : Int) ∧ 97 ≤ bt s x ∧ bt s x ≤ 100
  | .leaf c i, h, x, hx => by
    simp only [plcs, List.mem_singleton] at hx
    subst hx
    obtain ⟨h1, h2, h3, h4⟩ := h
    exact ⟨by omega, by omega, by omega, by omega⟩
  | .one _ p, h, x, hx => leafs_at (p := p) h x hx
  | .two _ p q, h, x, hx => by
    simp only [plcs, List.mem_append] at hx
    exact hx.elim (fun hx => leafs_at h.1 x hx) (fun hx => leafs_at h.2 x hx)
  | .tri _ p q, h, x, hx => by
    simp only [plcs, List.mem_append] at hx
    exact hx.elim (fun hx => leafs_at h.1 x hx) (fun hx => leafs_at h.2 x hx)
theorem top_leafs {s : ByteArray} {p : PT} (h : pread s = some p) : Leafs s p := psent_leafs s _ 0 p _ (by omega) (psent_top h).2.2.2
theorem rd_mem {l : List Int} {i : Int} (h0 : 0 ≤ i) (h1 : i < (l.length : Int)) : rd l i ∈ l := by
  unfold rd
  rw [List.getD_eq_getElem?_getD, List.getElem?_eq_getElem (by omega)]
  exact List.getElem_mem _
def impl_LetterAt.f (a0 : ByteArray) (a1 : Int) : Option (Int) := some (match pread a0 with | none => -1 | some p => if 0 ≤ a1 ∧ a1 < (lvs p : Int) then bt a0 (rd (plcs p) a1) - 97 else -1)
set_option maxHeartbeats 8000000 in
set_option maxRecDepth 100000 in
theorem impl_LetterAt.calls (a0 : ByteArray) (a1 : Int) (r : Int) (w : World) (h : impl_LetterAt.f a0 a1 = some r) :
    Calls Try.prog 16 #[.string a0, .int .i64 a1] w fun e w' => e = .returned (.int .i64 r) ∧ Below w.heap.size w w' := by
  unfold impl_LetterAt.f at h
  have HS := impl_readSentence.calls a0 w
  cases hp : pread a0 with
  | none =>
    rw [hp] at HS h
    obtain rfl := Option.some.inj h
    replace HS := Aside0.mk HS
    clear hp h
    go_enter Try.func16, Try.ntmps16
    go_wp2_with (go_at_call 33; (with_reducible refine HS.out.mono ?_); rintro e w2 ⟨hb, rfl⟩)
    go_ret
    exact ⟨by first | rfl | (simp; done), hb⟩
  | some p =>
    rw [hp] at HS h
    simp only at h
    obtain ⟨hs, hl, h80, _⟩ := psent_top hp
    have hlf := leafs_at (top_leafs hp)
    have hlen := plcs_len p
    replace HS := Aside0.mk HS
    have HM := Aside0.mk (fun b wx ht => impl_part_places.calls w.heap.size p b wx ht (by omega))
    by_cases c : 0 ≤ a1 ∧ a1 < (lvs p : Int)
    · rw [if_pos c] at h
      have hx := hlf (rd (plcs p) a1) (rd_mem c.1 (by omega))
      obtain ⟨X, hX⟩ : ∃ X, rd (plcs p) a1 = X := ⟨_, rfl⟩
      rw [hX] at hx h
      obtain ⟨x, rfl⟩ : ∃ x : Nat, X = (x : Int) := ⟨X.toNat, by omega⟩
      have hx5 := bt_nat a0 x
      obtain ⟨Z, hZ⟩ : ∃ Z, bt a0 (x : Int) = Z := ⟨_, rfl⟩
      rw [hZ] at hx hx5 h
      have HE : Aside0 (Z - 97 = r) := ⟨Option.some.inj h⟩
      have f0 : 0 ≤ a1 := c.1
      have f1 : a1 < ((plcs p).length : Int) := by omega
      have f2 : decide (a1 < 0) = false := decide_eq_false (by omega)
      have f3 : decide (((plcs p).length : Int) ≤ a1) = false := decide_eq_false (by omega)
      have f4 : 0 ≤ (x : Int) := by omega
      have f5 : (x : Int) < (a0.size : Int) := by omega
      have HX := Aside0.mk hX
      have F1 := Aside0.mk (And.intro f0 f1)
      have E1 : Aside0 ((Z - 97) % 256 = Z - 97) := ⟨by omega⟩
      have E2 : Aside0 (IntKind.u8.wrap (Z - 97) = Z - 97) := ⟨by rw [IntKind.wrap_u8]; omega⟩
      have E3 : Aside0 (wrap64 (Z - 97) = Z - 97) := ⟨by unfold wrap64; omega⟩
      clear hp h hs hl h80 hlf hlen c hx hX hZ
      have e1 := E1.out
      have e2 := E2.out
      have e3 := E3.out
      go_enter Try.func16, Try.ntmps16
      go_wp2_with (first | (go_at_call 33; (with_reducible refine HS.out.mono ?_); rintro e w2 ⟨hb, b, rfl, ht⟩; have HT := Aside0.mk ht; have HB := Aside0.mk hb; clear ht hb) | (go_at_call 36; (with_reducible refine (HM.out _ _ HT.out).mono ?_); rintro e w3 ⟨v3, rfl, hr3, hb3⟩; obtain ⟨A3, c3, e3⟩ := Kd.R_slice hr3; subst e3; obtain ⟨ad, hA, hcell⟩ := Kd.at_int (Kd.R_reads' hr3).2.2 a1 F1.out.1 F1.out.2; subst hA; rw [HX.out] at hcell; have HB3 := Aside0.mk (below_step HB.out hb3); clear hr3 hb3))
      go_ret
      exact ⟨int_ret HE.out, HB3.out⟩
    · rw [if_neg c] at h
      have HE : Aside0 (-1 = r) := ⟨Option.some.inj h⟩
      by_cases c0 : a1 < 0
      · have f2 : decide (a1 < 0) = true := decide_eq_true c0
        clear hp h hs hl h80 hlf hlen c c0
        go_enter Try.func16, Try.ntmps16
        go_wp2_with (first | (go_at_call 33; (with_reducible refine HS.out.mono ?_); rintro e w2 ⟨hb, b, rfl, ht⟩; have HT := Aside0.mk ht; have HB := Aside0.mk hb; clear ht hb) | (go_at_call 36; (with_reducible refine (HM.out _ _ HT.out).mono ?_); rintro e w3 ⟨v3, rfl, hr3, hb3⟩; obtain ⟨A3, c3, e3⟩ := Kd.R_slice hr3; subst e3; have HB3 := Aside0.mk (below_step HB.out hb3); clear hr3 hb3))
        go_ret
        exact ⟨int_ret HE.out, HB3.out⟩
      · have f2 : decide (a1 < 0) = false := decide_eq_false c0
        have f3 : decide (((plcs p).length : Int) ≤ a1) = true := decide_eq_true (by omega)
        clear hp h hs hl h80 hlf hlen c c0
        go_enter Try.func16, Try.ntmps16
        go_wp2_with (first | (go_at_call 33; (with_reducible refine HS.out.mono ?_); rintro e w2 ⟨hb, b, rfl, ht⟩; have HT := Aside0.mk ht; have HB := Aside0.mk hb; clear ht hb) | (go_at_call 36; (with_reducible refine (HM.out _ _ HT.out).mono ?_); rintro e w3 ⟨v3, rfl, hr3, hb3⟩; obtain ⟨A3, c3, e3⟩ := Kd.R_slice hr3; subst e3; have HB3 := Aside0.mk (below_step HB.out hb3); clear hr3 hb3))
        go_ret
        exact ⟨int_ret HE.out, HB3.out⟩

/-! ### laws_FnExactLetterAt: function 4 -/
def laws_FnExactLetterAt.f (k : Nat) (a0 : ByteArray) (a1 : Int) : Option (Bool) := if (a0.size : Int) > 1048576 then (some true) else ((spec_LetterAt.f k a0 a1).bind fun t231 => ((impl_LetterAt.f a0 a1).bind fun t232 => (if t232 = t231 then (some true) else (some false))))
theorem laws_FnExactLetterAt.mono : ∀ a0 a1 k, LeO (laws_FnExactLetterAt.f k a0 a1) (laws_FnExactLetterAt.f (k + 1) a0 a1) := by
  intro a0 a1 k
  unfold laws_FnExactLetterAt.f
  repeat' first
      | (with_reducible exact spec_LetterAt.mono _ _ _)
      | (with_reducible exact LeO.refl _)
      | (with_reducible exact LeO.none _)
      | (with_reducible refine LeO.ite ?_ ?_)
      | (with_reducible refine LeO.bind ?_ (fun _ => ?_))
      | exact spec_LetterAt.mono _ _ _
      | exact LeO.none _
      | refine LeO.ite ?_ ?_
      | refine LeO.bind ?_ (fun _ => ?_)
set_option maxHeartbeats 8000000 in
set_option maxRecDepth 100000 in
theorem laws_FnExactLetterAt.calls (k : Nat) (a0 : ByteArray) (a1 : Int) (r : Bool) (w : World) (h : laws_FnExactLetterAt.f k a0 a1 = some r) :
    Calls Try.prog 4 #[.string a0, .int .i64 a1] w fun e w' => e = .returned (.bool r) ∧ Below w.heap.size w w' := by
  have HB := Aside0.mk (Below.refl w.heap.size w)
  have H : (if (a0.size : Int) > 1048576 then (some true) else ((spec_LetterAt.f k a0 a1).bind fun t231 => ((impl_LetterAt.f a0 a1).bind fun t232 => (if t232 = t231 then (some true) else (some false))))) = some r := h
  clear h
  by_cases c3 : (a0.size : Int) > 1048576
  · rw [if_pos c3] at H
    have c3b0 : decide (1048576 < (a0.size : Int)) = true := decide_eq_true c3
    have c3b1 : decide (1048576 < a0.size) = true := decide_eq_true (by omega)
    clear c3
    obtain rfl := Option.some.inj H
    go_enter Try.func4, Try.ntmps4
    go_wp2
    go_ret
    exact ⟨by first | rfl | (simp [errW_none, errW_some] <;> rfl) | (simp [*, errW_none, errW_some] <;> rfl), by repeat (first | (with_reducible first | exact HB.out | apply below_alloc | apply pw_below_drewN | apply below_drew1) | exact HB.out)⟩
  · rw [if_neg c3] at H
    have c3b0 : decide (1048576 < (a0.size : Int)) = false := decide_eq_false c3
    have c3b1 : decide (1048576 < a0.size) = false := decide_eq_false (by omega)
    clear c3
    replace H := Option.bind_eq_some_iff.mp H
    obtain ⟨t231, A40, H⟩ := H
    replace H : ((impl_LetterAt.f a0 a1).bind fun t232 => (if t232 = t231 then (some true) else (some false))) = some r := H
    have A4 := Aside0.mk A40
    clear A40
    replace H := Option.bind_eq_some_iff.mp H
    obtain ⟨t232, A50, H⟩ := H
    replace H : (if t232 = t231 then (some true) else (some false)) = some r := H
    have A5 := Aside0.mk A50
    clear A50
    by_cases c6 : t232 = t231
    · rw [if_pos c6] at H
      have c6b0 : (t232 == t231) = true := beq_iff_eq.mpr c6
      have c6b1 : (t232 != t231) = false := bne_eq_false_iff_eq.mpr c6
      clear c6
      obtain rfl := Option.some.inj H
      go_enter Try.func4, Try.ntmps4
      go_wp2_with (first | ((with_reducible refine gate_callee (f := 15) rfl ?_); refine goesL_ (some 12) rfl rfl Try.func15 (by kernel_rfl) rfl #[.string a0, .int .i64 a1] rfl (by (try simp only [List.map_toArray, List.map_cons, List.map_nil]); first | done | rfl | (simp only [List.length_drop, List.length_take]; rfl)) ?_; (with_reducible refine (spec_LetterAt.calls k a0 a1 t231 _ A4.out).mono ?_); rintro e w7 ⟨rfl, hb⟩; refine ⟨_, rfl, ?_⟩; have n0_ := Aside0.mk (below_step (by repeat (first | (with_reducible first | exact HB.out | apply below_alloc | apply pw_below_drewN | apply below_drew1) | exact HB.out)) hb); clear HB; have HB := n0_; clear n0_; (try clear hb); (try clear hb2); (try clear hk); (try clear hi)) | ((with_reducible refine gate_callee (f := 16) rfl ?_); refine goesL_ (some 15) rfl rfl Try.func16 (by kernel_rfl) rfl #[.string a0, .int .i64 a1] rfl (by (try simp only [List.map_toArray, List.map_cons, List.map_nil]); first | done | rfl | (simp only [List.length_drop, List.length_take]; rfl)) ?_; (with_reducible refine (impl_LetterAt.calls a0 a1 t232 _ A5.out).mono ?_); rintro e w8 ⟨rfl, hb⟩; refine ⟨_, rfl, ?_⟩; have n0_ := Aside0.mk (below_step (by repeat (first | (with_reducible first | exact HB.out | apply below_alloc | apply pw_below_drewN | apply below_drew1) | exact HB.out)) hb); clear HB; have HB := n0_; clear n0_; (try clear hb); (try clear hb2); (try clear hk); (try clear hi)))
      go_ret
      exact ⟨by first | rfl | (simp [errW_none, errW_some] <;> rfl) | (simp [*, errW_none, errW_some] <;> rfl), by repeat (first | (with_reducible first | exact HB.out | apply below_alloc | apply pw_below_drewN | apply below_drew1) | exact HB.out)⟩
    · rw [if_neg c6] at H
      have c6b0 : (t232 == t231) = false := beq_eq_false_iff_ne.mpr c6
      have c6b1 : (t232 != t231) = true := bne_iff_ne.mpr c6
      obtain rfl := Option.some.inj H
      go_enter Try.func4, Try.ntmps4
      go_wp2_with (first | ((with_reducible refine gate_callee (f := 15) rfl ?_); refine goesL_ (some 12) rfl rfl Try.func15 (by kernel_rfl) rfl #[.string a0, .int .i64 a1] rfl (by (try simp only [List.map_toArray, List.map_cons, List.map_nil]); first | done | rfl | (simp only [List.length_drop, List.length_take]; rfl)) ?_; (with_reducible refine (spec_LetterAt.calls k a0 a1 t231 _ A4.out).mono ?_); rintro e w9 ⟨rfl, hb⟩; refine ⟨_, rfl, ?_⟩; have n0_ := Aside0.mk (below_step (by repeat (first | (with_reducible first | exact HB.out | apply below_alloc | apply pw_below_drewN | apply below_drew1) | exact HB.out)) hb); clear HB; have HB := n0_; clear n0_; (try clear hb); (try clear hb2); (try clear hk); (try clear hi)) | ((with_reducible refine gate_callee (f := 16) rfl ?_); refine goesL_ (some 15) rfl rfl Try.func16 (by kernel_rfl) rfl #[.string a0, .int .i64 a1] rfl (by (try simp only [List.map_toArray, List.map_cons, List.map_nil]); first | done | rfl | (simp only [List.length_drop, List.length_take]; rfl)) ?_; (with_reducible refine (impl_LetterAt.calls a0 a1 t232 _ A5.out).mono ?_); rintro e w10 ⟨rfl, hb⟩; refine ⟨_, rfl, ?_⟩; have n0_ := Aside0.mk (below_step (by repeat (first | (with_reducible first | exact HB.out | apply below_alloc | apply pw_below_drewN | apply below_drew1) | exact HB.out)) hb); clear HB; have HB := n0_; clear n0_; (try clear hb); (try clear hb2); (try clear hk); (try clear hi)))
      go_ret
      exact ⟨by first | rfl | (simp [errW_none, errW_some] <;> rfl) | (simp [*, errW_none, errW_some] <;> rfl), by repeat (first | (with_reducible first | exact HB.out | apply below_alloc | apply pw_below_drewN | apply below_drew1) | exact HB.out)⟩

/-- THE ONE PURE STATEMENT of laws_FnExactLetterAt: yours. -/
def laws_FnExactLetterAt.Pure : Prop := ∀ (a0 : ByteArray) (a1 : Int), a0.size ≤ 140737488351232 → (Lit.int .i64 a1).wf = true → ∃ k, laws_FnExactLetterAt.f k a0 a1 = some true
theorem laws_FnExactLetterAt.walk (P : laws_FnExactLetterAt.Pure) (a0 : ByteArray) (a1 : Int) (w : World) (w0 : a0.size ≤ 140737488351232) (w1 : (Lit.int .i64 a1).wf = true) :
    Calls Try.prog 4 #[.string a0, .int .i64 a1] w fun e w' => e = .returned (.bool true) ∧ Below w.heap.size w w' := by
  obtain ⟨k, h⟩ := P a0 a1 w0 w1
  refine (laws_FnExactLetterAt.calls k a0 a1 true w h).mono ?_
  rintro e w' ⟨rfl, hd⟩
  exact ⟨rfl, hd⟩

end Go.Proofs.Ytfjfdnododnepaa.PFnExactLetterAt
