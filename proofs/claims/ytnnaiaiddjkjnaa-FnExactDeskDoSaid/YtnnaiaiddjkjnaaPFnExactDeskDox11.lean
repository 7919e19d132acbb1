-- Written by a program of this session (wip/patch_print.py, over the kit's print) and not by hand; Lean checks every word.
import Derived.Test.YtnnaiaiddjkjnaaPFnExactDeskDoxb
import Derived.Test.YtnnaiaiddjkjnaaPFnExactDeskDox0
import Derived.Shelf.RegionOpenPlain
import Derived.Lib.SliceRun
namespace Go.Proofs.Ytnnaiaiddjkjnaa.PFnExactDeskDo
open Go.RowKit Go.Proofs.YtnnaiaiddjkjnaaW.PrintWords Go.Proofs.YtnnaiaiddjkjnaaW.PrintLast Go.Proofs.YtnnaiaiddjkjnaaW.PrintMore
attribute [local go_sem] max2_int min2_int max_two min_two max_three min_three max_four min_four   -- for this text's walks alone
set_option linter.unusedVariables false
set_option linter.unusedSimpArgs false

/-! ### impl_Say_87: function 87 -/
def impl_Say_87.f (l0 : List (S25)) (a1 : Int) (a2 : Int) : Option (List (S25)) := if 0 ≤ a1 ∧ a1 < l0.length ∧ a2 = a1 + 1 then some (l0.eraseIdx a1.toNat) else none
theorem impl_Say_87.beyond {α : Type} {d : Kd α} {e : Nat} {W : World} {base : Nat} {ok : Nat → Prop} {g n cap : Nat} {xs : List α} (h : d.R e W base ok (.slice (some ⟨g, 0, none⟩) n cap) xs) (o : Nat) (seg : List Value) (hlo : n * d.sz ≤ o) (hhi : o + seg.length ≤ cap * d.sz) :
    d.R e (W.setCells g o seg) base ok (.slice (some ⟨g, 0, none⟩) n cap) xs ∧ W.grownBy (W.setCells g o seg) (some g) ∧ (∀ j, j < seg.length → (W.cell? ⟨g, o + j, none⟩).isSome = true ∧ W.frozen? ⟨g, o + j, none⟩ = false) := by
  obtain ⟨hn, hnc, _⟩ := Kd.R_reads' h; obtain ⟨hok, inner, ho, hr⟩ := h; obtain ⟨ho1, ho2⟩ := ho; rcases ho2 with ⟨hv, _⟩ | ⟨g', cap', cur, hv, hb, hh, hnc', hcm, hcs, ht⟩
  · cases hv
  injection hv with ha _ hc; injection ha with ha; injection ha with hg; subst hg; subst hc; obtain ⟨cur', h3, h4, h5⟩ := setCells_row seg o W cur hh (by omega); obtain ⟨s1, s2, s3, s4⟩ := setCells_same g seg o W; (have hfar : ∀ k, k ≠ g → (W.setCells g o seg).heap[k]? = W.heap[k]? := fun k hk => setCells_far seg _ k hk); refine ⟨⟨hok, inner, ⟨ho1, .inr ⟨g, cap, cur', by rw [hn], hb, h3, hnc', hcm, by rw [h4, hcs], ?_⟩⟩, hr.imp_ (fun p c hp => d.M_move (fun k hk => hfar k (fun he => hk.2 (by rw [he]; simp [Value.ownBlock]))) hp)⟩, ⟨s1, s2, s3, by rw [s4]; exact Nat.le_refl _, fun k _ hk => hfar k (fun he => hk (by rw [he]))⟩, fun j hj => ?_⟩
  · (have hlo' : xs.length * d.sz ≤ o := by rw [← hn]; exact hlo); have hco : o ≤ cur.toList.length := by rw [Array.length_toList, hcs]; omega
    have h6 : (cur'.toList).take (xs.length * d.sz) = inner := by
      rw [← ht, h5, List.append_assoc, List.take_append_of_le_length (by rw [List.length_take]; exact Nat.le_min.2 ⟨hlo', Nat.le_trans hlo' hco⟩), List.take_take, Nat.min_eq_left hlo']
    exact h6
  · refine ⟨?_, blk_frozen hh _⟩; rw [cell_of_row W g _ cur e (0, 0) hh, Array.getElem?_eq_getElem (by omega)]; rfl
theorem impl_Say_87.clear1 (W : World) (ty g o c : Nat) (hs : ∀ j, j < 3 → (W.cell? ⟨g, o + j, none⟩).isSome = true ∧ W.frozen? ⟨g, o + j, none⟩ = false) (n : Nat) (hn : n = 1) :
    (Builtin.clear_ #[38] ty #[.slice (some ⟨g, o, none⟩) n c]).run Try.prog W = .ok (.tuple #[]) (W.setCells g o [.int .i64 0, .int .i64 0, .int .i64 0]) := by
  subst hn; have hst := run_storeCells_cells (P := Try.prog) g o [.int .i64 0, .int .i64 0, .int .i64 0] 0 W (fun j hj => (hs j hj).1) (fun j hj => (hs j hj).2) (by intro v hv; simp at hv; rw [hv]; rfl); simp only [Nat.add_zero] at hst; (have hz : ∀ w, (zeroValue 25).run Try.prog w = .ok (.agg #[.int .i64 0, .int .i64 0, .int .i64 0]) w := fun w => by kernel_rfl); (have hc : (Builtin.zeroCells (Value.agg #[.int .i64 0, .int .i64 0, .int .i64 0]).cells 1).toList = [.int .i64 0, .int .i64 0, .int .i64 0] := by kernel_rfl); simp [Builtin.clear_, run_underlying Try.underlying38, hz, hc, hst]
set_option maxHeartbeats 4000000 in
set_option maxRecDepth 100000 in
theorem impl_Say_87.del0 (P0_ : Nat → Prop) (l0 : List S25) (i : Nat) (g cp : Nat) (w0 w : World) (hi : i < l0.length) (hl : l0.length ≤ cp) (hm : cp ≤ 9223372036854775807) (hB : Below w0.heap.size w0 w) (ho0 : Kd.R k25 25 w w0.heap.size P0_ (.slice (some ⟨g, 0, none⟩) l0.length cp) l0) :
    Calls Try.prog 87 #[.slice (some ⟨g, 0, none⟩) l0.length cp, .int .i64 (i : Int), .int .i64 ((i : Int) + 1)] w fun e w' => ∃ v0_ : Value, e = .returned v0_ ∧ Kd.R k25 25 w' w0.heap.size (fun k_ => (P0_ k_ ∨ w.heap.size ≤ k_)) v0_ (l0.eraseIdx i) ∧ Below w0.heap.size w0 w' ∧ Kept w w' (fun k_ => P0_ k_) := by
  (have hne : ((i : Int) == (i : Int) + 1) = false := by rw [beq_eq_false_iff_ne]; omega); (have h1 : (0 : Int) ≤ (i : Int) := by omega); (have h2 : (i : Int) ≤ (i : Int) + 1 := by omega); (have h3 : (i : Int) + 1 ≤ (l0.length : Int) := by omega); (have h4 : (l0.length : Int) ≤ (cp : Int) := by omega); (have h5 : (0 : Int) ≤ (i : Int) + 1 := by omega); (have h6 : (i : Int) ≤ (l0.length : Int) := by omega); (have h7 : (i : Int) + 1 ≤ (cp : Int) := by omega); (have h8 : (i : Int) ≤ (cp : Int) := by omega); have hP : P0_ g := ho0.1 g rfl
  have hgb : w0.heap.size ≤ g := by
    obtain ⟨_, inner, ⟨_, ho2⟩, _⟩ := ho0; rcases ho2 with ⟨hv, _⟩ | ⟨g', cap', cur, hv, hb, _⟩
    · cases hv
    · injection hv with ha _ _; injection ha with ha; injection ha with hg; rw [hg]; exact hb
  go_enter Try.func87, Try.ntmps87; have HO := Aside0.mk ho0; have HB := Aside0.mk hB; (have mixed : Try.prog.follows Departure.mixedOrders = true := by kernel_rfl); obtain ⟨i0_, hi0_, _, hsz_, _⟩ := info_parts info25; have hcutA := cut_to (P := Try.prog) 38 25 .i64 Try.underlying38 hi0_ (some ⟨g, 0, none⟩) l0.length cp (i : Int) h1 h6 hl; have hcutB := cut_from (P := Try.prog) 38 25 .i64 Try.underlying38 hi0_ 3 hsz_ (some ⟨g, 0, none⟩) l0.length cp ((i : Int) + 1) h5 h3; rw [Int.toNat_natCast] at hcutA; (have e1 : ((i : Int) + 1).toNat = i + 1 := by omega); rw [e1] at hcutB; obtain ⟨A_, hA_⟩ : ∃ A_, (if cp = i + 1 then (some ⟨g, 0, none⟩ : Option Addr) else (some (⟨g, 0, none⟩ : Addr)).map (·.add ((i + 1) * 3))) = A_ := ⟨_, rfl⟩; rw [hA_] at hcutB; clear ho0 hB; go_upto_region 5 with fail; go_region_law_o (refine Kd.R_delete_step k25 (w0 := w0) w0.heap.size (by rfl) (.tmp 22) (.tmp 25) 38 25 rfl Try.underlying38 (by kernel_rfl) (g := g) (n := l0.length) (c := cp) (k := i) rfl rfl hA_.symm rfl (Kd.R_drew HO.out) (by omega) (below_drew1 HB.out) (HB.out.size) ?_; intro w1 ho1 hb1 hg1); have hZ := impl_Say_87.beyond ho1 ((l0.length - 1) * 3) [.int .i64 0, .int .i64 0, .int .i64 0] (Nat.le_refl _) (by show (l0.length - 1) * 3 + 3 ≤ cp * 3; omega); (have hcl := fun ty => impl_Say_87.clear1 w1 ty g ((l0.length - 1) * 3) (cp - (l0.length - 1)) (fun j hj => hZ.2.2 j hj) (l0.length - (l0.length - 1)) (by omega)); have HZ := Aside0.mk hZ; have HB1 := Aside0.mk hb1; have HG1 := Aside0.mk hg1; clear hZ hb1 hg1 ho1; go_wp2; go_ret; refine ⟨_, rfl, Kd.R_mono HZ.out.1 (fun k_ hk => .inl hk), HB1.out.grown HZ.out.2.1 HB1.out.size (fun k hk => by injection hk with hk; rw [← hk]; exact hgb), ?_⟩; exact Kept.of_grown HZ.out.2.1 (Kept.of_grown HG1.out (Kept.drew (Kept.refl w _)) (fun k hk => by injection hk with hk; exact .inl (hk ▸ hP))) (fun k hk => by injection hk with hk; exact .inl (hk ▸ hP))
theorem impl_Say_87.calls (P0_ : Nat → Prop) (u9000_ : Value) (l0 : List (S25)) (a1 : Int) (a2 : Int) (r : List (S25)) (w0 w : World) (hB : Below w0.heap.size w0 w) (ho0 : Kd.R k25 25 w w0.heap.size P0_ u9000_ l0) (h : impl_Say_87.f l0 a1 a2 = some r) :
    Calls Try.prog 87 #[u9000_, .int .i64 a1, .int .i64 a2] w fun e w' => ∃ v0_ : Value, e = .returned v0_ ∧ Kd.R k25 25 w' w0.heap.size (fun k_ => (P0_ k_ ∨ w.heap.size ≤ k_)) v0_ r ∧ Below w0.heap.size w0 w' ∧ Kept w w' (fun k_ => P0_ k_) := by
  unfold impl_Say_87.f at h; split at h; (case isFalse => cases h); rename_i hc; obtain ⟨c1, c2, rfl⟩ := hc; injection h with h; subst h; obtain ⟨i, rfl⟩ : ∃ i : Nat, a1 = (i : Int) := ⟨a1.toNat, by omega⟩; (have hi : i < l0.length := by omega); obtain ⟨hok, inner, ⟨hl1, ho2⟩, hR⟩ := ho0; rcases ho2 with ⟨_, hnil⟩ | ⟨g, cp, cur, rfl, hb, hh, hnc, hcm, hcs, ht⟩
  · (have hz : l0.length = 0 := by first | exact hnil.1 | exact hnil | (simp_all)); omega
  · exact impl_Say_87.del0 P0_ l0 i g cp w0 w hi hnc hcm hB ⟨hok, inner, ⟨hl1, .inr ⟨g, cp, cur, rfl, hb, hh, hnc, hcm, hcs, ht⟩⟩, hR⟩

end Go.Proofs.Ytnnaiaiddjkjnaa.PFnExactDeskDo
