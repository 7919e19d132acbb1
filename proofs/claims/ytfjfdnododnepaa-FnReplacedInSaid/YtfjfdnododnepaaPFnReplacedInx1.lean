-- Written by a program of this session (wip/patch_print.py, over the kit's print) and not by hand; Lean checks every word.
import Derived.Test.YtfjfdnododnepaaPFnReplacedInxb
import Derived.Test.YtfjfdnododnepaaPFnReplacedInx0
import Derived.Lib.Bytealg
namespace Go.Proofs.Ytfjfdnododnepaa.PFnReplacedIn
open Go.RowKit Go.Proofs.YtfjfdnododnepaaW.PrintWords Go.Proofs.YtfjfdnododnepaaW.PrintLast Go.Proofs.YtfjfdnododnepaaW.PrintMore
attribute [local go_sem] max2_int min2_int max_two min_two max_three min_three max_four min_four   -- for this text's walks alone
set_option linter.unusedVariables false
set_option linter.unusedSimpArgs false

/-! ### impl_sentenceReader_next: function 70 -/
inductive PT where
  | leaf (c : Int) (i : Nat)
  | one (c : Int) (p : PT)
  | two (c : Int) (p q : PT)
  | tri (t : List Int) (p q : PT)
def RD (g : Nat) (s : ByteArray) (a : Nat) (w : World) : Prop := w.heap[g]? = some (.cells #[.string s, .int .i64 (a : Int)] 68 (0, 0))
def Fr (g : Nat) (w w' : World) : Prop := Below g w w' ∧ KeepBut w w' g none
theorem Fr.refl (g : Nat) (w : World) : Fr g w w := ⟨Below.refl g w, KeepBut.refl w g none⟩
theorem Fr.trans {g : Nat} {a b c : World} (h : Fr g a b) (k : Fr g b c) : Fr g a c := ⟨h.1.trans k.1, h.2.trans k.2 (.inl rfl)⟩
theorem Fr.drewN {g : Nat} {w w' : World} (h : Fr g w w') (n : Nat) : Fr g w (w'.drewN n) := ⟨pw_below_drewN h.1 n, keep_drewN h.2 n⟩
theorem Fr.drew {g : Nat} {w w' : World} (h : Fr g w w') : Fr g w w'.drew := ⟨below_drew1 h.1, keep_drew h.2⟩
theorem Fr.alloc {g : Nat} {w w' : World} (h : Fr g w w') (hg : g ≤ w.heap.size) (o : Obj) : Fr g w (w'.alloc o) := ⟨h.1.alloc (Nat.le_trans hg h.1.size) o, keep_alloc h.2 o⟩
theorem Fr.set {g : Nat} {w w' : World} (h : Fr g w w') (j : Nat) (u : Value) : Fr g w (w'.setCell ⟨g, j, none⟩ u) := ⟨h.1.setCell (Nat.le_refl _) u, h.2.set_ j u⟩
theorem Fr.below {g : Nat} {w w' w1 : World} (h : Fr g w w') (hg : g ≤ w.heap.size) (hb : Below w'.heap.size w' w1) : Fr g w w1 := ⟨h.1.trans (hb.mono (Nat.le_trans hg h.1.size)), h.2.trans (KeepBut.of_below hb g none) (.inl rfl)⟩
theorem Fr.size {g : Nat} {w w' : World} (h : Fr g w w') : w.heap.size ≤ w'.heap.size := h.1.size
theorem RD.lt {g : Nat} {s : ByteArray} {a : Nat} {w : World} (h : RD g s a w) : g < w.heap.size := blk_lt h
theorem RD.c0 {g : Nat} {s : ByteArray} {a : Nat} {w : World} (h : RD g s a w) : w.cell? ⟨g, 0, none⟩ = some (.string s) := (blk_cell h 0).trans rfl
theorem RD.c1 {g : Nat} {s : ByteArray} {a : Nat} {w : World} (h : RD g s a w) : w.cell? ⟨g, 1, none⟩ = some (.int .i64 (a : Int)) := (blk_cell h 1).trans rfl
theorem RD.f1 {g : Nat} {s : ByteArray} {a : Nat} {w : World} (h : RD g s a w) : w.frozen? ⟨g, 1, none⟩ = false := blk_frozen h 1
theorem RD.drewN {g : Nat} {s : ByteArray} {a : Nat} {w : World} (h : RD g s a w) (n : Nat) : RD g s a (w.drewN n) := h
theorem RD.drew {g : Nat} {s : ByteArray} {a : Nat} {w : World} (h : RD g s a w) : RD g s a w.drew := h
theorem RD.alloc {g : Nat} {s : ByteArray} {a : Nat} {w : World} (h : RD g s a w) (o : Obj) : RD g s a (w.alloc o) := blk_alloc h o
theorem RD.set {g : Nat} {s : ByteArray} {a : Nat} {w : World} (h : RD g s a w) (v : Value) (b : Nat) (hv : v = .int .i64 (b : Int)) : RD g s b (w.setCell ⟨g, 1, none⟩ v) := by
  subst hv; exact blk_set h 1 _
theorem RD.below {g : Nat} {s : ByteArray} {a : Nat} {w w' : World} (h : RD g s a w) (hb : Below w.heap.size w w') : RD g s a w' := (hb.block g h.lt).trans h
def nxt (s : ByteArray) (a : Nat) : Int × Nat := if a < s.size then (bt s a, a + 1) else (0, a)
theorem nxt_lt {s : ByteArray} {a : Nat} (h : a < s.size) : nxt s a = (bt s a, a + 1) := if_pos h
theorem nxt_end {s : ByteArray} {a : Nat} (h : ¬ a < s.size) : nxt s a = (0, a) := if_neg h
theorem bt_nat (s : ByteArray) (a : Nat) : ∀ h : a < s.size, ((s[a]'h).toNat : Int) = bt s (a : Int) := fun h => by simp [bt, h]
theorem nxt_le (s : ByteArray) (a : Nat) (h : a ≤ s.size) : a ≤ (nxt s a).2 ∧ (nxt s a).2 ≤ s.size := by
  by_cases c : a < s.size
  · rw [nxt_lt c]; simp only; omega
  · rw [nxt_end c]; simp only; omega
theorem nxt_range (s : ByteArray) (a : Nat) : 0 ≤ (nxt s a).1 ∧ (nxt s a).1 ≤ 255 := by
  by_cases c : a < s.size
  · rw [nxt_lt c]; exact bt_range s a
  · rw [nxt_end c]; simp
theorem int_ret {a b : Int} (h : a = b) : Ending.returned (.int .i64 a) = .returned (.int .i64 b) := by rw [h]
theorem bool_ret {a b : Bool} (h : a = b) : Ending.returned (.bool a) = .returned (.bool b) := by rw [h]
set_option maxHeartbeats 8000000 in
set_option maxRecDepth 100000 in
theorem impl_sentenceReader_next.calls (g : Nat) (s : ByteArray) (a : Nat) (w : World) (hs : s.size ≤ 9223372036854775806) (ha : a ≤ s.size) (h : RD g s a w) :
    Calls Try.prog 70 #[.pointer (some ⟨g, 0, none⟩)] w fun e w' => e = .returned (.int .u8 (nxt s a).1) ∧ RD g s (nxt s a).2 w' ∧ Fr g w w' := by
  have H := Aside0.mk h
  have hc0 := h.c0
  have hc1 := h.c1
  have hf1 := h.f1
  clear h
  by_cases hlt : a < s.size
  · rw [nxt_lt hlt]
    have b0 : ((a : Int) == (s.size : Int)) = false := by rw [beq_eq_false_iff_ne]; omega
    have e1 : wrap64 ((a : Int) + 1) = (a : Int) + 1 := by unfold wrap64; omega
    have e1' : IntKind.i64.wrap ((a : Int) + 1) = (a : Int) + 1 := by rw [IntKind.wrap_i64]; omega
    have e2 : wrap64 ((a : Int) + 1 - 1) = (a : Int) := by unfold wrap64; omega
    have e2' : IntKind.i64.wrap ((a : Int) + 1 - 1) = (a : Int) := by rw [IntKind.wrap_i64]; omega
    have e3 : wrap64 (a : Int) = (a : Int) := by unfold wrap64; omega
    have e3' : IntKind.i64.wrap (a : Int) = (a : Int) := by rw [IntKind.wrap_i64]; omega
    have p5 : 0 ≤ (a : Int) := by omega
    have q5 : (a : Int) < (s.size : Int) := by omega
    have hx5 := bt_nat s a
    replace p5 := eq_true p5
    replace q5 := eq_true q5
    have HL := Aside0.mk hlt
    clear hlt ha hs
    go_enter Try.func70, Try.ntmps70
    go_wp2
    repeat (go_quiet (fail); try go_wp2)
    go_ret
    exact ⟨by first | rfl | (simp; done), by repeat (first | exact RD.set H.out _ (a + 1) (by first | rfl | simp) | apply RD.drewN | apply RD.drew | exact RD.set (RD.drewN H.out _) _ (a + 1) (by first | rfl | simp)), by repeat (first | exact Fr.refl g _ | apply Fr.drewN | apply Fr.drew | apply Fr.set)⟩
  · rw [nxt_end hlt]
    have b0 : ((a : Int) == (s.size : Int)) = true := by rw [beq_iff_eq]; omega
    clear hlt ha hs
    go_enter Try.func70, Try.ntmps70
    go_wp2
    repeat (go_quiet (fail); try go_wp2)
    go_ret
    exact ⟨by first | rfl | (simp; done), by repeat (first | exact H.out | apply RD.drewN | apply RD.drew), by repeat (first | exact Fr.refl g _ | apply Fr.drewN | apply Fr.drew)⟩

-- NOT PRINTED: function 99 (bytealg_IndexByteString)

/-! ### stringslite_IndexByte: function 85 -/
def stringslite_IndexByte.f (a0 : ByteArray) (a1 : Int) : Option (Int) := some (Lib.indexByte a0.data.toList a1.toNat.toUInt8)
set_option maxHeartbeats 8000000 in
set_option maxRecDepth 100000 in
theorem stringslite_IndexByte.calls (a0 : ByteArray) (a1 : Int) (r : Int) (w : World) (h : stringslite_IndexByte.f a0 a1 = some r) :
    Calls Try.prog 85 #[.string a0, .int .u8 a1] w fun e w' => e = .returned (.int .i64 r) ∧ Drawn0 w w' := by
  unfold stringslite_IndexByte.f at h
  obtain rfl := Option.some.inj h
  clear h
  go_enter Try.func85, Try.ntmps85
  go_wp2
  rw [run_callFunc_extern Try.func99 (by kernel_rfl) (by kernel_rfl) (by kernel_rfl) (e := Extern.BytealgIndexByte.indexByte) (by kernel_rfl), Lib.run_indexByteString]
  simp only [Result.andThen]
  rw [Oper.upon_value]
  go_wp2
  go_ret
  exact ⟨rfl, Drawn0.refl _⟩

/-! ### strings_IndexByte: function 72 -/
def strings_IndexByte.f (a0 : ByteArray) (a1 : Int) : Option (Int) := (stringslite_IndexByte.f a0 a1).bind fun t101 => (some t101)
set_option maxHeartbeats 8000000 in
set_option maxRecDepth 100000 in
theorem strings_IndexByte.calls (a0 : ByteArray) (a1 : Int) (r : Int) (w : World) (h : strings_IndexByte.f a0 a1 = some r) :
    Calls Try.prog 72 #[.string a0, .int .u8 a1] w fun e w' => e = .returned (.int .i64 r) ∧ Drawn0 w w' := by
  have H : ((stringslite_IndexByte.f a0 a1).bind fun t101 => (some t101)) = some r := h
  clear h
  replace H := Option.bind_eq_some_iff.mp H
  obtain ⟨t101, A30, H⟩ := H
  replace H : (some t101) = some r := H
  have A3 := Aside0.mk A30
  clear A30
  obtain rfl := Option.some.inj H
  go_enter Try.func72, Try.ntmps72
  go_wp2_with (first | ((with_reducible refine gate_callee (f := 85) rfl ?_); refine goesL_ (some 7) rfl rfl Try.func85 (by kernel_rfl) rfl #[.string a0, .int .u8 a1] rfl gf ?_; (with_reducible refine (stringslite_IndexByte.calls a0 a1 t101 _ A3.out).mono ?_); rintro e w' ⟨rfl, ⟨nd, rfl⟩⟩; refine ⟨_, rfl, ?_⟩))
  go_ret
  exact ⟨mr, by repeat (first | exact Drawn0.refl _ | apply Drawn0.step)⟩

/-! ### impl_sentenceReader_two: function 71 -/
def Tree (g : Nat) (w : World) : PT → Nat → Prop
  | .leaf c i, b => b ≠ g ∧ w.heap[b]? = some (.cells #[.int .u8 c, .slice none 0 0, .int .i64 (i : Int), .slice none 0 0] 72 (0, 0))
  | .one c p, b => b ≠ g ∧ ∃ q b1 : Nat, q < b ∧ q ≠ g ∧ b1 < b ∧ w.heap[b]? = some (.cells #[.int .u8 c, .slice none 0 0, .int .i64 0, .slice (some ⟨q, 0, none⟩) 1 1] 72 (0, 0)) ∧ w.heap[q]? = some (.cells #[.pointer (some ⟨b1, 0, none⟩)] 47 (0, 0)) ∧ Tree g w p b1
  | .two c x y, b => b ≠ g ∧ ∃ q b1 b2 : Nat, q < b ∧ q ≠ g ∧ b1 < b ∧ b2 < b ∧ w.heap[b]? = some (.cells #[.int .u8 c, .slice none 0 0, .int .i64 0, .slice (some ⟨q, 0, none⟩) 2 2] 72 (0, 0)) ∧ w.heap[q]? = some (.cells #[.pointer (some ⟨b1, 0, none⟩), .pointer (some ⟨b2, 0, none⟩)] 47 (0, 0)) ∧ Tree g w x b1 ∧ Tree g w y b2
  | .tri t x y, b => b ≠ g ∧ ∃ (q b1 b2 : Nat) (v : Value), q < b ∧ q ≠ g ∧ b1 < b ∧ b2 < b ∧ w.heap[b]? = some (.cells #[.int .u8 44, v, .int .i64 0, .slice (some ⟨q, 0, none⟩) 2 2] 72 (0, 0)) ∧ w.heap[q]? = some (.cells #[.pointer (some ⟨b1, 0, none⟩), .pointer (some ⟨b2, 0, none⟩)] 47 (0, 0)) ∧ Kd.R (Kd.int .i64) 3 w 0 (fun k => k < b ∧ k ≠ g) v t ∧ Tree g w x b1 ∧ Tree g w y b2
theorem Tree.move {g : Nat} {w w' : World} : ∀ {p : PT} {b : Nat}, Tree g w p b → (∀ k, k ≤ b → k ≠ g → w'.heap[k]? = w.heap[k]?) → Tree g w' p b
  | .leaf c i, b, h, k => ⟨h.1, (k b (Nat.le_refl _) h.1).trans h.2⟩
  | .one c p, b, h, k => by
    obtain ⟨h1, q, b1, h2, h3, h4, h5, h6, h7⟩ := h
    exact ⟨h1, q, b1, h2, h3, h4, (k b (Nat.le_refl _) h1).trans h5, (k q (Nat.le_of_lt h2) h3).trans h6, Tree.move h7 (fun j hj hg => k j (by omega) hg)⟩
  | .two c x y, b, h, k => by
    obtain ⟨h1, q, b1, b2, h2, h3, h4, h4', h5, h6, h7, h8⟩ := h
    exact ⟨h1, q, b1, b2, h2, h3, h4, h4', (k b (Nat.le_refl _) h1).trans h5, (k q (Nat.le_of_lt h2) h3).trans h6, Tree.move h7 (fun j hj hg => k j (by omega) hg), Tree.move h8 (fun j hj hg => k j (by omega) hg)⟩
  | .tri t x y, b, h, k => by
    obtain ⟨h1, q, b1, b2, v, h2, h3, h4, h4', h5, h6, hr, h7, h8⟩ := h
    exact ⟨h1, q, b1, b2, v, h2, h3, h4, h4', (k b (Nat.le_refl _) h1).trans h5, (k q (Nat.le_of_lt h2) h3).trans h6, Kd.R_step hr (fun j hj _ => k j (Nat.le_of_lt hj.1) hj.2), Tree.move h7 (fun j hj hg => k j (by omega) hg), Tree.move h8 (fun j hj hg => k j (by omega) hg)⟩
theorem Tree.lt {g : Nat} {w : World} {p : PT} {b : Nat} (h : Tree g w p b) : b < w.heap.size := by
  cases p with
  | leaf c i => exact blk_lt h.2
  | one c p => obtain ⟨h1, q, b1, h2, h3, h4, h5, _⟩ := h; exact blk_lt h5
  | two c x y => obtain ⟨h1, q, b1, b2, h2, h3, h4, h4', h5, _⟩ := h; exact blk_lt h5
  | tri t x y => obtain ⟨h1, q, b1, b2, v, h2, h3, h4, h4', h5, _⟩ := h; exact blk_lt h5
theorem Tree.cell1 {g : Nat} {w : World} {c : Int} {x y : PT} {b : Nat} (h : Tree g w (.two c x y) b) : w.cell? ⟨b, 1, none⟩ = some (.slice none 0 0) := by
  obtain ⟨h1, q, b1, b2, h2, h3, h4, h4', h5, _⟩ := h; exact (blk_cell h5 1).trans rfl
theorem Tree.free1 {g : Nat} {w : World} {c : Int} {x y : PT} {b : Nat} (h : Tree g w (.two c x y) b) : w.frozen? ⟨b, 1, none⟩ = false := by
  obtain ⟨h1, q, b1, b2, h2, h3, h4, h4', h5, _⟩ := h; exact blk_frozen h5 1
theorem Tree.fr {g : Nat} {w w' : World} {p : PT} {b : Nat} (h : Tree g w p b) (hf : Fr g w w') : Tree g w' p b :=
  h.move (fun k hk hg => hf.2.2 k (Nat.lt_of_le_of_lt hk h.lt) hg (by simp))
theorem Tree.same {g : Nat} {w w' : World} {p : PT} {b : Nat} (h : Tree g w p b) (hw : w'.heap = w.heap) : Tree g w' p b := h.move (fun _ _ _ => by rw [hw])
def PostP (g : Nat) (s : ByteArray) (w : World) (r : Option (PT × Nat)) (e : Ending) (w' : World) : Prop :=
  Fr g w w' ∧ match r with
  | none => e = .returned (.pointer none)
  | some (p, a) => ∃ b : Nat, e = .returned (.pointer (some ⟨b, 0, none⟩)) ∧ RD g s a w' ∧ Tree g w' p b ∧ w.heap.size ≤ b
theorem PostP.nil {g : Nat} {s : ByteArray} {w w' : World} (h : Fr g w w') : PostP g s w none (.returned (.pointer none)) w' := And.intro h rfl
theorem PostP.step {g : Nat} {s : ByteArray} {w w1 w' : World} {r : Option (PT × Nat)} {e : Ending} (hf : Fr g w w1) (h : PostP g s w1 r e w') : PostP g s w r e w' := by
  obtain ⟨h1, h2⟩ := h
  refine And.intro (hf.trans h1) ?_
  cases r with
  | none => exact h2
  | some r => obtain ⟨b, he, hr, ht, hl⟩ := h2; exact ⟨b, he, hr, ht, Nat.le_trans hf.size hl⟩
theorem PostP.leaf {g : Nat} {s : ByteArray} {w w' : World} {a : Nat} (c : Int) (i : Nat) (b : Nat) (v : Value) (hg : g < w.heap.size) (hf : Fr g w w') (hr : RD g s a w') (hb : b = w'.heap.size) (hv : v = .int .i64 (i : Int)) :
    PostP g s w (some (.leaf c i, a)) (.returned (.pointer (some ⟨b, 0, none⟩))) (w'.alloc (.cells #[.int .u8 c, .slice none 0 0, v, .slice none 0 0] 72)) := by
  subst hb; subst hv
  have h2 := hf.size
  exact And.intro (hf.alloc (Nat.le_of_lt hg) _) ⟨_, rfl, hr.alloc _, ⟨by omega, blk_new _ _⟩, h2⟩
theorem PostP.one {g : Nat} {s : ByteArray} {w w' : World} {a : Nat} {p : PT} {b1 : Nat} (c : Int) (b : Nat) (hg : g < w.heap.size) (hf : Fr g w w') (hr : RD g s a w') (ht : Tree g w' p b1) (hb : b = w'.heap.size + 1) :
    PostP g s w (some (.one c p, a)) (.returned (.pointer (some ⟨b, 0, none⟩))) ((w'.alloc (.cells #[.pointer (some ⟨b1, 0, none⟩)] 47)).alloc (.cells #[.int .u8 c, .slice none 0 0, .int .i64 0, .slice (some ⟨w'.heap.size, 0, none⟩) 1 1] 72)) := by
  have hs : (w'.alloc (.cells #[.pointer (some ⟨b1, 0, none⟩)] 47)).heap.size = w'.heap.size + 1 := by simp
  have hb' : b = (w'.alloc (.cells #[.pointer (some ⟨b1, 0, none⟩)] 47)).heap.size := hb.trans hs.symm
  subst hb'
  have h2 := hf.size
  have h3 := ht.lt
  have hf2 := (Fr.refl g w').alloc (Nat.le_trans (Nat.le_of_lt hg) h2) (.cells #[.pointer (some ⟨b1, 0, none⟩)] 47)
  refine And.intro ((hf.alloc (Nat.le_of_lt hg) _).alloc (Nat.le_of_lt hg) _) ⟨_, rfl, (hr.alloc _).alloc _, ⟨by omega, w'.heap.size, b1, by omega, by omega, by omega, blk_new _ _, blk_alloc (blk_new _ _) _, ?_⟩, by omega⟩
  exact (ht.fr hf2).fr ((Fr.refl g _).alloc (by omega) _)
theorem PostP.two {g : Nat} {s : ByteArray} {w w' : World} {a : Nat} {x y : PT} {b1 b2 : Nat} (c : Int) (b : Nat) (hg : g < w.heap.size) (hf : Fr g w w') (hr : RD g s a w') (hx : Tree g w' x b1) (hy : Tree g w' y b2) (hb : b = w'.heap.size + 1) :
    PostP g s w (some (.two c x y, a)) (.returned (.pointer (some ⟨b, 0, none⟩))) ((w'.alloc (.cells #[.pointer (some ⟨b1, 0, none⟩), .pointer (some ⟨b2, 0, none⟩)] 47)).alloc (.cells #[.int .u8 c, .slice none 0 0, .int .i64 0, .slice (some ⟨w'.heap.size, 0, none⟩) 2 2] 72)) := by
  have hs : (w'.alloc (.cells #[.pointer (some ⟨b1, 0, none⟩), .pointer (some ⟨b2, 0, none⟩)] 47)).heap.size = w'.heap.size + 1 := by simp
  have hb' : b = (w'.alloc (.cells #[.pointer (some ⟨b1, 0, none⟩), .pointer (some ⟨b2, 0, none⟩)] 47)).heap.size := hb.trans hs.symm
  subst hb'
  have h2 := hf.size
  have h3 := hx.lt
  have h4 := hy.lt
  have hf2 := (Fr.refl g w').alloc (Nat.le_trans (Nat.le_of_lt hg) h2) (.cells #[.pointer (some ⟨b1, 0, none⟩), .pointer (some ⟨b2, 0, none⟩)] 47)
  refine And.intro ((hf.alloc (Nat.le_of_lt hg) _).alloc (Nat.le_of_lt hg) _) ⟨_, rfl, (hr.alloc _).alloc _, ⟨by omega, w'.heap.size, b1, b2, by omega, by omega, by omega, by omega, blk_new _ _, blk_alloc (blk_new _ _) _, ?_, ?_⟩, by omega⟩
  · exact (hx.fr hf2).fr ((Fr.refl g _).alloc (by omega) _)
  · exact (hy.fr hf2).fr ((Fr.refl g _).alloc (by omega) _)
def ptwo (par : Nat → Option (PT × Nat)) (signs : List UInt8) (en : Int) (s : ByteArray) (a : Nat) : Option (PT × Nat) :=
  match par a with
  | none => none
  | some (x, a1) =>
    if Lib.indexByte signs (nxt s a1).1.toNat.toUInt8 < 0 then none
    else match par (nxt s a1).2 with
      | none => none
      | some (y, a3) => if (nxt s a3).1 = en then some (.two (nxt s a1).1 x y, (nxt s a3).2) else none
set_option maxHeartbeats 8000000 in
set_option maxRecDepth 100000 in
theorem impl_sentenceReader_two.calls (c : Nat) (hen : ∀ (args : Array Value) (wx : World), (callFunc c args).run Try.prog wx = .ok (.enter c args) wx) (g : Nat) (s : ByteArray) (hs : s.size ≤ 9223372036854775806) (par : Nat → Option (PT × Nat)) (signs : ByteArray) (en : Int) (n : Nat)
    (hpar : ∀ a p a', a ≤ s.size → par a = some (p, a') → a < a' ∧ a' ≤ s.size)
    (hR : ∀ (a : Nat) (wx : World), a ≤ s.size → s.size < a + n → RD g s a wx → Calls Try.prog c #[.pointer (some ⟨g, 0, none⟩)] wx (PostP g s wx (par a)))
    (a : Nat) (w : World) (ha : a ≤ s.size) (hn : s.size < a + n) (h : RD g s a w) :
    Calls Try.prog 71 #[.pointer (some ⟨g, 0, none⟩), .func (.func c) #[.pointer (some ⟨g, 0, none⟩)] #[], .string signs, .int .u8 en] w (PostP g s w (ptwo par signs.data.toList en s a)) := by
  have HG := Aside0.mk h.lt
  have HS0 := Aside0.mk h
  have HA := fun wx hx => hR a wx ha hn hx
  unfold ptwo
  clear h
  cases hp : par a with
  | none =>
    rw [hp] at HA
    replace HA := Aside0.mk HA
    clear hR hpar hp hs ha hn
    go_enter Try.func71, Try.ntmps71
    go_wp2_with (first | ((with_reducible refine (HA.out _ HS0.out).mono ?_); rintro e w1 ⟨hf, rfl⟩))
    go_ret
    exact PostP.nil hf
  | some r =>
    obtain ⟨x, a1⟩ := r
    rw [hp] at HA
    obtain ⟨ha0, ha1⟩ := hpar a x a1 ha hp
    have HN := fun wx hx => impl_sentenceReader_next.calls g s a1 wx hs ha1 hx
    have ha2 := nxt_le s a1 ha1
    have hz := nxt_range s a1
    have HI := fun wx => strings_IndexByte.calls signs (nxt s a1).1 _ wx (show strings_IndexByte.f signs (nxt s a1).1 = some (Lib.indexByte signs.data.toList (nxt s a1).1.toNat.toUInt8) from rfl)
    simp only
    obtain ⟨z, hz0⟩ : ∃ z, (nxt s a1).1 = z := ⟨_, rfl⟩
    obtain ⟨a2, hz2⟩ : ∃ a2, (nxt s a1).2 = a2 := ⟨_, rfl⟩
    rw [hz0] at HN HI hz ⊢
    rw [hz2] at HN ha2 ⊢
    by_cases ci : Lib.indexByte signs.data.toList z.toNat.toUInt8 < 0
    · rw [if_pos ci]
      have cib : decide (Lib.indexByte signs.data.toList z.toNat.toUInt8 < 0) = true := decide_eq_true ci
      replace HA := Aside0.mk HA
      replace HN := Aside0.mk HN
      replace HI := Aside0.mk HI
      clear hR hpar hp hs ha hn ha0 ha1 ha2 hz0 hz2 ci hz
      go_enter Try.func71, Try.ntmps71
      go_wp2_with (first | ((with_reducible refine (HA.out _ HS0.out).mono ?_); rintro e w1 ⟨hf1, b1, rfl, hs1, ht1, hl1⟩; have HS1 := Aside0.mk hs1; have HF1 := Aside0.mk hf1; clear hs1 hf1 ht1 hl1) | ((with_reducible refine (HN.out _ HS1.out).mono ?_); rintro e w2 ⟨rfl, hs2, hf2⟩; have HF2 := Aside0.mk hf2; clear hs2 hf2) | ((with_reducible refine (HI.out _).mono ?_); rintro e w3 ⟨rfl, ⟨nd, rfl⟩⟩))
      go_ret
      exact PostP.nil (by repeat (first | exact HF1.out.trans HF2.out | apply Fr.drewN))
    · rw [if_neg ci]
      have cib : decide (Lib.indexByte signs.data.toList z.toNat.toUInt8 < 0) = false := decide_eq_false ci
      have HB := fun wx hx => hR a2 wx ha2.2 (by omega) hx
      cases hq : par a2 with
      | none =>
        rw [hq] at HB
        replace HA := Aside0.mk HA
        replace HN := Aside0.mk HN
        replace HI := Aside0.mk HI
        replace HB := Aside0.mk HB
        clear hR hpar hp hq hs ha hn ha0 ha1 ha2 hz0 hz2 ci hz
        go_enter Try.func71, Try.ntmps71
        go_wp2_with (first | ((with_reducible refine (HA.out _ HS0.out).mono ?_); rintro e w1 ⟨hf1, b1, rfl, hs1, ht1, hl1⟩; have HS1 := Aside0.mk hs1; have HF1 := Aside0.mk hf1; clear hs1 hf1 ht1 hl1) | ((with_reducible refine (HN.out _ HS1.out).mono ?_); rintro e w2 ⟨rfl, hs2, hf2⟩; have HS2 := Aside0.mk hs2; have HF2 := Aside0.mk hf2; clear hs2 hf2) | ((with_reducible refine (HI.out _).mono ?_); rintro e w3 ⟨rfl, ⟨nd, rfl⟩⟩; have HS3 := Az (HS2.out.drewN nd); have HF3 := Az (HF2.out.drewN nd)) | ((with_reducible refine (HB.out _ HS3.out).mono ?_); rintro e w4 ⟨hf4, rfl⟩; have HF4 := Aside0.mk hf4; clear hf4))
        go_ret
        exact PostP.nil ((HF1.out.trans HF3.out).trans HF4.out)
      | some r =>
        obtain ⟨y, a3⟩ := r
        rw [hq] at HB
        obtain ⟨hb0, hb1⟩ := hpar a2 y a3 ha2.2 hq
        have HM := fun wx hx => impl_sentenceReader_next.calls g s a3 wx hs hb1 hx
        simp only
        obtain ⟨z4, hz4⟩ : ∃ z, (nxt s a3).1 = z := ⟨_, rfl⟩
        obtain ⟨a4, hz5⟩ : ∃ a2, (nxt s a3).2 = a2 := ⟨_, rfl⟩
        rw [hz4] at HM ⊢
        rw [hz5] at HM ⊢
        replace HA := Aside0.mk HA
        replace HN := Aside0.mk HN
        replace HI := Aside0.mk HI
        replace HB := Aside0.mk HB
        replace HM := Aside0.mk HM
        clear hR hpar hp hq hs ha hn ha0 ha1 ha2 hz0 hz2 ci hz hb0 hb1 hz4 hz5
        by_cases ce : z4 = en
        · rw [if_pos ce]
          have ceb : (z4 != en) = false := by simp [ce]
          have ceb' : (z4 == en) = true := by simp [ce]
          clear ce
          go_enter Try.func71, Try.ntmps71
          go_wp2_with (first | ((with_reducible refine (HA.out _ HS0.out).mono ?_); rintro e w1 ⟨hf1, b1, rfl, hs1, ht1, hl1⟩; have HS1 := Aside0.mk hs1; have HF1 := Aside0.mk hf1; have HT1 := Aside0.mk ht1; clear hs1 hf1 ht1 hl1) | ((with_reducible refine (HN.out _ HS1.out).mono ?_); rintro e w2 ⟨rfl, hs2, hf2⟩; have HS2 := Aside0.mk hs2; have HF2 := Aside0.mk hf2; clear hs2 hf2) | ((with_reducible refine (HI.out _).mono ?_); rintro e w3 ⟨rfl, ⟨nd, rfl⟩⟩; have HS3 := Az (HS2.out.drewN nd); have HF3 := Az (HF2.out.drewN nd)) | ((with_reducible refine (HB.out _ HS3.out).mono ?_); rintro e w4 ⟨hf4, b2, rfl, hs4, ht4, hl4⟩; have HS4 := Aside0.mk hs4; have HF4 := Aside0.mk hf4; have HT4 := Aside0.mk ht4; clear hs4 hf4 ht4 hl4) | ((with_reducible refine (HM.out _ HS4.out).mono ?_); rintro e w5 ⟨rfl, hs5, hf5⟩; have HS5 := Aside0.mk hs5; have HF5 := Aside0.mk hf5; clear hs5 hf5))
          go_ret
          exact PostP.two z _ HG.out (((HF1.out.trans HF3.out).trans HF4.out).trans HF5.out) HS5.out (((HT1.out.fr HF3.out).fr HF4.out).fr HF5.out) (HT4.out.fr HF5.out) (by first | rfl | (simp; done))
        · rw [if_neg ce]
          have ceb : (z4 != en) = true := by simp [ce]
          have ceb' : (z4 == en) = false := by simp [ce]
          clear ce
          go_enter Try.func71, Try.ntmps71
          go_wp2_with (first | ((with_reducible refine (HA.out _ HS0.out).mono ?_); rintro e w1 ⟨hf1, b1, rfl, hs1, ht1, hl1⟩; have HS1 := Aside0.mk hs1; have HF1 := Aside0.mk hf1; have HT1 := Aside0.mk ht1; clear hs1 hf1 ht1 hl1) | ((with_reducible refine (HN.out _ HS1.out).mono ?_); rintro e w2 ⟨rfl, hs2, hf2⟩; have HS2 := Aside0.mk hs2; have HF2 := Aside0.mk hf2; clear hs2 hf2) | ((with_reducible refine (HI.out _).mono ?_); rintro e w3 ⟨rfl, ⟨nd, rfl⟩⟩; have HS3 := Az (HS2.out.drewN nd); have HF3 := Az (HF2.out.drewN nd)) | ((with_reducible refine (HB.out _ HS3.out).mono ?_); rintro e w4 ⟨hf4, b2, rfl, hs4, ht4, hl4⟩; have HS4 := Aside0.mk hs4; have HF4 := Aside0.mk hf4; have HT4 := Aside0.mk ht4; clear hs4 hf4 ht4 hl4) | ((with_reducible refine (HM.out _ HS4.out).mono ?_); rintro e w5 ⟨rfl, hs5, hf5⟩; have HS5 := Aside0.mk hs5; have HF5 := Aside0.mk hf5; clear hs5 hf5))
          go_ret
          exact PostP.nil (((HF1.out.trans HF3.out).trans HF4.out).trans HF5.out)

/-! ### stringslite_HasPrefix: function 102 -/
def stringslite_HasPrefix.f (a0 : ByteArray) (a1 : ByteArray) : Option (Bool) := if (a0.size : Int) ≥ (a1.size : Int) then (if 0 ≤ (a1.size : Int) then (if (a1.size : Int) ≤ (a0.size : Int) then (some ((a0.extract 0 ((a1.size : Int) : Int).toNat).toList == a1.toList)) else (none)) else (none)) else (some false)
set_option maxHeartbeats 8000000 in
set_option maxRecDepth 100000 in
theorem stringslite_HasPrefix.calls (a0 : ByteArray) (a1 : ByteArray) (r : Bool) (w : World) (h : stringslite_HasPrefix.f a0 a1 = some r) :
    Calls Try.prog 102 #[.string a0, .string a1] w fun e w' => e = .returned (.bool r) ∧ Drawn0 w w' := by
  have H : (if (a0.size : Int) ≥ (a1.size : Int) then (if 0 ≤ (a1.size : Int) then (if (a1.size : Int) ≤ (a0.size : Int) then (some ((a0.extract 0 ((a1.size : Int) : Int).toNat).toList == a1.toList)) else (none)) else (none)) else (some false)) = some r := h
  clear h
  by_cases c3 : (a0.size : Int) ≥ (a1.size : Int)
  · rw [if_pos c3] at H
    have c3b0 : decide ((a1.size : Int) ≤ (a0.size : Int)) = true := decide_eq_true c3
    have c3b1 : decide (a1.size ≤ a0.size) = true := decide_eq_true (Int.ofNat_le.mp c3)
    clear c3
    by_cases c4 : 0 ≤ (a1.size : Int)
    · rw [if_pos c4] at H
      have c4b0 := eq_true c4
      have c4b1 : decide (0 ≤ (a1.size : Int)) = true := decide_eq_true c4
      clear c4
      by_cases c5 : (a1.size : Int) ≤ (a0.size : Int)
      · rw [if_pos c5] at H
        have c5b0 := eq_true c5
        have c5b1 : decide ((a1.size : Int) ≤ (a0.size : Int)) = true := decide_eq_true c5
        clear c5
        obtain rfl := Option.some.inj H
        go_enter Try.func102, Try.ntmps102
        go_wp2
        go_ret
        exact ⟨mr, by repeat (first | exact Drawn0.refl _ | apply Drawn0.step)⟩
      · rw [if_neg c5] at H
        exact absurd H (by simp)
    · rw [if_neg c4] at H
      exact absurd H (by simp)
  · rw [if_neg c3] at H
    have c3b0 : decide ((a1.size : Int) ≤ (a0.size : Int)) = false := decide_eq_false c3
    have c3b1 : decide (a1.size ≤ a0.size) = false := decide_eq_false (fun h => c3 (Int.ofNat_le.mpr h))
    clear c3
    obtain rfl := Option.some.inj H
    go_enter Try.func102, Try.ntmps102
    go_wp2
    go_ret
    exact ⟨mr, by repeat (first | exact Drawn0.refl _ | apply Drawn0.step)⟩

/-! ### stringslite_CutPrefix: function 101 -/
def stringslite_CutPrefix.f (a0 : ByteArray) (a1 : ByteArray) : Option (ByteArray × Bool) := (stringslite_HasPrefix.f a0 a1).bind fun t102 => (if t102 = true then (if 0 ≤ (a1.size : Int) then (if (a1.size : Int) ≤ (a0.size : Int) then (some (a0.extract ((a1.size : Int) : Int).toNat a0.size, true)) else (none)) else (none)) else (some (a0, false)))
set_option maxHeartbeats 8000000 in
set_option maxRecDepth 100000 in
theorem stringslite_CutPrefix.calls (a0 : ByteArray) (a1 : ByteArray) (r1 : ByteArray) (r2 : Bool) (w : World) (h : stringslite_CutPrefix.f a0 a1 = some (r1, r2)) :
    Calls Try.prog 101 #[.string a0, .string a1] w fun e w' => e = .returned (.tuple #[.string r1, .bool r2]) ∧ Drawn0 w w' := by
  have H : ((stringslite_HasPrefix.f a0 a1).bind fun t102 => (if t102 = true then (if 0 ≤ (a1.size : Int) then (if (a1.size : Int) ≤ (a0.size : Int) then (some (a0.extract ((a1.size : Int) : Int).toNat a0.size, true)) else (none)) else (none)) else (some (a0, false)))) = some (r1, r2) := h
  clear h
  replace H := Option.bind_eq_some_iff.mp H
  obtain ⟨t102, A30, H⟩ := H
  replace H : (if t102 = true then (if 0 ≤ (a1.size : Int) then (if (a1.size : Int) ≤ (a0.size : Int) then (some (a0.extract ((a1.size : Int) : Int).toNat a0.size, true)) else (none)) else (none)) else (some (a0, false))) = some (r1, r2) := H
  have A3 := Aside0.mk A30
  clear A30
  by_cases c4 : t102 = true
  · subst c4
    have H1 : (if 0 ≤ (a1.size : Int) then (if (a1.size : Int) ≤ (a0.size : Int) then (some (a0.extract ((a1.size : Int) : Int).toNat a0.size, true)) else (none)) else (none)) = some (r1, r2) := by rw [if_pos rfl] at H; exact H
    clear H
    have H := H1
    clear H1
    by_cases c5 : 0 ≤ (a1.size : Int)
    · rw [if_pos c5] at H
      have c5b0 := eq_true c5
      have c5b1 : decide (0 ≤ (a1.size : Int)) = true := decide_eq_true c5
      clear c5
      by_cases c6 : (a1.size : Int) ≤ (a0.size : Int)
      · rw [if_pos c6] at H
        have c6b0 := eq_true c6
        have c6b1 : decide ((a1.size : Int) ≤ (a0.size : Int)) = true := decide_eq_true c6
        clear c6
        simp only [Option.some.injEq, Prod.mk.injEq] at H
        obtain ⟨rfl, rfl⟩ := H
        go_enter Try.func101, Try.ntmps101
        go_wp2_with (first | ((with_reducible refine gate_callee (f := 102) rfl ?_); refine goesL_ (some 8) rfl rfl Try.func102 (by kernel_rfl) rfl #[.string a0, .string a1] rfl gf ?_; (with_reducible refine (stringslite_HasPrefix.calls a0 a1 true _ A3.out).mono ?_); rintro e w' ⟨rfl, ⟨nd, rfl⟩⟩; refine ⟨_, rfl, ?_⟩))
        go_ret2
        exact ⟨mr, by repeat (first | exact Drawn0.refl _ | apply Drawn0.step)⟩
      · rw [if_neg c6] at H
        exact absurd H (by simp)
    · rw [if_neg c5] at H
      exact absurd H (by simp)
  · replace c4 := Bool.eq_false_iff.mpr c4
    subst c4
    have H1 : (some (a0, false)) = some (r1, r2) := by rw [if_neg (show ¬ (false = true) by decide)] at H; exact H
    clear H
    have H := H1
    clear H1
    simp only [Option.some.injEq, Prod.mk.injEq] at H
    obtain ⟨rfl, rfl⟩ := H
    go_enter Try.func101, Try.ntmps101
    go_wp2_with (first | ((with_reducible refine gate_callee (f := 102) rfl ?_); refine goesL_ (some 8) rfl rfl Try.func102 (by kernel_rfl) rfl #[.string a0, .string a1] rfl gf ?_; (with_reducible refine (stringslite_HasPrefix.calls a0 a1 false _ A3.out).mono ?_); rintro e w' ⟨rfl, ⟨nd, rfl⟩⟩; refine ⟨_, rfl, ?_⟩))
    go_ret2
    exact ⟨mr, by repeat (first | exact Drawn0.refl _ | apply Drawn0.step)⟩

/-! ### strings_CutPrefix: function 100 -/
def strings_CutPrefix.f (a0 : ByteArray) (a1 : ByteArray) : Option (ByteArray × Bool) := (stringslite_CutPrefix.f a0 a1).bind fun bt103 => (some (bt103.1, bt103.2))
set_option maxHeartbeats 8000000 in
set_option maxRecDepth 100000 in
theorem strings_CutPrefix.calls (a0 : ByteArray) (a1 : ByteArray) (r1 : ByteArray) (r2 : Bool) (w : World) (h : strings_CutPrefix.f a0 a1 = some (r1, r2)) :
    Calls Try.prog 100 #[.string a0, .string a1] w fun e w' => e = .returned (.tuple #[.string r1, .bool r2]) ∧ Drawn0 w w' := by
  have H : ((stringslite_CutPrefix.f a0 a1).bind fun bt103 => (some (bt103.1, bt103.2))) = some (r1, r2) := h
  clear h
  replace H := Option.bind_eq_some_iff.mp H
  obtain ⟨⟨t103, t104⟩, A30, H⟩ := H
  replace H : (some (t103, t104)) = some (r1, r2) := H
  have A3 := Aside0.mk A30
  clear A30
  simp only [Option.some.injEq, Prod.mk.injEq] at H
  obtain ⟨rfl, rfl⟩ := H
  go_enter Try.func100, Try.ntmps100
  go_wp2_with (first | ((with_reducible refine gate_callee (f := 101) rfl ?_); refine goesL_ (some 8) rfl rfl Try.func101 (by kernel_rfl) rfl #[.string a0, .string a1] rfl gf ?_; (with_reducible refine (stringslite_CutPrefix.calls a0 a1 t103 t104 _ A3.out).mono ?_); rintro e w' ⟨rfl, ⟨nd, rfl⟩⟩; refine ⟨_, rfl, ?_⟩))
  go_ret2
  exact ⟨mr, by repeat (first | exact Drawn0.refl _ | apply Drawn0.step)⟩

/-! ### impl_countIn: function 91 -/
def impl_countIn.f (a0 : ByteArray) (a1 : ByteArray) (a2 : Int) (a3 : Int) : Option (Int × Bool) := (strings_CutPrefix.f a0 a1).bind fun bt105 => (if bt105.2 = true then (if (bt105.1.size : Int) = 1 then (if 0 < (bt105.1.size : Int) then (if (wrap64 ((wrap64 (bt bt105.1 0)) - 48)) ≥ a2 then (some (wrap64 ((wrap64 (bt bt105.1 0)) - 48), decide ((wrap64 ((wrap64 (bt bt105.1 0)) - 48)) ≤ a3))) else (some (wrap64 ((wrap64 (bt bt105.1 0)) - 48), false))) else (none)) else (some (0, false))) else (some (0, false)))
set_option maxHeartbeats 8000000 in
set_option maxRecDepth 100000 in
theorem impl_countIn.calls (a0 : ByteArray) (a1 : ByteArray) (a2 : Int) (a3 : Int) (r1 : Int) (r2 : Bool) (w : World) (h : impl_countIn.f a0 a1 a2 a3 = some (r1, r2)) :
    Calls Try.prog 91 #[.string a0, .string a1, .int .i64 a2, .int .i64 a3] w fun e w' => e = .returned (.tuple #[.int .i64 r1, .bool r2]) ∧ Drawn0 w w' := by
  have H : ((strings_CutPrefix.f a0 a1).bind fun bt105 => (if bt105.2 = true then (if (bt105.1.size : Int) = 1 then (if 0 < (bt105.1.size : Int) then (if (wrap64 ((wrap64 (bt bt105.1 0)) - 48)) ≥ a2 then (some (wrap64 ((wrap64 (bt bt105.1 0)) - 48), decide ((wrap64 ((wrap64 (bt bt105.1 0)) - 48)) ≤ a3))) else (some (wrap64 ((wrap64 (bt bt105.1 0)) - 48), false))) else (none)) else (some (0, false))) else (some (0, false)))) = some (r1, r2) := h
  clear h
  replace H := Option.bind_eq_some_iff.mp H
  obtain ⟨⟨t105, t106⟩, A50, H⟩ := H
  replace H : (if t106 = true then (if (t105.size : Int) = 1 then (if 0 < (t105.size : Int) then (if (wrap64 ((wrap64 (bt t105 0)) - 48)) ≥ a2 then (some (wrap64 ((wrap64 (bt t105 0)) - 48), decide ((wrap64 ((wrap64 (bt t105 0)) - 48)) ≤ a3))) else (some (wrap64 ((wrap64 (bt t105 0)) - 48), false))) else (none)) else (some (0, false))) else (some (0, false))) = some (r1, r2) := H
  have A5 := Aside0.mk A50
  clear A50
  by_cases c6 : t106 = true
  · subst c6
    have H1 : (if (t105.size : Int) = 1 then (if 0 < (t105.size : Int) then (if (wrap64 ((wrap64 (bt t105 0)) - 48)) ≥ a2 then (some (wrap64 ((wrap64 (bt t105 0)) - 48), decide ((wrap64 ((wrap64 (bt t105 0)) - 48)) ≤ a3))) else (some (wrap64 ((wrap64 (bt t105 0)) - 48), false))) else (none)) else (some (0, false))) = some (r1, r2) := by rw [if_pos rfl] at H; exact H
    clear H
    have H := H1
    clear H1
    by_cases c7 : (t105.size : Int) = 1
    · rw [if_pos c7] at H
      have c7b0 : ((t105.size : Int) == 1) = true := beq_iff_eq.mpr c7
      have c7b1 : ((t105.size : Int) != 1) = false := bne_eq_false_iff_eq.mpr c7
      clear c7
      by_cases c8 : 0 < (t105.size : Int)
      · rw [if_pos c8] at H
        have c8b0 : decide (0 < (t105.size : Int)) = true := decide_eq_true c8
        have c8b1 : decide (0 < t105.size) = true := decide_eq_true (by omega)
        clear c8
        by_cases c10 : (wrap64 ((wrap64 (bt t105 0)) - 48)) ≥ a2
        · rw [if_pos c10] at H
          have c10b0 : decide (a2 ≤ (wrap64 ((wrap64 (bt t105 0)) - 48))) = true := decide_eq_true c10
          clear c10
          simp only [Option.some.injEq, Prod.mk.injEq] at H
          obtain ⟨rfl, rfl⟩ := H
          go_enter Try.func91, Try.ntmps91
          go_wp2_with (first | ((with_reducible refine gate_callee (f := 100) rfl ?_); refine goesL_ (some 16) rfl rfl Try.func100 (by kernel_rfl) rfl #[.string a0, .string a1] rfl gf ?_; (with_reducible refine (strings_CutPrefix.calls a0 a1 t105 true _ A5.out).mono ?_); rintro e w' ⟨rfl, ⟨nd, rfl⟩⟩; refine ⟨_, rfl, ?_⟩; have p9 : 0 ≤ (0 : Int) := (by omega); have q9 : 0 < t105.size := (by have : (0 : Int) < (t105.size : Int) := of_decide_eq_true fa; omega); have hx9 : ∀ h : 0 < t105.size, ((t105[0]'h).toNat : Int) = bt t105 0 := bt_at t105 0; clear p9; have qi9 : (0 < (t105.size : Int)) = True := eq_true (of_decide_eq_true fa); replace q9 := eq_true q9))
          go_ret2
          exact ⟨mr, by repeat (first | exact Drawn0.refl _ | apply Drawn0.step)⟩
        · rw [if_neg c10] at H
          have c10b0 : decide (a2 ≤ (wrap64 ((wrap64 (bt t105 0)) - 48))) = false := decide_eq_false c10
          clear c10
          simp only [Option.some.injEq, Prod.mk.injEq] at H
          obtain ⟨rfl, rfl⟩ := H
          go_enter Try.func91, Try.ntmps91
          go_wp2_with (first | ((with_reducible refine gate_callee (f := 100) rfl ?_); refine goesL_ (some 16) rfl rfl Try.func100 (by kernel_rfl) rfl #[.string a0, .string a1] rfl gf ?_; (with_reducible refine (strings_CutPrefix.calls a0 a1 t105 true _ A5.out).mono ?_); rintro e w' ⟨rfl, ⟨nd, rfl⟩⟩; refine ⟨_, rfl, ?_⟩; have p9 : 0 ≤ (0 : Int) := (by omega); have q9 : 0 < t105.size := (by have : (0 : Int) < (t105.size : Int) := of_decide_eq_true fa; omega); have hx9 : ∀ h : 0 < t105.size, ((t105[0]'h).toNat : Int) = bt t105 0 := bt_at t105 0; clear p9; have qi9 : (0 < (t105.size : Int)) = True := eq_true (of_decide_eq_true fa); replace q9 := eq_true q9))
          go_ret2
          exact ⟨mr, by repeat (first | exact Drawn0.refl _ | apply Drawn0.step)⟩
      · rw [if_neg c8] at H
        exact absurd H (by simp)
    · rw [if_neg c7] at H
      have c7b0 : ((t105.size : Int) == 1) = false := beq_eq_false_iff_ne.mpr c7
      have c7b1 : ((t105.size : Int) != 1) = true := bne_iff_ne.mpr c7
      simp only [Option.some.injEq, Prod.mk.injEq] at H
      obtain ⟨rfl, rfl⟩ := H
      go_enter Try.func91, Try.ntmps91
      go_wp2_with (first | ((with_reducible refine gate_callee (f := 100) rfl ?_); refine goesL_ (some 16) rfl rfl Try.func100 (by kernel_rfl) rfl #[.string a0, .string a1] rfl gf ?_; (with_reducible refine (strings_CutPrefix.calls a0 a1 t105 true _ A5.out).mono ?_); rintro e w' ⟨rfl, ⟨nd, rfl⟩⟩; refine ⟨_, rfl, ?_⟩))
      go_ret2
      exact ⟨mr, by repeat (first | exact Drawn0.refl _ | apply Drawn0.step)⟩
  · replace c6 := Bool.eq_false_iff.mpr c6
    subst c6
    have H1 : (some (0, false)) = some (r1, r2) := by rw [if_neg (show ¬ (false = true) by decide)] at H; exact H
    clear H
    have H := H1
    clear H1
    simp only [Option.some.injEq, Prod.mk.injEq] at H
    obtain ⟨rfl, rfl⟩ := H
    go_enter Try.func91, Try.ntmps91
    go_wp2_with (first | ((with_reducible refine gate_callee (f := 100) rfl ?_); refine goesL_ (some 16) rfl rfl Try.func100 (by kernel_rfl) rfl #[.string a0, .string a1] rfl gf ?_; (with_reducible refine (strings_CutPrefix.calls a0 a1 t105 false _ A5.out).mono ?_); rintro e w' ⟨rfl, ⟨nd, rfl⟩⟩; refine ⟨_, rfl, ?_⟩))
    go_ret2
    exact ⟨mr, by repeat (first | exact Drawn0.refl _ | apply Drawn0.step)⟩

/-! ### impl_triangleBy: function 95 -/
def rowE (p : Nat → Nat → Bool) (a s : Nat) : List Int := (List.range s).map fun j => if p a j then 1 else 0
def triP (p : Nat → Nat → Bool) : Nat → List Int
  | 0 => []
  | a + 1 => triP p a ++ rowE p a (a + 1)
theorem rowE_succ (p : Nat → Nat → Bool) (a s : Nat) (b : Bool) (h : p a s = b) : rowE p a (s + 1) = rowE p a s ++ [if b then 1 else 0] := by
  unfold rowE; rw [List.range_succ, List.map_append, ← h]; rfl
theorem rowE_len (p : Nat → Nat → Bool) (a s : Nat) : (rowE p a s).length = s := by simp [rowE]
theorem triP_len (p : Nat → Nat → Bool) (a : Nat) (h : a ≤ 6) : (triP p a).length ≤ 21 := by
  rcases (show a = 0 ∨ a = 1 ∨ a = 2 ∨ a = 3 ∨ a = 4 ∨ a = 5 ∨ a = 6 by omega) with rfl | rfl | rfl | rfl | rfl | rfl | rfl <;> simp [triP, rowE]
def impl_triangleBy.M (p : Nat → Nat → Bool) : List Int := triP p 6
set_option maxHeartbeats 8000000 in
set_option maxRecDepth 100000 in
theorem impl_triangleBy.calls (c : Nat) (caps : Array Value) (p : Nat → Nat → Bool) (w : World) (hen : ∀ (args : Array Value) (wx : World), (callFunc c args).run Try.prog wx = .ok (.enter c args) wx)
    (hso : ∀ wx, Below w.heap.size w wx → ∀ a s : Nat, s ≤ a → a ≤ 5 → Calls Try.prog c (#[.int .i64 a, .int .i64 s] ++ caps) wx fun e w' => e = .returned (.bool (p a s)) ∧ Drawn0 wx w') :
    Calls Try.prog 95 #[.func (.func c) #[] caps] w fun e w' => ∃ v0_ : Value, e = .returned (v0_) ∧ Kd.R (Kd.int .i64) 3 w' w.heap.size (fun _ => True) v0_ (impl_triangleBy.M p) ∧ Below w.heap.size w w' := by
  have HB := Az (Below.refl w.heap.size w)
  obtain ⟨y0, hy0⟩ : ∃ y_ : List Int, y_ = (([] : List Int)) := ⟨_, rfl⟩
  have Ny0 := Aside0.mk hy0
  clear hy0
  have HSO := Aside0.mk hso
  clear hso
  go_enter Try.func95, Try.ntmps95
  go_wp2_with (first | ((with_reducible refine gate_dst (N := 7) rfl ?_); refine Kd.R_lit (Kd.int .i64) _ 3 ?hg (N := 7) ?hd (xs := ([] : List Int)) (inner := []) (ok := fun _ => True) (okp := fun _ => True) ?hr ?hp (fun _ hk => hk) trivial (Below.refl _ _) (Nat.le_refl _) (by simp) ?_; (case hd => rfl); (case hg => rfl); (case hr => first | (go_simp; done) | (go_simp; rfl)); (case hp => exact (Reps.none _ _)); intro v1 w3 ho4 hb hg_ hnew_; clear hg_ hnew_; have n0_ := Az (Kd.R_lower ho4 (below_size (cB HB))); have n1_ := Az (below_step (cB HB) hb); clear HB; have HO1 := n0_; have HB := n1_; clear n0_ n1_; clear hb ho4))
  go_loopg [3, 8] 7 (fun kq v3 v8 w' => ∃ (a : Nat), v8 = .int .i64 a ∧ Aside0 (kq + a = 7 ∧ a ≤ 6) ∧ Aside0 (Kd.R (Kd.int .i64) 3 w' w.heap.size (fun _ => True) v3 (triP p a)) ∧ Aside0 (Below w.heap.size w w'))
  case atStart => exact ⟨0, rfl, ⟨by omega⟩, ⟨by (with_reducible repeat (first | apply Kd.R_alloc | apply Kd.R_drewN | apply Kd.R_drew)); exact HO1.out⟩, ⟨(cB HB)⟩⟩
  case round =>
    clear HB HO1
    obtain ⟨a, rfl, HA, HO3, HB⟩ := hrel
    cases gk with
    | zero => exact absurd HA.out (by omega)
    | succ k1 =>
      by_cases c5 : a < 6
      · have c5b : decide ((a : Int) < 6) = true := by simp; omega
        have c5w : wrap64 ((a : Int) + 1) = (a : Int) + 1 := by unfold wrap64; omega
        have c5v : IntKind.i64.wrap ((a : Int) + 1) = (a : Int) + 1 := by rw [IntKind.wrap_i64]; omega
        have C5 := Aside0.mk c5
        clear c5
        go_wp2
        go_loopg [3, 13] (a + 2) (fun kq v3 v13 w' => ∃ (s : Nat), v13 = .int .i64 s ∧ Aside0 (kq + s = a + 2 ∧ s ≤ a + 1) ∧ Aside0 (Kd.R (Kd.int .i64) 3 w' w.heap.size (fun _ => True) v3 (triP p a ++ rowE p a s)) ∧ Aside0 (Below w.heap.size w w'))
        case atStart => exact ⟨0, rfl, ⟨by omega⟩, ⟨by (with_reducible repeat (first | apply Kd.R_alloc | apply Kd.R_drewN | apply Kd.R_drew)); have := HO3.out; simpa [rowE] using this⟩, ⟨(cB HB)⟩⟩
        case round =>
          clear HO3 HB
          obtain ⟨s, rfl, HA2, HO3, HB⟩ := hrel
          cases gk with
          | zero => exact absurd HA2.out (by omega)
          | succ k2 =>
            by_cases c6 : s < a + 1
            · have c6b : decide ((s : Int) < (a : Int) + 1) = true := by simp; omega
              have c6w : wrap64 ((s : Int) + 1) = (s : Int) + 1 := by have := C5.out; unfold wrap64; omega
              have LM := Az (show (triP p a ++ rowE p a s).length < 17592186044416 by have := triP_len p a (by have := C5.out; omega); have := C5.out; rw [List.length_append, rowE_len]; omega)
              have HC := Az (fun wx hx => HSO.out wx hx a s (by omega) (by have := C5.out; omega))
              cases hp : p a s
              · rw [hp] at HC
                go_wp2_with (first | ((with_reducible refine (HC.out _ (cB HB)).mono ?_); rintro e w' ⟨rfl, ⟨nd, rfl⟩⟩) | ((with_reducible refine gate_builtin (b := .append) (xs := #[.tmp 20, .tmp 22]) rfl ?_); at_builtin; refine Kd.R_append (Kd.int .i64) (w0 := w) w.heap.size rfl (.tmp 20) (.tmp 22) 29 3 (.int .i64 0) 8 rfl Try.underlying29 info3 rfl (by decide) (by omega) u3 (triP p a ++ rowE p a s) 0 [.int .i64 0] (fun _ => True) (fun _ => False) rfl rfl ?aP (fun _ hk => hk.elim) ?aF ?aO ?aB ?aS ?aL ?_; (case aP => exact rfl); (case aB => exact (cB HB)); (case aF => exact (fun _ _ => trivial)); (case aO => exact (dR (HO3.out))); (case aS => exact (below_size (cB HB))); (case aL => have := LM.out; omega); intro v129 w10 ho hb hg hat; have n0_ := Az (hb); have n1_ := Az (ho); clear HB; clear HO3; have HB := n0_; have HO3 := n1_; clear n0_ n1_; clear ho hb hg hat))
                go_roundg k2
                case measure => omega
                case rel => exact ⟨s + 1, (by go_num), ⟨by have := HA2.out; omega⟩, ⟨by have := HO3.out; rw [rowE_succ p a s false hp, ← List.append_assoc]; exact this⟩, ⟨(cB HB)⟩⟩
              · rw [hp] at HC
                go_wp2_with (first | ((with_reducible refine (HC.out _ (cB HB)).mono ?_); rintro e w' ⟨rfl, ⟨nd, rfl⟩⟩) | ((with_reducible refine gate_builtin (b := .append) (xs := #[.tmp 20, .tmp 22]) rfl ?_); at_builtin; refine Kd.R_append (Kd.int .i64) (w0 := w) w.heap.size rfl (.tmp 20) (.tmp 22) 29 3 (.int .i64 0) 8 rfl Try.underlying29 info3 rfl (by decide) (by omega) u3 (triP p a ++ rowE p a s) 1 [.int .i64 1] (fun _ => True) (fun _ => False) rfl rfl ?aP (fun _ hk => hk.elim) ?aF ?aO ?aB ?aS ?aL ?_; (case aP => exact rfl); (case aB => exact (cB HB)); (case aF => exact (fun _ _ => trivial)); (case aO => exact (dR (HO3.out))); (case aS => exact (below_size (cB HB))); (case aL => have := LM.out; omega); intro v129 w10 ho hb hg hat; have n0_ := Az (hb); have n1_ := Az (ho); clear HB; clear HO3; have HB := n0_; have HO3 := n1_; clear n0_ n1_; clear ho hb hg hat))
                go_roundg k2
                case measure => omega
                case rel => exact ⟨s + 1, (by go_num), ⟨by have := HA2.out; omega⟩, ⟨by have := HO3.out; rw [rowE_succ p a s true hp, ← List.append_assoc]; exact this⟩, ⟨(cB HB)⟩⟩
            · have c6b : decide ((s : Int) < (a : Int) + 1) = false := by simp; omega
              have es : s = a + 1 := by have := HA2.out; omega
              go_wp2
              go_roundg k1
              case measure => omega
              case rel => exact ⟨a + 1, (by go_num), ⟨by have := HA.out; have := C5.out; omega⟩, ⟨by have := HO3.out; subst es; exact this⟩, ⟨(cB HB)⟩⟩
      · have c5b : decide ((a : Int) < 6) = false := by simp; omega
        have e6 : a = 6 := by have := HA.out; omega
        go_wp2
        go_ret
        exact ⟨_, rfl, by have := HO3.out; subst e6; exact this, HB.out⟩

end Go.Proofs.Ytfjfdnododnepaa.PFnReplacedIn
