-- Written by a program of this session (wip/patch_print.py, over the kit's print) and not by hand; Lean checks every word.
import Derived.Test.YtfjfdnododnepaaPFnReplacedInxb
import Derived.Test.YtfjfdnododnepaaPFnReplacedInx0
import Derived.Test.YtfjfdnododnepaaPFnReplacedInx1
import Derived.Test.YtfjfdnododnepaaPFnReplacedInx2
import Derived.Shelf.RegionOpenPlain
import Derived.Lib.SliceRun
namespace Go.Proofs.Ytfjfdnododnepaa.PFnReplacedIn
open Go.RowKit Go.Proofs.YtfjfdnododnepaaW.PrintWords Go.Proofs.YtfjfdnododnepaaW.PrintLast Go.Proofs.YtfjfdnododnepaaW.PrintMore
attribute [local go_sem] max2_int min2_int max_two min_two max_three min_three max_four min_four   -- for this text's walks alone
set_option linter.unusedVariables false
set_option linter.unusedSimpArgs false

/-! ### spec_l2Both: function 51 -/
def spec_l2Both.l0 : Nat → Int → Int → Int → Int → Option (Int)
  | 0, _, _, _, _ => none
  | k + 1, x0, x1, x5, x6 => if x6 < 8 then (if 0 ≤ x6 then (spec_l2Both.l0 k x0 x1 (wrap64 (x5 + (shl .i64 (wrap64 ((Int.tmod (shr .i64 x0 x6) 2) * (Int.tmod (shr .i64 x1 x6) 2))) x6))) (wrap64 (x6 + 1))) else (none)) else (some x5)
def spec_l2Both.f (k : Nat) (a0 : Int) (a1 : Int) : Option (Int) := spec_l2Both.l0 k a0 a1 0 0
theorem spec_l2Both.mono_l : ∀ k, (∀ y0 y1 y2 y3, LeO (spec_l2Both.l0 k y0 y1 y2 y3) (spec_l2Both.l0 (k + 1) y0 y1 y2 y3))
  | 0 => fun _ _ _ _ r h => by simp [spec_l2Both.l0] at h
  | k + 1 => by
    have ih0 := spec_l2Both.mono_l k
    · intro y0 y1 y2 y3; unfold spec_l2Both.l0; repeat' first
      | (with_reducible exact ih0 _ _ _ _)
      | (with_reducible exact LeO.refl _)
      | (with_reducible exact LeO.none _)
      | (with_reducible refine LeO.ite ?_ ?_)
      | (with_reducible refine LeO.bind ?_ (fun _ => ?_))
      | exact ih0 _ _ _ _
      | exact LeO.none _
      | refine LeO.ite ?_ ?_
      | refine LeO.bind ?_ (fun _ => ?_)
theorem spec_l2Both.mono : ∀ a0 a1 k, LeO (spec_l2Both.f k a0 a1) (spec_l2Both.f (k + 1) a0 a1) := by
  intro a0 a1 k; have ih0 := spec_l2Both.mono_l k; unfold spec_l2Both.f
  repeat' first
      | (with_reducible exact ih0 _ _ _ _)
      | (with_reducible exact LeO.refl _)
      | (with_reducible exact LeO.none _)
      | (with_reducible refine LeO.ite ?_ ?_)
      | (with_reducible refine LeO.bind ?_ (fun _ => ?_))
      | exact ih0 _ _ _ _
      | exact LeO.none _
      | refine LeO.ite ?_ ?_
      | refine LeO.bind ?_ (fun _ => ?_)
set_option maxHeartbeats 8000000 in
set_option maxRecDepth 100000 in
theorem spec_l2Both.calls (k : Nat) (a0 : Int) (a1 : Int) (r : Int) (w : World) (h : spec_l2Both.f k a0 a1 = some r) :
    Calls Try.prog 51 #[.int .i64 a0, .int .i64 a1] w fun e w' => e = .returned (.int .i64 r) ∧ Drawn0 w w' := by
  have H : (spec_l2Both.l0 k a0 a1 0 0) = some r := h; clear h; have H' := Aside0.mk H; clear H; go_enter Try.func51, Try.ntmps51; go_wp2; (repeat (go_quiet (fail); try go_wp2)); go_loopg [5, 6] k (fun kq v5 v6 w' => ∃ (x5_1 : Int) (x6_1 : Int), v5 = .int .i64 x5_1 ∧ v6 = .int .i64 x6_1 ∧ Aside0 (spec_l2Both.l0 kq a0 a1 x5_1 x6_1 = some r) ∧ Aside0 (kq ≤ k) ∧ Drawn0 w w'); case atStart => exact ⟨(0), (0), mr, mr, H', ⟨Nat.le_refl _⟩, by repeat (first | exact Drawn0.refl _ | apply Drawn0.step)⟩
  case round =>
    clear H'; obtain ⟨x5_1, x6_1, rfl, rfl, HA, HK1, ⟨m1, rfl⟩⟩ := hrel
    cases gk with
    | zero => exact absurd HA.out (by simp [spec_l2Both.l0])
    | succ k1 =>
      have H := HA.out; clear HA; simp only [spec_l2Both.l0] at H; by_cases c3 : x6_1 < 8
      · rw [if_pos c3] at H; have c3b0 : decide (x6_1 < 8) = true := decide_eq_true c3; clear c3; by_cases c4 : 0 ≤ x6_1
        · rw [if_pos c4] at H; have c4b0 := eq_true c4; have c4b1 : decide (0 ≤ x6_1) = true := decide_eq_true c4; clear c4; obtain ⟨ji5, hji5⟩ : ∃ j_ : Int, (shr .i64 a0 x6_1) = j_ := ⟨_, rfl⟩; (replace H : (spec_l2Both.l0 k1 a0 a1 (wrap64 (x5_1 + (shl .i64 (wrap64 ((Int.tmod (ji5) 2) * (Int.tmod (shr .i64 a1 x6_1) 2))) x6_1))) (wrap64 (x6_1 + 1))) = some r := by first | (rw [hji5] at H; exact H) | (simp only [hji5] at H ⊢; exact H)); have hji5_ : (a0 / 2 ^ min x6_1.toNat 64) = ji5 := hji5; have hji5z : x6_1 ≤ 64 → (a0 / 2 ^ x6_1.toNat) = ji5 := shr_small hji5; have c6b0 := eq_true (of_decide_eq_true fa : 0 ≤ x6_1); obtain ⟨ji7, hji7⟩ : ∃ j_ : Int, (shr .i64 a1 x6_1) = j_ := ⟨_, rfl⟩; (replace H : (spec_l2Both.l0 k1 a0 a1 (wrap64 (x5_1 + (shl .i64 (wrap64 ((Int.tmod (ji5) 2) * (Int.tmod (ji7) 2))) x6_1))) (wrap64 (x6_1 + 1))) = some r := by first | (rw [hji7] at H; exact H) | (simp only [hji7] at H ⊢; exact H)); have hji7_ : (a1 / 2 ^ min x6_1.toNat 64) = ji7 := hji7; have hji7z : x6_1 ≤ 64 → (a1 / 2 ^ x6_1.toNat) = ji7 := shr_small hji7; have c8b0 := eq_true (of_decide_eq_true fa : 0 ≤ x6_1); obtain ⟨ji9, hji9⟩ : ∃ j_ : Int, (shl .i64 (wrap64 ((Int.tmod (ji5) 2) * (Int.tmod (ji7) 2))) x6_1) = j_ := ⟨_, rfl⟩; (replace H : (spec_l2Both.l0 k1 a0 a1 (wrap64 (x5_1 + (ji9))) (wrap64 (x6_1 + 1))) = some r := by first | (rw [hji9] at H; exact H) | (simp only [hji9] at H ⊢; exact H)); have hji9_ : (IntKind.i64.wrap ((wrap64 ((Int.tmod (ji5) 2) * (Int.tmod (ji7) 2))) * 2 ^ min x6_1.toNat 64)) = ji9 := hji9; have hji9z : x6_1 ≤ 64 → (IntKind.i64.wrap ((wrap64 ((Int.tmod (ji5) 2) * (Int.tmod (ji7) 2))) * 2 ^ x6_1.toNat)) = ji9 := shl_small hji9; have hji9y : (wrap64 ((wrap64 ((Int.tmod (ji5) 2) * (Int.tmod (ji7) 2))) * 2 ^ min x6_1.toNat 64)) = ji9 := (i64_w _).symm.trans hji9_; (have hji9x : x6_1 ≤ 64 → (wrap64 ((wrap64 ((Int.tmod (ji5) 2) * (Int.tmod (ji7) 2))) * 2 ^ x6_1.toNat)) = ji9 := fun h_ => (i64_w _).symm.trans (hji9z h_)); have H' := Aside0.mk H; clear H; go_wp2; (repeat (go_quiet (fail); try go_wp2)); go_roundg k1; (case measure => have := HK1.out; omega); case rel => exact ⟨(wrap64 (x5_1 + (ji9))), (wrap64 (x6_1 + 1)), (by first | rfl | (simp; done) | (simp only [← hji9] <;> (first | rfl | simp)) | (simp [*]; done)), mr, H', ⟨by have := HK1.out; omega⟩, by repeat (first | exact Drawn0.refl _ | apply Drawn0.step)⟩
        · rw [if_neg c4] at H; exact absurd H (by simp)
      · rw [if_neg c3] at H; have c3b0 : decide (x6_1 < 8) = false := decide_eq_false c3; clear c3; obtain rfl := Option.some.inj H; go_wp2; (repeat (go_quiet (fail); try go_wp2)); go_ret; exact ⟨mr, by repeat (first | exact Drawn0.refl _ | apply Drawn0.step)⟩

/-! ### spec_l7Set: function 48 -/
def band (x y : Int) : Int := ((x.toNat &&& y.toNat : Nat) : Int)
def bor (x y : Int) : Int := ((x.toNat ||| y.toNat : Nat) : Int)
theorem band_all : ∀ x y : Fin 8, 0 ≤ band x.val y.val ∧ band x.val y.val ≤ 7 ∧ 0 ≤ bor x.val y.val ∧ bor x.val y.val ≤ 7 ∧ (x.val : Int) + y.val - band x.val y.val = bor x.val y.val := by decide +kernel
theorem both_all : ∀ x y : Fin 8, spec_l2Both.f 20 x.val y.val = some (band x.val y.val) := by decide +kernel
theorem fin_of {x : Int} (h0 : 0 ≤ x) (h7 : x ≤ 7) : ∃ a : Fin 8, x = (a.val : Int) := ⟨⟨x.toNat, by omega⟩, by simp; omega⟩
theorem band_facts {x y : Int} (h0 : 0 ≤ x) (h7 : x ≤ 7) (k0 : 0 ≤ y) (k7 : y ≤ 7) : 0 ≤ band x y ∧ band x y ≤ 7 ∧ 0 ≤ bor x y ∧ bor x y ≤ 7 ∧ x + y - band x y = bor x y := by
  obtain ⟨a, rfl⟩ := fin_of h0 h7; obtain ⟨b, rfl⟩ := fin_of k0 k7; exact band_all a b
theorem both_eq {x y : Int} (h0 : 0 ≤ x) (h7 : x ≤ 7) (k0 : 0 ≤ y) (k7 : y ≤ 7) : spec_l2Both.f 20 x y = some (band x y) := by
  obtain ⟨a, rfl⟩ := fin_of h0 h7; obtain ⟨b, rfl⟩ := fin_of k0 k7; exact both_all a b
def setv (L : List Int) : PT → Int
  | .leaf c _ => rd L (c - 97)
  | .one _ p => 7 - setv L p
  | .two c p q => if c = 38 then band (setv L p) (setv L q) else bor (setv L p) (setv L q)
  | .tri _ _ _ => 0
def Sets (L : List Int) : Prop := L.length = 4 ∧ ∀ i : Int, 0 ≤ i → i < 4 → 0 ≤ rd L i ∧ rd L i ≤ 7
def lvs : PT → Nat
  | .leaf _ _ => 1
  | .one _ p => lvs p
  | .two _ p q => lvs p + lvs q
  | .tri _ p q => lvs p + lvs q
def sgn (w : Int) : PT → List Int
  | .leaf _ _ => [w]
  | .one _ p => sgn (-w) p
  | .two _ p q => sgn w p ++ sgn w q
  | .tri _ _ _ => []
inductive SetT : PT → Prop where
  | leaf (c : Int) (i : Nat) : 97 ≤ c → c ≤ 100 → SetT (.leaf c i)
  | one {p : PT} : SetT p → SetT (.one 33 p)
  | two {c : Int} {p q : PT} : c = 38 ∨ c = 124 → SetT p → SetT q → SetT (.two c p q)
theorem sgn_len : ∀ {p : PT} (w : Int), SetT p → (sgn w p).length = lvs p := by
  intro p w h
  induction h generalizing w with
  | leaf => rfl
  | one _ ih => exact ih (-w)
  | two _ _ _ ih1 ih2 => simp [sgn, lvs, ih1, ih2]
theorem setv_range {L : List Int} (hL : Sets L) {p : PT} (h : SetT p) : 0 ≤ setv L p ∧ setv L p ≤ 7 := by
  induction h with
  | leaf c i h1 h2 => exact hL.2 (c - 97) (by omega) (by omega)
  | one _ ih => simp only [setv]; omega
  | @two c p q _ _ _ ih1 ih2 =>
    have := band_facts ih1.1 ih1.2 ih2.1 ih2.2; simp only [setv]; split
    · exact ⟨this.1, this.2.1⟩
    · exact ⟨this.2.2.1, this.2.2.2.1⟩
theorem ind2 {z : Int} (h0 : 0 ≤ z) (h1 : z ≤ 255) : Lib.indexByte [38, 124] z.toNat.toUInt8 < 0 ↔ ¬ (z = 38 ∨ z = 124) := by
  obtain ⟨n, rfl⟩ : ∃ n : Fin 256, z = (n.val : Int) := ⟨⟨z.toNat, by omega⟩, by simp; omega⟩; revert n; decide +kernel
theorem ptwo_two {par : Nat → Option (PT × Nat)} {en : Int} {s : ByteArray} {a : Nat} {p : PT} {e : Nat} (h : ptwo par [38, 124] en s a = some (p, e)) : ∃ x y a1 a3, par a = some (x, a1) ∧ par (nxt s a1).2 = some (y, a3) ∧ ((nxt s a1).1 = 38 ∨ (nxt s a1).1 = 124) ∧ (nxt s a3).1 = en ∧ p = .two (nxt s a1).1 x y ∧ e = (nxt s a3).2 := by
  unfold ptwo at h
  cases h1 : par a with
  | none => rw [h1] at h; cases h
  | some r =>
    obtain ⟨x, a1⟩ := r; rw [h1] at h; simp only at h; have hr := nxt_range s a1; split at h
    · cases h
    · rename_i hc
      cases h2 : par (nxt s a1).2 with
      | none => rw [h2] at h; cases h
      | some r =>
        obtain ⟨y, a3⟩ := r; rw [h2] at h; simp only at h; split at h
        · rename_i he; injection h with h; injection h with h h'; exact ⟨x, y, a1, a3, rfl, h2, Decidable.byContradiction (fun hn => hc ((ind2 hr.1 hr.2).2 hn)), he, h.symm, h'.symm⟩
        · cases h
theorem pset_ok (s : ByteArray) : ∀ n a p e, a ≤ s.size → pset n s a = some (p, e) → SetT p ∧ lvs p + a ≤ e
  | 0, a, p, a', _, h => by cases h
  | n + 1, a, p, a', ha, h => by
    unfold pset at h; split at h
    · rename_i c; injection h with h; injection h with h h'; subst h; subst h'; exact ⟨.leaf _ _ c.1 c.2, by simp [lvs]; omega⟩
    · split at h
      · rename_i c; obtain ⟨k1, k2⟩ := nxt_pos ha (show (nxt s a).1 ≠ 0 by omega)
        cases h1 : pset n s (a + 1) with
        | none => rw [h1] at h; cases h
        | some r =>
          obtain ⟨x, e⟩ := r; rw [h1] at h; obtain ⟨k3, k4⟩ := pset_ok s n (a + 1) x e k1 h1; injection h with h; injection h with h h'; subst h; subst h'; exact ⟨.one k3, by simp only [lvs]; omega⟩
      · split at h
        · rename_i c; obtain ⟨k1, k2⟩ := nxt_pos ha (show (nxt s a).1 ≠ 0 by omega); obtain ⟨x, y, a1, a3, h1, h2, h3, h4, h5, h6⟩ := ptwo_two h; have p1 := pset_place s n _ _ _ k1 h1; have p2 := nxt_le s a1 p1.2; have p3 := pset_place s n _ _ _ p2.2 h2; have p4 := nxt_le s a3 p3.2; obtain ⟨q1, q2⟩ := pset_ok s n _ _ _ k1 h1; obtain ⟨q3, q4⟩ := pset_ok s n _ _ _ p2.2 h2; subst h5; subst h6; exact ⟨.two h3 q1 q3, by simp only [lvs]; omega⟩
        · cases h
def PostS (w0 w : World) (P : Nat → Prop) (r : Option (Int × List Int × Nat)) (e : Ending) (w' : World) : Prop :=
  Below w0.heap.size w0 w' ∧ Kept w w' P ∧ match r with
  | none => ∃ (x : Int) (v : Value), e = .returned (.tuple #[.int .i64 x, v, .int .i64 (-1)])
  | some (x, l, q) => ∃ v, e = .returned (.tuple #[.int .i64 x, v, .int .i64 (q : Int)]) ∧ Kd.R (Kd.int .i64) 3 w' w0.heap.size (fun k => P k ∨ w.heap.size ≤ k) v l
theorem PostS.none {w0 w w' : World} {P : Nat → Prop} {x : Int} {v : Value} (h : Below w0.heap.size w0 w') (k : Kept w w' P) : PostS w0 w P none (.returned (.tuple #[.int .i64 x, v, .int .i64 (-1)])) w' := And.intro h (And.intro k ⟨x, v, rfl⟩)
theorem PostS.some {w0 w w' : World} {P : Nat → Prop} {x y : Int} {v : Value} {l : List Int} {q : Nat} {i : Int} (h : Below w0.heap.size w0 w') (k : Kept w w' P) (hr : Kd.R (Kd.int .i64) 3 w' w0.heap.size (fun k => P k ∨ w.heap.size ≤ k) v l) (hx : y = x) (hi : i = (q : Int)) : PostS w0 w P (some (x, l, q)) (.returned (.tuple #[.int .i64 y, v, .int .i64 i])) w' := by
  subst hi; subst hx; exact And.intro h (And.intro k ⟨v, rfl, hr⟩)
def sres (L : List Int) (sign : Int) (l : List Int) : Option (PT × Nat) → Option (Int × List Int × Nat)
  | none => none
  | some (p, e) => some (setv L p, l ++ sgn sign p, e)
theorem wr_in {x : Int} (h : -9223372036854775808 ≤ x) (k : x ≤ 9223372036854775807) : IntKind.i64.wrap x = x := by rw [IntKind.wrap_i64]; omega
theorem wr_w {x y : Int} (h : IntKind.i64.wrap x = y) : wrap64 x = y := by rw [← h, i64_w]
theorem wr_byte {z : Int} (h : 0 ≤ z ∧ z ≤ 255) : IntKind.i64.wrap z = z ∧ IntKind.i64.wrap (z - 97) = z - 97 := ⟨wr_in (by omega) (by omega), wr_in (by omega) (by omega)⟩
theorem wr_succ {a : Nat} (h : a ≤ 17592186044415) : IntKind.i64.wrap ((a : Int) + 1) = (a : Int) + 1 := wr_in (by omega) (by omega)
set_option maxHeartbeats 8000000 in
set_option maxRecDepth 100000 in
theorem spec_l7Set.calls (s : ByteArray) (hsz : s.size ≤ 17592186044415) (L : List Int) (hL : Sets L) (A : Option Addr) (c : Nat) (hc : L.length ≤ c) (w0 : World) : ∀ (n a : Nat) (sign : Int) (l : List Int) (u : Value) (P : Nat → Prop) (w : World), a ≤ s.size → s.size < a + n → -1 ≤ sign → sign ≤ 1 → l.length + (s.size - a) ≤ 17592186044415 → Below w0.heap.size w0 w →
    (∀ W_, Kept w W_ P → Kd.C (Kd.int .i64) W_ A L.length L) → Kd.R (Kd.int .i64) 3 w w0.heap.size P u l →
    Calls Try.prog 48 #[.slice A L.length c, .string s, .int .i64 (a : Int), .int .i64 sign, u] w (PostS w0 w P (sres L sign l (pset n s a))) := by
  intro n
  induction n with
  | zero => intro a sign l u P w ha hn; exact absurd hn (by omega)
  | succ n ih =>
    intro a sign l u P w ha hn hs0 hs1 hln hB hS hR; obtain ⟨Au, cu, rfl⟩ := Kd.R_slice hR; by_cases hlt : a < s.size
    · have hz := nxt_range s a; (have hzb : (nxt s a).1 = bt s a := by rw [nxt_lt hlt]); unfold pset; rw [hzb] at hz ⊢; have hx5 := bt_nat s a; (have p5 : 0 ≤ (a : Int) := by omega); (have q5 : (a : Int) < (s.size : Int) := by omega); (have q6 : ¬ (s.size : Int) ≤ (a : Int) := by omega); have q6b : decide ((s.size : Int) ≤ (a : Int)) = false := decide_eq_false q6; have q6c : decide (s.size ≤ a) = false := decide_eq_false (by omega); have E1 : Aside0 (wrap64 ((a : Int) + 1) = (a : Int) + 1) := ⟨by unfold wrap64; omega⟩; obtain ⟨z, hz0⟩ : ∃ z, bt s a = z := ⟨_, rfl⟩; rw [hz0] at hz hx5 ⊢; by_cases c1 : 97 ≤ z ∧ z ≤ 100
      · rw [if_pos c1]; have c1a : decide (97 ≤ z) = true := decide_eq_true c1.1; have c1b : decide (z < 101) = true := decide_eq_true (by omega); have hC := hS w (Kept.refl w P); obtain ⟨ad, hA, hcell⟩ := Kd.at_int hC (z - 97) (by omega) (by have := hL.1; omega); subst hA
        have hAt : Aside0 (∀ W_, Kept w W_ P → W_.cell? (ad.add (z - 97).toNat) = some (.int .i64 (rd L (z - 97)))) := ⟨fun W_ hk => by
          obtain ⟨ad', hA', hcell'⟩ := Kd.at_int (hS W_ hk) (z - 97) (by omega) (by have := hL.1; omega); have hA' := Option.some.inj hA'; rw [hA']
          exact hcell'⟩
        have hcella := hAt.out (w.alloc (.cells #[.int .i64 sign] 3)) (Kept.alloc (Kept.refl w P) _); have HO := Az (Kd.R_mono (ok' := fun k => P k ∨ w.heap.size ≤ k) hR (fun k hk => .inl hk)); have HR := Aside0.mk hR; have HB := Aside0.mk hB; have LM := Az (show l.length < 17592186044416 by omega); (have f1 : 0 ≤ z - 97 := by omega); (have f2 : z - 97 < (L.length : Int) := by have := hL.1; omega); (have f5 : z - 97 < (c : Int) := by omega); obtain ⟨f6, f7⟩ := wr_byte hz; have f8 := wr_succ (Nat.le_trans ha hsz); have f9 : 97 ≤ z := c1.1; have f3 := wr_w f7; have f4 := wr_w f6; (have mixed : Try.prog.follows Departure.mixedOrders = true := by kernel_rfl); simp only [sres]; clear ih hC hS hR hB hz hn ha hs0 hs1 hln hz0 q6 c1; have e1 := E1.out; (try have g1 := G1.out); (try have g2 := G2.out); go_enter Try.func48, Try.ntmps48; go_upto_region 4 with fail; go_region_law_o (refine Kd.R_append_step (Kd.int .i64) (W := w.drew) (w0 := w0) w0.heap.size (by rfl) (.tmp 46) (.tmp 48) 29 3 (.int .i64 0) 8 rfl Try.underlying29 info3 rfl (by decide) (by omega) (.slice Au l.length cu) l sign [.int .i64 sign] (fun k => P k ∨ w.heap.size ≤ k) (fun _ => False) rfl rfl ?aP (fun _ hk => hk.elim) ?aF ?aO ?aB ?aS ?aL ?_; (case aP => exact rfl); (case aF => exact fun k hk => .inr hk); (case aO => exact (dR (HO.out))); (case aB => exact (by repeat (first | exact HB.out | apply pw_below_drewN | apply below_drew1))); (case aS => exact HB.out.size); (case aL => have := LM.out; omega); intro v1 w1 ho1 hb1 hg1 hat1; have HB1 := Aside0.mk hb1; have HO1 := Aside0.mk ho1; have HK1 := Az (Kept.of_grown hg1 (Kept.drewN (Kept.drew (Kept.refl w P)) 0) (fun k hk => .inl (HR.out.1 k hk))); have hcl1 := hAt.out w1 HK1.out; clear hb1 ho1 hg1 hat1)
        all_goals
          go_wp2; go_ret3; exact PostS.some HB1.out HK1.out HO1.out rfl (by first | rfl | go_num | (simp; done))
      · rw [if_neg c1]; (have HS := fun wx (hk : Kept w wx P) => hS wx hk); have HB := Aside0.mk hB; by_cases c2 : z = 33
        · rw [if_pos c2]; subst c2; have HA : Calls Try.prog 48 #[.slice A L.length c, .string s, .int .i64 ((a : Int) + 1), .int .i64 (-sign), .slice Au l.length cu] w (PostS w0 w P (sres L (-sign) l (pset n s (a + 1)))) := ih (a + 1) (-sign) l (.slice Au l.length cu) P w (by omega) (by omega) (by omega) (by omega) (by omega) hB hS hR; have G1 : Aside0 (wrap64 (-sign) = -sign) := ⟨by unfold wrap64; omega⟩
          cases hp : pset n s (a + 1) with
          | none =>
            rw [hp] at HA; replace HA := Aside0.mk HA; simp only [sres]; clear ih hS HS hR hB hz hn ha hs0 hs1 hln hz0 q6 c1 hp hlt hzb; have e1 := E1.out; (try have g1 := G1.out); (try have g2 := G2.out); go_enter Try.func48, Try.ntmps48; go_wp2_with ((with_reducible refine HA.out.mono ?_); rintro e w2 ⟨hb2, hk2, x2, v2, rfl⟩; have HB2 := Aside0.mk hb2; have HK2 := Aside0.mk hk2; clear hb2 hk2); go_ret3; exact PostS.none HB2.out HK2.out
          | some r =>
            obtain ⟨p, e⟩ := r; obtain ⟨kp, _⟩ := pset_ok s n (a + 1) p e (by omega) hp; have hv := setv_range hL kp; rw [hp] at HA; simp only [sres, sgn, setv] at HA ⊢; obtain ⟨X, hX⟩ : ∃ X, setv L p = X := ⟨_, rfl⟩; rw [hX] at HA hv ⊢; have G2 : Aside0 (wrap64 (7 - X) = 7 - X) := ⟨by unfold wrap64; omega⟩; replace HA := Aside0.mk HA; clear ih hS HS hR hB hz hn ha hs0 hs1 hln hz0 q6 c1 hp hlt hzb kp hX hv; have e1 := E1.out; (try have g1 := G1.out); (try have g2 := G2.out); go_enter Try.func48, Try.ntmps48; go_wp2_with ((with_reducible refine HA.out.mono ?_); rintro e w2 ⟨hb2, hk2, v2, rfl, hr2⟩; have HB2 := Aside0.mk hb2; have HK2 := Aside0.mk hk2; have HR2 := Aside0.mk hr2; clear hb2 hk2 hr2); go_ret3; exact PostS.some HB2.out HK2.out HR2.out (by first | rfl | exact G2.out) rfl
        · rw [if_neg c2]; have d2 : (z == 33) = false := by rw [beq_eq_false_iff_ne]; exact c2
          have c1a : decide (97 ≤ z) = false ∨ decide (z < 101) = false := by
            by_cases k : 97 ≤ z
            · right; exact decide_eq_false (by omega)
            · left; exact decide_eq_false k
          by_cases c3 : z = 40
          · rw [if_pos c3]; subst c3; clear c1a d2; have HA : Calls Try.prog 48 #[.slice A L.length c, .string s, .int .i64 ((a : Int) + 1), .int .i64 sign, .slice Au l.length cu] w (PostS w0 w P (sres L sign l (pset n s (a + 1)))) := ih (a + 1) sign l (.slice Au l.length cu) P w (by omega) (by omega) (by omega) (by omega) (by omega) hB hS hR; unfold ptwo
            cases hp : pset n s (a + 1) with
            | none =>
              rw [hp] at HA; replace HA := Aside0.mk HA; simp only [sres]; clear ih hS HS hR hB hz hn ha hs0 hs1 hln hz0 q6 c1 hlt hzb hp; have e1 := E1.out; go_enter Try.func48, Try.ntmps48; go_wp2_with (first | ((with_reducible refine HA.out.mono ?_); rintro e w2 ⟨hb2, hk2, x2, v2, rfl⟩; have HB2 := Aside0.mk hb2; have HK2 := Aside0.mk hk2; clear hb2 hk2)); go_ret3; exact PostS.none HB2.out HK2.out
            | some r =>
              obtain ⟨p, a1⟩ := r; obtain ⟨kp, kl⟩ := pset_ok s n (a + 1) p a1 (by omega) hp; obtain ⟨ka, kb⟩ := pset_place s n (a + 1) p a1 (by omega) hp; have hv := setv_range hL kp; have hlen := sgn_len sign kp; rw [hp] at HA; simp only [sres] at HA ⊢; obtain ⟨X, hX⟩ : ∃ X, setv L p = X := ⟨_, rfl⟩; rw [hX] at HA hv; replace HA := Aside0.mk HA; have m0 : decide ((a1 : Int) < 0) = false := decide_eq_false (by omega); by_cases hl1 : a1 < s.size
              · have hz1 := nxt_range s a1; rw [nxt_lt hl1] at hz1 ⊢; have hx6 := bt_nat s a1; simp only at hz1 ⊢; obtain ⟨z1, hz2⟩ : ∃ z, bt s a1 = z := ⟨_, rfl⟩; rw [hz2] at hz1 hx6 ⊢; have m1 : decide ((s.size : Int) ≤ (a1 : Int)) = false := decide_eq_false (by omega); have m2 : decide (s.size ≤ a1) = false := decide_eq_false (by omega); (have m3 : 0 ≤ (a1 : Int) := by omega); (have m4 : (a1 : Int) < (s.size : Int) := by omega); by_cases c5 : z1 = 38 ∨ z1 = 124
                · rw [if_neg (fun hn => (ind2 hz1.1 hz1.2).1 hn c5)]; (have HQ : ∀ wx vx, Below w0.heap.size w0 wx → Kept w wx P → Kd.R (Kd.int .i64) 3 wx w0.heap.size (fun k => P k ∨ w.heap.size ≤ k) vx (l ++ sgn sign p) → Calls Try.prog 48 #[.slice A L.length c, .string s, .int .i64 ((a1 : Int) + 1), .int .i64 sign, vx] wx (PostS w0 wx (fun k => P k ∨ w.heap.size ≤ k) (sres L sign (l ++ sgn sign p) (pset n s (a1 + 1)))) := fun wx vx hbx hkx hrx => ih (a1 + 1) sign (l ++ sgn sign p) vx (fun k => P k ∨ w.heap.size ≤ k) wx (by omega) (by omega) hs0 hs1 (by rw [List.length_append, hlen]; omega) hbx (fun W_ hk => hS W_ (hkx.then_ hk (fun k h => h))) hrx); have E2 : Aside0 (wrap64 ((a1 : Int) + 1) = (a1 : Int) + 1) := ⟨by unfold wrap64; omega⟩
                  cases hq : pset n s (a1 + 1) with
                  | none =>
                    rw [hq] at HQ; replace HQ := Aside0.mk HQ; simp only [sres] at HQ ⊢; clear ih hS HS hR hB hz hn ha hs0 hs1 hln hz0 q6 c1 hlt hzb hp hq kp kl ka kb hv hlen hX hl1 hz1 hz2; rcases c5 with rfl | rfl
                    all_goals
                      skip; have e2 := E2.out; have e1 := E1.out; go_enter Try.func48, Try.ntmps48; go_wp2_with (first | ((with_reducible refine HA.out.mono ?_); rintro e w2 ⟨hb2, hk2, v2, rfl, hr2⟩; have HB2 := Aside0.mk hb2; have HK2 := Aside0.mk hk2; have HR2 := Aside0.mk hr2; clear hb2 hk2 hr2) | ((with_reducible refine (HQ.out w2 v2 HB2.out HK2.out HR2.out).mono ?_); rintro e w3 ⟨hb3, hk3, x3, v3, rfl⟩; have HB3 := Aside0.mk hb3; have HK3 := Aside0.mk hk3; clear hb3 hk3)); go_ret3; exact PostS.none HB3.out (HK2.out.then_ HK3.out (fun k h => h))
                  | some r =>
                    obtain ⟨q, a3⟩ := r; obtain ⟨kp', kl'⟩ := pset_ok s n (a1 + 1) q a3 (by omega) hq; obtain ⟨ka', kb'⟩ := pset_place s n (a1 + 1) q a3 (by omega) hq; have hv' := setv_range hL kp'; rw [hq] at HQ; simp only [sres] at HQ ⊢; have HV : Aside0 (setv L (PT.two z1 p q) = if z1 = 38 then band X (setv L q) else bor X (setv L q)) := ⟨by rw [← hX]; rfl⟩; obtain ⟨Y, hY⟩ : ∃ Y, setv L q = Y := ⟨_, rfl⟩; rw [hY] at HQ hv' HV; replace HQ := Aside0.mk HQ; have n0 : decide ((a3 : Int) < 0) = false := decide_eq_false (by omega); by_cases hl3 : a3 < s.size
                    · have hz3 := nxt_range s a3; rw [nxt_lt hl3] at hz3 ⊢; have hx7 := bt_nat s a3; simp only at hz3 ⊢; obtain ⟨z3, hz4⟩ : ∃ z, bt s a3 = z := ⟨_, rfl⟩; rw [hz4] at hz3 hx7 ⊢; have n1 : decide ((s.size : Int) ≤ (a3 : Int)) = false := decide_eq_false (by omega); have n2 : decide (s.size ≤ a3) = false := decide_eq_false (by omega); (have n3 : 0 ≤ (a3 : Int) := by omega); (have n4 : (a3 : Int) < (s.size : Int) := by omega); by_cases c6 : z3 = 41
                      · rw [if_pos c6]; subst c6; have bf := band_facts hv.1 hv.2 hv'.1 hv'.2; have HL2 := Az (fun wx => spec_l2Both.calls 20 X Y _ wx (both_eq hv.1 hv.2 hv'.1 hv'.2)); have E3 : Aside0 (wrap64 ((a3 : Int) + 1) = (a3 : Int) + 1) := ⟨by unfold wrap64; omega⟩; have E4 : Aside0 (wrap64 (X + Y) = X + Y) := ⟨by unfold wrap64; omega⟩; have E5 : Aside0 (wrap64 (X + Y - band X Y) = X + Y - band X Y) := ⟨by unfold wrap64; omega⟩; have E6 : Aside0 (X + Y - band X Y = bor X Y) := ⟨bf.2.2.2.2⟩; simp only [sres, sgn]; rw [HV.out, ← List.append_assoc]; clear ih hS HS hR hB hz hn ha hs0 hs1 hln hz0 q6 c1 hlt hzb hp hq kp kl ka kb hv hlen hX hl1 hz1 hz2 kp' kl' ka' kb' hv' hY hl3 hz3 hz4 bf; rcases c5 with rfl | rfl
                        · rw [if_pos rfl]; have e1 := E1.out; have e2 := E2.out; have e3 := E3.out; have e4 := E4.out; have e5 := E5.out; go_enter Try.func48, Try.ntmps48; go_wp2_with (first | ((with_reducible refine HA.out.mono ?_); rintro e w2 ⟨hb2, hk2, v2, rfl, hr2⟩; have HB2 := Aside0.mk hb2; have HK2 := Aside0.mk hk2; have HR2 := Aside0.mk hr2; clear hb2 hk2 hr2) | ((with_reducible refine (HQ.out w2 v2 HB2.out HK2.out HR2.out).mono ?_); rintro e w3 ⟨hb3, hk3, v3, rfl, hr3⟩; have HB3 := Aside0.mk hb3; have HK3 := Aside0.mk hk3; have HR3 := Aside0.mk hr3; clear hb3 hk3 hr3) | (go_at_call 51; (with_reducible refine (HL2.out _).mono ?_); rintro e w4 ⟨rfl, ⟨nd, rfl⟩⟩)); go_ret3; exact PostS.some (by repeat (first | exact HB3.out | apply pw_below_drewN)) (by repeat (first | exact HK2.out.then_ HK3.out (fun k h => h) | apply Kept.drewN)) (by repeat (first | exact Kd.R_mono HR3.out (fun k hk => hk.elim id (fun h => .inr (Nat.le_trans HK2.out.1 h))) | apply Kd.R_drewN)) (by with_reducible first | rfl | exact E6.out | exact E5.out.trans E6.out) (by first | rfl | go_num)
                        · rw [if_neg (by decide)]; have e1 := E1.out; have e2 := E2.out; have e3 := E3.out; have e4 := E4.out; have e5 := E5.out; go_enter Try.func48, Try.ntmps48; go_wp2_with (first | ((with_reducible refine HA.out.mono ?_); rintro e w2 ⟨hb2, hk2, v2, rfl, hr2⟩; have HB2 := Aside0.mk hb2; have HK2 := Aside0.mk hk2; have HR2 := Aside0.mk hr2; clear hb2 hk2 hr2) | ((with_reducible refine (HQ.out w2 v2 HB2.out HK2.out HR2.out).mono ?_); rintro e w3 ⟨hb3, hk3, v3, rfl, hr3⟩; have HB3 := Aside0.mk hb3; have HK3 := Aside0.mk hk3; have HR3 := Aside0.mk hr3; clear hb3 hk3 hr3) | (go_at_call 51; (with_reducible refine (HL2.out _).mono ?_); rintro e w4 ⟨rfl, ⟨nd, rfl⟩⟩)); go_ret3; exact PostS.some (by repeat (first | exact HB3.out | apply pw_below_drewN)) (by repeat (first | exact HK2.out.then_ HK3.out (fun k h => h) | apply Kept.drewN)) (by repeat (first | exact Kd.R_mono HR3.out (fun k hk => hk.elim id (fun h => .inr (Nat.le_trans HK2.out.1 h))) | apply Kd.R_drewN)) (by with_reducible first | rfl | exact E6.out | exact E5.out.trans E6.out) (by first | rfl | go_num)
                      · rw [if_neg c6]; (have d6 : (z3 != 41) = true := by simp [c6]); (have d7 : (z3 == 41) = false := by simp [c6]); simp only [sres]; clear ih hS HS hR hB hz hn ha hs0 hs1 hln hz0 q6 c1 hlt hzb hp hq kp kl ka kb hv hlen hX hl1 hz1 hz2 kp' kl' ka' kb' hv' hY hl3 hz3 hz4 HV c6; rcases c5 with rfl | rfl
                        all_goals
                          skip; have e2 := E2.out; have e1 := E1.out; go_enter Try.func48, Try.ntmps48; go_wp2_with (first | ((with_reducible refine HA.out.mono ?_); rintro e w2 ⟨hb2, hk2, v2, rfl, hr2⟩; have HB2 := Aside0.mk hb2; have HK2 := Aside0.mk hk2; have HR2 := Aside0.mk hr2; clear hb2 hk2 hr2) | ((with_reducible refine (HQ.out w2 v2 HB2.out HK2.out HR2.out).mono ?_); rintro e w3 ⟨hb3, hk3, v3, rfl, hr3⟩; have HB3 := Aside0.mk hb3; have HK3 := Aside0.mk hk3; have HR3 := Aside0.mk hr3; clear hb3 hk3 hr3)); go_ret3; exact PostS.none HB3.out (HK2.out.then_ HK3.out (fun k h => h))
                    · rw [nxt_end hl3]; have n1 : decide ((s.size : Int) ≤ (a3 : Int)) = true := decide_eq_true (by omega); have n2 : decide (s.size ≤ a3) = true := decide_eq_true (by omega); rw [if_neg (by simp)]; simp only [sres]; clear ih hS HS hR hB hz hn ha hs0 hs1 hln hz0 q6 c1 hlt hzb hp hq kp kl ka kb hv hlen hX hl1 hz1 hz2 kp' kl' ka' kb' hv' hY hl3 HV; rcases c5 with rfl | rfl
                      all_goals
                        skip; have e2 := E2.out; have e1 := E1.out; go_enter Try.func48, Try.ntmps48; go_wp2_with (first | ((with_reducible refine HA.out.mono ?_); rintro e w2 ⟨hb2, hk2, v2, rfl, hr2⟩; have HB2 := Aside0.mk hb2; have HK2 := Aside0.mk hk2; have HR2 := Aside0.mk hr2; clear hb2 hk2 hr2) | ((with_reducible refine (HQ.out w2 v2 HB2.out HK2.out HR2.out).mono ?_); rintro e w3 ⟨hb3, hk3, v3, rfl, hr3⟩; have HB3 := Aside0.mk hb3; have HK3 := Aside0.mk hk3; have HR3 := Aside0.mk hr3; clear hb3 hk3 hr3)); go_ret3; exact PostS.none HB3.out (HK2.out.then_ HK3.out (fun k h => h))
                · rw [if_pos ((ind2 hz1.1 hz1.2).2 c5)]; (have d4 : (z1 != 38) = true := by simp; omega); (have d5 : (z1 != 124) = true := by simp; omega); (have d4' : (z1 == 38) = false := by simp; omega); (have d5' : (z1 == 124) = false := by simp; omega); simp only [sres]; clear ih hS HS hR hB hz hn ha hs0 hs1 hln hz0 q6 c1 hlt hzb hp kp kl ka kb hv hlen hX hl1 hz1 hz2 c5; have e1 := E1.out; go_enter Try.func48, Try.ntmps48; go_wp2_with (first | ((with_reducible refine HA.out.mono ?_); rintro e w2 ⟨hb2, hk2, v2, rfl, hr2⟩; have HB2 := Aside0.mk hb2; have HK2 := Aside0.mk hk2; have HR2 := Aside0.mk hr2; clear hb2 hk2 hr2)); go_ret3; exact PostS.none HB2.out HK2.out
              · rw [nxt_end hl1]; have m1 : decide ((s.size : Int) ≤ (a1 : Int)) = true := decide_eq_true (by omega); have m2 : decide (s.size ≤ a1) = true := decide_eq_true (by omega); rw [if_pos (show Lib.indexByte [38, 124] (0 : Int).toNat.toUInt8 < 0 by decide)]; simp only [sres]; clear ih hS HS hR hB hz hn ha hs0 hs1 hln hz0 q6 c1 hlt hzb hp kp kl ka kb hv hlen hX hl1; have e1 := E1.out; go_enter Try.func48, Try.ntmps48; go_wp2_with (first | ((with_reducible refine HA.out.mono ?_); rintro e w2 ⟨hb2, hk2, v2, rfl, hr2⟩; have HB2 := Aside0.mk hb2; have HK2 := Aside0.mk hk2; have HR2 := Aside0.mk hr2; clear hb2 hk2 hr2)); go_ret3; exact PostS.none HB2.out HK2.out
          · rw [if_neg c3]; (have d3 : (z == 40) = false := by rw [beq_eq_false_iff_ne]; exact c3); simp only [sres]; by_cases k : 97 ≤ z
            · have k1 : decide (97 ≤ z) = true := decide_eq_true k; have k2 : decide (z < 101) = false := decide_eq_false (by omega); clear ih hS HS hR hB hz hn ha hs0 hs1 hln hz0 q6 c1 hlt hzb c2 c3 c1a k; have e1 := E1.out; (try have g1 := G1.out); (try have g2 := G2.out); go_enter Try.func48, Try.ntmps48; go_wp2; go_ret3; exact PostS.none HB.out (Kept.refl _ _)
            · have k1 : decide (97 ≤ z) = false := decide_eq_false k; clear ih hS HS hR hB hz hn ha hs0 hs1 hln hz0 q6 c1 hlt hzb c2 c3 c1a k; have e1 := E1.out; (try have g1 := G1.out); (try have g2 := G2.out); go_enter Try.func48, Try.ntmps48; go_wp2; go_ret3; exact PostS.none HB.out (Kept.refl _ _)
    · (obtain rfl : a = s.size := by omega); have q6b : decide ((s.size : Int) ≤ (s.size : Int)) = true := decide_eq_true (Int.le_refl _); have E1 : Aside0 True := ⟨trivial⟩; (have hp : pset (n + 1) s s.size = none := by unfold pset; rw [nxt_end (by omega)]; rfl); rw [hp]; simp only [sres]; have HB := Aside0.mk hB; clear hp hlt ih hS hR hB hn ha hs0 hs1 hln; have e1 := E1.out; (try have g1 := G1.out); (try have g2 := G2.out); go_enter Try.func48, Try.ntmps48; go_wp2; go_ret3; exact PostS.none HB.out (Kept.refl _ _)

/-! ### spec_l2Size: function 50 -/
def spec_l2Size.l0 : Nat → Int → Int → Int → Option (Int)
  | 0, _, _, _ => none
  | k + 1, x0, x3, x4 => if x4 < 8 then (if 0 ≤ x4 then (spec_l2Size.l0 k x0 (wrap64 (x3 + (Int.tmod (shr .i64 x0 x4) 2))) (wrap64 (x4 + 1))) else (none)) else (some x3)
def spec_l2Size.f (k : Nat) (a0 : Int) : Option (Int) := spec_l2Size.l0 k a0 0 0
theorem spec_l2Size.mono_l : ∀ k, (∀ y0 y1 y2, LeO (spec_l2Size.l0 k y0 y1 y2) (spec_l2Size.l0 (k + 1) y0 y1 y2))
  | 0 => fun _ _ _ r h => by simp [spec_l2Size.l0] at h
  | k + 1 => by
    have ih0 := spec_l2Size.mono_l k
    · intro y0 y1 y2; unfold spec_l2Size.l0; repeat' first
      | (with_reducible exact ih0 _ _ _)
      | (with_reducible exact LeO.refl _)
      | (with_reducible exact LeO.none _)
      | (with_reducible refine LeO.ite ?_ ?_)
      | (with_reducible refine LeO.bind ?_ (fun _ => ?_))
      | exact ih0 _ _ _
      | exact LeO.none _
      | refine LeO.ite ?_ ?_
      | refine LeO.bind ?_ (fun _ => ?_)
theorem spec_l2Size.mono : ∀ a0 k, LeO (spec_l2Size.f k a0) (spec_l2Size.f (k + 1) a0) := by
  intro a0 k; have ih0 := spec_l2Size.mono_l k; unfold spec_l2Size.f
  repeat' first
      | (with_reducible exact ih0 _ _ _)
      | (with_reducible exact LeO.refl _)
      | (with_reducible exact LeO.none _)
      | (with_reducible refine LeO.ite ?_ ?_)
      | (with_reducible refine LeO.bind ?_ (fun _ => ?_))
      | exact ih0 _ _ _
      | exact LeO.none _
      | refine LeO.ite ?_ ?_
      | refine LeO.bind ?_ (fun _ => ?_)
set_option maxHeartbeats 8000000 in
set_option maxRecDepth 100000 in
theorem spec_l2Size.calls (k : Nat) (a0 : Int) (r : Int) (w : World) (h : spec_l2Size.f k a0 = some r) :
    Calls Try.prog 50 #[.int .i64 a0] w fun e w' => e = .returned (.int .i64 r) ∧ Drawn0 w w' := by
  have H : (spec_l2Size.l0 k a0 0 0) = some r := h; clear h; have H' := Aside0.mk H; clear H; go_enter Try.func50, Try.ntmps50; go_wp2; go_loopg [3, 4] k (fun kq v3 v4 w' => ∃ (x3_1 : Int) (x4_1 : Int), v3 = .int .i64 x3_1 ∧ v4 = .int .i64 x4_1 ∧ Aside0 (spec_l2Size.l0 kq a0 x3_1 x4_1 = some r) ∧ Aside0 (kq ≤ k) ∧ Drawn0 w w'); case atStart => exact ⟨(0), (0), mr, mr, H', ⟨Nat.le_refl _⟩, by repeat (first | exact Drawn0.refl _ | apply Drawn0.step)⟩
  case round =>
    clear H'; obtain ⟨x3_1, x4_1, rfl, rfl, HA, HK1, ⟨m1, rfl⟩⟩ := hrel
    cases gk with
    | zero => exact absurd HA.out (by simp [spec_l2Size.l0])
    | succ k1 =>
      have H := HA.out; clear HA; simp only [spec_l2Size.l0] at H; by_cases c2 : x4_1 < 8
      · rw [if_pos c2] at H; have c2b0 : decide (x4_1 < 8) = true := decide_eq_true c2; clear c2; by_cases c3 : 0 ≤ x4_1
        · rw [if_pos c3] at H; have c3b0 := eq_true c3; have c3b1 : decide (0 ≤ x4_1) = true := decide_eq_true c3; clear c3; obtain ⟨ji4, hji4⟩ : ∃ j_ : Int, (shr .i64 a0 x4_1) = j_ := ⟨_, rfl⟩; (replace H : (spec_l2Size.l0 k1 a0 (wrap64 (x3_1 + (Int.tmod (ji4) 2))) (wrap64 (x4_1 + 1))) = some r := by first | (rw [hji4] at H; exact H) | (simp only [hji4] at H ⊢; exact H)); have hji4_ : (a0 / 2 ^ min x4_1.toNat 64) = ji4 := hji4; have hji4z : x4_1 ≤ 64 → (a0 / 2 ^ x4_1.toNat) = ji4 := shr_small hji4; have H' := Aside0.mk H; clear H; go_wp2; go_roundg k1; (case measure => have := HK1.out; omega); case rel => exact ⟨(wrap64 (x3_1 + (Int.tmod (ji4) 2))), (wrap64 (x4_1 + 1)), (by first | rfl | (simp; done) | (simp only [← hji4] <;> (first | rfl | simp)) | (simp [*]; done)), mr, H', ⟨by have := HK1.out; omega⟩, by repeat (first | exact Drawn0.refl _ | apply Drawn0.step)⟩
        · rw [if_neg c3] at H; exact absurd H (by simp)
      · rw [if_neg c2] at H; have c2b0 : decide (x4_1 < 8) = false := decide_eq_false c2; clear c2; obtain rfl := Option.some.inj H; go_wp2; go_ret; exact ⟨mr, by repeat (first | exact Drawn0.refl _ | apply Drawn0.step)⟩

end Go.Proofs.Ytfjfdnododnepaa.PFnReplacedIn
