-- Written by a program of this session (wip/patch_print.py, over the kit's print) and not by hand; Lean checks every word.
import Derived.Test.YtmohhjbcdfhopaaPFnAtOncex0
import Derived.Test.YtmohhjbcdfhopaaPFnAtOncex4
namespace Go.Proofs.Ytmohhjbcdfhopaa.PFnAtOnce
open Go.RowKit Go.Proofs.YtmohhjbcdfhopaaW.PrintWords Go.Proofs.YtmohhjbcdfhopaaW.PrintLast Go.Proofs.YtmohhjbcdfhopaaW.PrintMore
attribute [local go_sem] max2_int min2_int max_two min_two max_three min_three max_four min_four   -- for this text's walks alone
set_option linter.unusedVariables false
set_option linter.unusedSimpArgs false

/-! ### impl_countIn: function 85 -/
def impl_countIn.f (a0 : ByteArray) (a1 : ByteArray) (a2 : Int) (a3 : Int) : Option (Int × Bool) := (strings_CutPrefix.f a0 a1).bind fun bt216 => (if bt216.2 = true then (if (bt216.1.size : Int) = 1 then (if 0 < (bt216.1.size : Int) then (if (wrap64 ((wrap64 (bt bt216.1 0)) - 48)) ≥ a2 then (some (wrap64 ((wrap64 (bt bt216.1 0)) - 48), decide ((wrap64 ((wrap64 (bt bt216.1 0)) - 48)) ≤ a3))) else (some (wrap64 ((wrap64 (bt bt216.1 0)) - 48), false))) else (none)) else (some (0, false))) else (some (0, false)))
set_option maxHeartbeats 8000000 in
set_option maxRecDepth 100000 in
theorem impl_countIn.calls (a0 : ByteArray) (a1 : ByteArray) (a2 : Int) (a3 : Int) (r1 : Int) (r2 : Bool) (w : World) (h : impl_countIn.f a0 a1 a2 a3 = some (r1, r2)) :
    Calls Try.prog 85 #[.string a0, .string a1, .int .i64 a2, .int .i64 a3] w fun e w' => e = .returned (.tuple #[.int .i64 r1, .bool r2]) ∧ Drawn0 w w' := by
  have H : ((strings_CutPrefix.f a0 a1).bind fun bt216 => (if bt216.2 = true then (if (bt216.1.size : Int) = 1 then (if 0 < (bt216.1.size : Int) then (if (wrap64 ((wrap64 (bt bt216.1 0)) - 48)) ≥ a2 then (some (wrap64 ((wrap64 (bt bt216.1 0)) - 48), decide ((wrap64 ((wrap64 (bt bt216.1 0)) - 48)) ≤ a3))) else (some (wrap64 ((wrap64 (bt bt216.1 0)) - 48), false))) else (none)) else (some (0, false))) else (some (0, false)))) = some (r1, r2) := h
  clear h
  replace H := Option.bind_eq_some_iff.mp H
  obtain ⟨⟨t216, t217⟩, A50, H⟩ := H
  replace H : (if t217 = true then (if (t216.size : Int) = 1 then (if 0 < (t216.size : Int) then (if (wrap64 ((wrap64 (bt t216 0)) - 48)) ≥ a2 then (some (wrap64 ((wrap64 (bt t216 0)) - 48), decide ((wrap64 ((wrap64 (bt t216 0)) - 48)) ≤ a3))) else (some (wrap64 ((wrap64 (bt t216 0)) - 48), false))) else (none)) else (some (0, false))) else (some (0, false))) = some (r1, r2) := H
  have A5 := Aside0.mk A50
  clear A50
  by_cases c6 : t217 = true
  · subst c6
    have H1 : (if (t216.size : Int) = 1 then (if 0 < (t216.size : Int) then (if (wrap64 ((wrap64 (bt t216 0)) - 48)) ≥ a2 then (some (wrap64 ((wrap64 (bt t216 0)) - 48), decide ((wrap64 ((wrap64 (bt t216 0)) - 48)) ≤ a3))) else (some (wrap64 ((wrap64 (bt t216 0)) - 48), false))) else (none)) else (some (0, false))) = some (r1, r2) := by rw [if_pos rfl] at H; exact H
    clear H
    have H := H1
    clear H1
    by_cases c7 : (t216.size : Int) = 1
    · rw [if_pos c7] at H
      have c7b0 : ((t216.size : Int) == 1) = true := beq_iff_eq.mpr c7
      have c7b1 : ((t216.size : Int) != 1) = false := bne_eq_false_iff_eq.mpr c7
      clear c7
      by_cases c8 : 0 < (t216.size : Int)
      · rw [if_pos c8] at H
        have c8b0 : decide (0 < (t216.size : Int)) = true := decide_eq_true c8
        have c8b1 : decide (0 < t216.size) = true := decide_eq_true (by omega)
        clear c8
        by_cases c10 : (wrap64 ((wrap64 (bt t216 0)) - 48)) ≥ a2
        · rw [if_pos c10] at H
          have c10b0 : decide (a2 ≤ (wrap64 ((wrap64 (bt t216 0)) - 48))) = true := decide_eq_true c10
          clear c10
          simp only [Option.some.injEq, Prod.mk.injEq] at H
          obtain ⟨rfl, rfl⟩ := H
          go_enter Try.func85, Try.ntmps85
          go_wp2_with (first | ((with_reducible refine gate_callee (f := 92) rfl ?_); refine goesL_ (some 16) rfl rfl Try.func92 (by kernel_rfl) rfl #[.string a0, .string a1] rfl (by (try simp only [List.map_toArray, List.map_cons, List.map_nil]); first | done | rfl | (simp only [List.length_drop, List.length_take]; rfl)) ?_; (with_reducible refine (strings_CutPrefix.calls a0 a1 t216 true _ A5.out).mono ?_); rintro e w' ⟨rfl, ⟨nd, rfl⟩⟩; refine ⟨_, rfl, ?_⟩; have p9 : 0 ≤ (0 : Int) := (by omega); have q9 : 0 < t216.size := (by have : (0 : Int) < (t216.size : Int) := of_decide_eq_true (by first | (with_reducible assumption) | assumption); omega); have hx9 : ∀ h : 0 < t216.size, ((t216[0]'h).toNat : Int) = bt t216 0 := bt_at t216 0; clear p9; have qi9 : (0 < (t216.size : Int)) = True := eq_true (of_decide_eq_true (by first | (with_reducible assumption) | assumption)); replace q9 := eq_true q9))
          go_ret2
          exact ⟨by first | rfl | (simp; done) | (simp [*]; done), by repeat (first | exact Drawn0.refl _ | apply Drawn0.step)⟩
        · rw [if_neg c10] at H
          have c10b0 : decide (a2 ≤ (wrap64 ((wrap64 (bt t216 0)) - 48))) = false := decide_eq_false c10
          clear c10
          simp only [Option.some.injEq, Prod.mk.injEq] at H
          obtain ⟨rfl, rfl⟩ := H
          go_enter Try.func85, Try.ntmps85
          go_wp2_with (first | ((with_reducible refine gate_callee (f := 92) rfl ?_); refine goesL_ (some 16) rfl rfl Try.func92 (by kernel_rfl) rfl #[.string a0, .string a1] rfl (by (try simp only [List.map_toArray, List.map_cons, List.map_nil]); first | done | rfl | (simp only [List.length_drop, List.length_take]; rfl)) ?_; (with_reducible refine (strings_CutPrefix.calls a0 a1 t216 true _ A5.out).mono ?_); rintro e w' ⟨rfl, ⟨nd, rfl⟩⟩; refine ⟨_, rfl, ?_⟩; have p9 : 0 ≤ (0 : Int) := (by omega); have q9 : 0 < t216.size := (by have : (0 : Int) < (t216.size : Int) := of_decide_eq_true (by first | (with_reducible assumption) | assumption); omega); have hx9 : ∀ h : 0 < t216.size, ((t216[0]'h).toNat : Int) = bt t216 0 := bt_at t216 0; clear p9; have qi9 : (0 < (t216.size : Int)) = True := eq_true (of_decide_eq_true (by first | (with_reducible assumption) | assumption)); replace q9 := eq_true q9))
          go_ret2
          exact ⟨by first | rfl | (simp; done) | (simp [*]; done), by repeat (first | exact Drawn0.refl _ | apply Drawn0.step)⟩
      · rw [if_neg c8] at H
        exact absurd H (by simp)
    · rw [if_neg c7] at H
      have c7b0 : ((t216.size : Int) == 1) = false := beq_eq_false_iff_ne.mpr c7
      have c7b1 : ((t216.size : Int) != 1) = true := bne_iff_ne.mpr c7
      simp only [Option.some.injEq, Prod.mk.injEq] at H
      obtain ⟨rfl, rfl⟩ := H
      go_enter Try.func85, Try.ntmps85
      go_wp2_with (first | ((with_reducible refine gate_callee (f := 92) rfl ?_); refine goesL_ (some 16) rfl rfl Try.func92 (by kernel_rfl) rfl #[.string a0, .string a1] rfl (by (try simp only [List.map_toArray, List.map_cons, List.map_nil]); first | done | rfl | (simp only [List.length_drop, List.length_take]; rfl)) ?_; (with_reducible refine (strings_CutPrefix.calls a0 a1 t216 true _ A5.out).mono ?_); rintro e w' ⟨rfl, ⟨nd, rfl⟩⟩; refine ⟨_, rfl, ?_⟩))
      go_ret2
      exact ⟨by first | rfl | (simp; done) | (simp [*]; done), by repeat (first | exact Drawn0.refl _ | apply Drawn0.step)⟩
  · replace c6 := Bool.eq_false_iff.mpr c6
    subst c6
    have H1 : (some (0, false)) = some (r1, r2) := by rw [if_neg (show ¬ (false = true) by decide)] at H; exact H
    clear H
    have H := H1
    clear H1
    simp only [Option.some.injEq, Prod.mk.injEq] at H
    obtain ⟨rfl, rfl⟩ := H
    go_enter Try.func85, Try.ntmps85
    go_wp2_with (first | ((with_reducible refine gate_callee (f := 92) rfl ?_); refine goesL_ (some 16) rfl rfl Try.func92 (by kernel_rfl) rfl #[.string a0, .string a1] rfl (by (try simp only [List.map_toArray, List.map_cons, List.map_nil]); first | done | rfl | (simp only [List.length_drop, List.length_take]; rfl)) ?_; (with_reducible refine (strings_CutPrefix.calls a0 a1 t216 false _ A5.out).mono ?_); rintro e w' ⟨rfl, ⟨nd, rfl⟩⟩; refine ⟨_, rfl, ?_⟩))
    go_ret2
    exact ⟨by first | rfl | (simp; done) | (simp [*]; done), by repeat (first | exact Drawn0.refl _ | apply Drawn0.step)⟩

/-! ### impl_namedTriangle: function 66 -/
theorem impl_namedTriangle.tl (b : ByteArray) : b.toList = b.data.toList := ByteArray.toList_eq b
theorem impl_namedTriangle.end_ {x : Ending} {b c : Bool} (h : x = .returned (.bool b)) (e : b = c) : x = .returned (.bool c) := by rw [h, e]
set_option maxHeartbeats 8000000 in
set_option maxRecDepth 100000 in
theorem impl_namedTriangle.in1 (a s : Nat) (w : World) (hs : s ≤ a) (ha : a ≤ 5) :
    Calls Try.prog 80 #[.int .i64 a, .int .i64 s] w fun e w' => e = .returned (.bool (decide (s = a))) ∧ Drawn0 w w' := by
  have g0 : (0 : Int) ≤ (a : Int) := by omega
  have g1 : (a : Int) ≤ 5 := by omega
  have g2 : (0 : Int) ≤ (s : Int) := by omega
  have g3 : (s : Int) ≤ 5 := by omega
  clear hs ha
  go_enter Try.func80, Try.ntmps80
  go_wp2
  go_ret
  exact ⟨impl_namedTriangle.end_ rfl (by rw [Bool.eq_iff_iff]; first | (simp; done) | (simp; omega) | skip), Drawn0.refl _⟩
set_option maxHeartbeats 8000000 in
set_option maxRecDepth 100000 in
theorem impl_namedTriangle.in2 (a s : Nat) (w : World) (hs : s ≤ a) (ha : a ≤ 5) :
    Calls Try.prog 81 #[.int .i64 a, .int .i64 s] w fun e w' => e = .returned (.bool (decide (0 < s))) ∧ Drawn0 w w' := by
  have g0 : (0 : Int) ≤ (a : Int) := by omega
  have g1 : (a : Int) ≤ 5 := by omega
  have g2 : (0 : Int) ≤ (s : Int) := by omega
  have g3 : (s : Int) ≤ 5 := by omega
  clear hs ha
  go_enter Try.func81, Try.ntmps81
  go_wp2
  go_ret
  exact ⟨impl_namedTriangle.end_ rfl (by rw [Bool.eq_iff_iff]; first | (simp; done) | (simp; omega) | skip), Drawn0.refl _⟩
set_option maxHeartbeats 8000000 in
set_option maxRecDepth 100000 in
theorem impl_namedTriangle.in3 (a s : Nat) (w : World) (hs : s ≤ a) (ha : a ≤ 5) :
    Calls Try.prog 82 #[.int .i64 a, .int .i64 s] w fun e w' => e = .returned (.bool (decide (s = 0))) ∧ Drawn0 w w' := by
  have g0 : (0 : Int) ≤ (a : Int) := by omega
  have g1 : (a : Int) ≤ 5 := by omega
  have g2 : (0 : Int) ≤ (s : Int) := by omega
  have g3 : (s : Int) ≤ 5 := by omega
  clear hs ha
  go_enter Try.func82, Try.ntmps82
  go_wp2
  go_ret
  exact ⟨impl_namedTriangle.end_ rfl (by rw [Bool.eq_iff_iff]; first | (simp; done) | (simp; omega) | skip), Drawn0.refl _⟩
set_option maxHeartbeats 8000000 in
set_option maxRecDepth 100000 in
theorem impl_namedTriangle.in4 (a s : Nat) (w : World) (hs : s ≤ a) (ha : a ≤ 5) :
    Calls Try.prog 83 #[.int .i64 a, .int .i64 s] w fun e w' => e = .returned (.bool (decide (a < 2 * s))) ∧ Drawn0 w w' := by
  have g0 : (0 : Int) ≤ (a : Int) := by omega
  have g1 : (a : Int) ≤ 5 := by omega
  have g2 : (0 : Int) ≤ (s : Int) := by omega
  have g3 : (s : Int) ≤ 5 := by omega
  clear hs ha
  go_enter Try.func83, Try.ntmps83
  go_wp2
  go_ret
  exact ⟨impl_namedTriangle.end_ rfl (by rw [Bool.eq_iff_iff]; first | (simp; done) | (simp; omega) | skip), Drawn0.refl _⟩
set_option maxHeartbeats 8000000 in
set_option maxRecDepth 100000 in
theorem impl_namedTriangle.in5 (a s : Nat) (w : World) (hs : s ≤ a) (ha : a ≤ 5) :
    Calls Try.prog 84 #[.int .i64 a, .int .i64 s] w fun e w' => e = .returned (.bool (decide (s % 2 = 0))) ∧ Drawn0 w w' := by
  have g0 : (0 : Int) ≤ (a : Int) := by omega
  have g1 : (a : Int) ≤ 5 := by omega
  have g2 : (0 : Int) ≤ (s : Int) := by omega
  have g3 : (s : Int) ≤ 5 := by omega
  clear hs ha
  go_enter Try.func84, Try.ntmps84
  go_wp2
  go_ret
  exact ⟨impl_namedTriangle.end_ rfl (by rw [Bool.eq_iff_iff]; first | (simp; done) | (simp; omega) | skip), Drawn0.refl _⟩
set_option maxHeartbeats 8000000 in
set_option maxRecDepth 100000 in
theorem impl_namedTriangle.in6 (g : Nat) (n : Int) (a s : Nat) (w : World) (hg : w.cell? ⟨g, 0, none⟩ = some (.int .i64 n)) (hn0 : -1000 ≤ n) (hn1 : n ≤ 1000) (hs : s ≤ a) (ha : a ≤ 5) :
    Calls Try.prog 86 #[.int .i64 a, .int .i64 s, .pointer (some ⟨g, 0, none⟩)] w fun e w' => e = .returned (.bool (decide (n ≤ (s : Int)))) ∧ Drawn0 w w' := by
  have g0 : (0 : Int) ≤ (a : Int) := by omega
  have g1 : (a : Int) ≤ 5 := by omega
  have g2 : (0 : Int) ≤ (s : Int) := by omega
  have g3 : (s : Int) ≤ 5 := by omega
  clear hs ha
  go_enter Try.func86, Try.ntmps86
  go_wp2
  go_ret
  exact ⟨impl_namedTriangle.end_ rfl (by rw [Bool.eq_iff_iff]; first | (simp; done) | (simp; omega) | skip), Drawn0.refl _⟩
set_option maxHeartbeats 8000000 in
set_option maxRecDepth 100000 in
theorem impl_namedTriangle.in7 (g : Nat) (n : Int) (a s : Nat) (w : World) (hg : w.cell? ⟨g, 0, none⟩ = some (.int .i64 n)) (hn0 : -1000 ≤ n) (hn1 : n ≤ 1000) (hs : s ≤ a) (ha : a ≤ 5) :
    Calls Try.prog 87 #[.int .i64 a, .int .i64 s, .pointer (some ⟨g, 0, none⟩)] w fun e w' => e = .returned (.bool (decide ((s : Int) = n))) ∧ Drawn0 w w' := by
  have g0 : (0 : Int) ≤ (a : Int) := by omega
  have g1 : (a : Int) ≤ 5 := by omega
  have g2 : (0 : Int) ≤ (s : Int) := by omega
  have g3 : (s : Int) ≤ 5 := by omega
  clear hs ha
  go_enter Try.func87, Try.ntmps87
  go_wp2
  go_ret
  exact ⟨impl_namedTriangle.end_ rfl (by rw [Bool.eq_iff_iff]; first | (simp; done) | (simp; omega) | skip), Drawn0.refl _⟩
set_option maxHeartbeats 8000000 in
set_option maxRecDepth 100000 in
theorem impl_namedTriangle.in8 (g : Nat) (n : Int) (a s : Nat) (w : World) (hg : w.cell? ⟨g, 0, none⟩ = some (.int .i64 n)) (hn0 : -1000 ≤ n) (hn1 : n ≤ 1000) (hs : s ≤ a) (ha : a ≤ 5) :
    Calls Try.prog 88 #[.int .i64 a, .int .i64 s, .pointer (some ⟨g, 0, none⟩)] w fun e w' => e = .returned (.bool (decide ((a : Int) - (s : Int) = n))) ∧ Drawn0 w w' := by
  have g0 : (0 : Int) ≤ (a : Int) := by omega
  have g1 : (a : Int) ≤ 5 := by omega
  have g2 : (0 : Int) ≤ (s : Int) := by omega
  have g3 : (s : Int) ≤ 5 := by omega
  clear hs ha
  go_enter Try.func88, Try.ntmps88
  go_wp2
  go_ret
  exact ⟨impl_namedTriangle.end_ rfl (by rw [Bool.eq_iff_iff]; first | (simp; done) | (simp; omega) | skip), Drawn0.refl _⟩
def impl_namedTriangle.p1 (a s : Nat) : Bool := decide (s = a)
def impl_namedTriangle.p2 (a s : Nat) : Bool := decide (0 < s)
def impl_namedTriangle.p3 (a s : Nat) : Bool := decide (s = 0)
def impl_namedTriangle.p4 (a s : Nat) : Bool := decide (a < 2 * s)
def impl_namedTriangle.p5 (a s : Nat) : Bool := decide (s % 2 = 0)
def impl_namedTriangle.p6 (n : Int) (a s : Nat) : Bool := decide (n ≤ (s : Int))
def impl_namedTriangle.p7 (n : Int) (a s : Nat) : Bool := decide ((s : Int) = n)
def impl_namedTriangle.p8 (n : Int) (a s : Nat) : Bool := decide ((a : Int) - (s : Int) = n)
def impl_namedTriangle.plain (x : ByteArray) : List Int × Bool := if x.toList = ([101, 118, 101, 114, 121] : List UInt8) then (impl_triangleBy.M impl_namedTriangle.p1, true) else if x.toList = ([115, 111, 109, 101] : List UInt8) then (impl_triangleBy.M impl_namedTriangle.p2, true) else if x.toList = ([110, 111] : List UInt8) then (impl_triangleBy.M impl_namedTriangle.p3, true) else if x.toList = ([109, 111, 115, 116] : List UInt8) then (impl_triangleBy.M impl_namedTriangle.p4, true) else if x.toList = ([101, 118, 101, 110] : List UInt8) then (impl_triangleBy.M impl_namedTriangle.p5, true) else ([], false)
def impl_namedTriangle.pick (x : ByteArray) (n1 : Int) (b1 : Bool) (n2 : Int) (b2 : Bool) (n3 : Int) (b3 : Bool) : List Int × Bool := if b3 = true then (impl_triangleBy.M (impl_namedTriangle.p8 n3), true) else if b2 = true then (impl_triangleBy.M (impl_namedTriangle.p7 n2), true) else if b1 = true then (impl_triangleBy.M (impl_namedTriangle.p6 n1), true) else impl_namedTriangle.plain x
def impl_namedTriangle.f (x : ByteArray) : Option (List Int × Bool) := (impl_countIn.f x (⟨#[97, 116, 108, 101, 97, 115, 116]⟩ : ByteArray) 1 5).bind fun q6 => (impl_countIn.f x (⟨#[106, 117, 115, 116]⟩ : ByteArray) 0 5).bind fun q7 => (impl_countIn.f x (⟨#[97, 108, 108, 98, 117, 116]⟩ : ByteArray) 0 5).bind fun q8 => if -1000 ≤ q6.1 ∧ q6.1 ≤ 1000 ∧ -1000 ≤ q7.1 ∧ q7.1 ≤ 1000 ∧ -1000 ≤ q8.1 ∧ q8.1 ≤ 1000 then some (impl_namedTriangle.pick x q6.1 q6.2 q7.1 q7.2 q8.1 q8.2) else none
theorem impl_namedTriangle.tri1 (w : World) : Calls Try.prog 77 #[.func (.func 80) #[] #[]] w fun e w' => ∃ v0_ : Value, e = .returned (v0_) ∧ Kd.R (Kd.int .i64) 3 w' w.heap.size (fun _ => True) v0_ (impl_triangleBy.M impl_namedTriangle.p1) ∧ Below w.heap.size w w' :=
  impl_triangleBy.calls 80 #[] impl_namedTriangle.p1 w (fun args wx => enters_ Try.func80 (by kernel_rfl) rfl args wx) (fun wx _ a s hs ha => impl_namedTriangle.in1 a s wx hs ha)
theorem impl_namedTriangle.tri2 (w : World) : Calls Try.prog 77 #[.func (.func 81) #[] #[]] w fun e w' => ∃ v0_ : Value, e = .returned (v0_) ∧ Kd.R (Kd.int .i64) 3 w' w.heap.size (fun _ => True) v0_ (impl_triangleBy.M impl_namedTriangle.p2) ∧ Below w.heap.size w w' :=
  impl_triangleBy.calls 81 #[] impl_namedTriangle.p2 w (fun args wx => enters_ Try.func81 (by kernel_rfl) rfl args wx) (fun wx _ a s hs ha => impl_namedTriangle.in2 a s wx hs ha)
theorem impl_namedTriangle.tri3 (w : World) : Calls Try.prog 77 #[.func (.func 82) #[] #[]] w fun e w' => ∃ v0_ : Value, e = .returned (v0_) ∧ Kd.R (Kd.int .i64) 3 w' w.heap.size (fun _ => True) v0_ (impl_triangleBy.M impl_namedTriangle.p3) ∧ Below w.heap.size w w' :=
  impl_triangleBy.calls 82 #[] impl_namedTriangle.p3 w (fun args wx => enters_ Try.func82 (by kernel_rfl) rfl args wx) (fun wx _ a s hs ha => impl_namedTriangle.in3 a s wx hs ha)
theorem impl_namedTriangle.tri4 (w : World) : Calls Try.prog 77 #[.func (.func 83) #[] #[]] w fun e w' => ∃ v0_ : Value, e = .returned (v0_) ∧ Kd.R (Kd.int .i64) 3 w' w.heap.size (fun _ => True) v0_ (impl_triangleBy.M impl_namedTriangle.p4) ∧ Below w.heap.size w w' :=
  impl_triangleBy.calls 83 #[] impl_namedTriangle.p4 w (fun args wx => enters_ Try.func83 (by kernel_rfl) rfl args wx) (fun wx _ a s hs ha => impl_namedTriangle.in4 a s wx hs ha)
theorem impl_namedTriangle.tri5 (w : World) : Calls Try.prog 77 #[.func (.func 84) #[] #[]] w fun e w' => ∃ v0_ : Value, e = .returned (v0_) ∧ Kd.R (Kd.int .i64) 3 w' w.heap.size (fun _ => True) v0_ (impl_triangleBy.M impl_namedTriangle.p5) ∧ Below w.heap.size w w' :=
  impl_triangleBy.calls 84 #[] impl_namedTriangle.p5 w (fun args wx => enters_ Try.func84 (by kernel_rfl) rfl args wx) (fun wx _ a s hs ha => impl_namedTriangle.in5 a s wx hs ha)
theorem impl_namedTriangle.tri6 (g : Nat) (n : Int) (hn0 : -1000 ≤ n) (hn1 : n ≤ 1000) (w : World) (hg : w.cell? ⟨g, 0, none⟩ = some (.int .i64 n)) (hlt : g < w.heap.size) : Calls Try.prog 77 #[.func (.func 86) #[] #[.pointer (some ⟨g, 0, none⟩)]] w fun e w' => ∃ v0_ : Value, e = .returned (v0_) ∧ Kd.R (Kd.int .i64) 3 w' w.heap.size (fun _ => True) v0_ (impl_triangleBy.M (impl_namedTriangle.p6 n)) ∧ Below w.heap.size w w' :=
  impl_triangleBy.calls 86 #[.pointer (some ⟨g, 0, none⟩)] (impl_namedTriangle.p6 n) w (fun args wx => enters_ Try.func86 (by kernel_rfl) rfl args wx) (fun wx hx a s hs ha => impl_namedTriangle.in6 g n a s wx ((hx.cell (p := ⟨g, 0, none⟩) hlt).trans hg) hn0 hn1 hs ha)
theorem impl_namedTriangle.tri7 (g : Nat) (n : Int) (hn0 : -1000 ≤ n) (hn1 : n ≤ 1000) (w : World) (hg : w.cell? ⟨g, 0, none⟩ = some (.int .i64 n)) (hlt : g < w.heap.size) : Calls Try.prog 77 #[.func (.func 87) #[] #[.pointer (some ⟨g, 0, none⟩)]] w fun e w' => ∃ v0_ : Value, e = .returned (v0_) ∧ Kd.R (Kd.int .i64) 3 w' w.heap.size (fun _ => True) v0_ (impl_triangleBy.M (impl_namedTriangle.p7 n)) ∧ Below w.heap.size w w' :=
  impl_triangleBy.calls 87 #[.pointer (some ⟨g, 0, none⟩)] (impl_namedTriangle.p7 n) w (fun args wx => enters_ Try.func87 (by kernel_rfl) rfl args wx) (fun wx hx a s hs ha => impl_namedTriangle.in7 g n a s wx ((hx.cell (p := ⟨g, 0, none⟩) hlt).trans hg) hn0 hn1 hs ha)
theorem impl_namedTriangle.tri8 (g : Nat) (n : Int) (hn0 : -1000 ≤ n) (hn1 : n ≤ 1000) (w : World) (hg : w.cell? ⟨g, 0, none⟩ = some (.int .i64 n)) (hlt : g < w.heap.size) : Calls Try.prog 77 #[.func (.func 88) #[] #[.pointer (some ⟨g, 0, none⟩)]] w fun e w' => ∃ v0_ : Value, e = .returned (v0_) ∧ Kd.R (Kd.int .i64) 3 w' w.heap.size (fun _ => True) v0_ (impl_triangleBy.M (impl_namedTriangle.p8 n)) ∧ Below w.heap.size w w' :=
  impl_triangleBy.calls 88 #[.pointer (some ⟨g, 0, none⟩)] (impl_namedTriangle.p8 n) w (fun args wx => enters_ Try.func88 (by kernel_rfl) rfl args wx) (fun wx hx a s hs ha => impl_namedTriangle.in8 g n a s wx ((hx.cell (p := ⟨g, 0, none⟩) hlt).trans hg) hn0 hn1 hs ha)
theorem impl_namedTriangle.notNil (f : Fn) (a b : Array Value) (w : World) : (Go.binOp .eql 60 (.func f a b) .nilFunc).run Try.prog w = Result.ok (.bool false) w := by kernel_rfl
theorem impl_namedTriangle.isNil (w : World) : (Go.binOp .eql 60 .nilFunc .nilFunc).run Try.prog w = Result.ok (.bool true) w := by kernel_rfl
theorem impl_namedTriangle.keep {w W : World} {n : Int} (h : Below (w.alloc (.cells #[.int .i64 n] 3)).heap.size (w.alloc (.cells #[.int .i64 n] 3)) W) : W.cell? ⟨w.heap.size, 0, none⟩ = some (.int .i64 n) := by
  rw [h.cell (p := ⟨w.heap.size, 0, none⟩) (by simp), World.cell?_alloc_at _ _ _ _ rfl]; rfl
theorem impl_namedTriangle.keeplt {w W : World} {o : Obj} (h : Below (w.alloc o).heap.size (w.alloc o) W) : w.heap.size < W.heap.size := by
  have := h.size; simp at this; omega
set_option maxHeartbeats 8000000 in
set_option maxRecDepth 100000 in
theorem impl_namedTriangle.way1 (x : ByteArray) (n1 n2 n3 : Int) (hx : x.toList = ([101, 118, 101, 114, 121] : List UInt8)) (h1 : impl_countIn.f x (⟨#[97, 116, 108, 101, 97, 115, 116]⟩ : ByteArray) 1 5 = some (n1, false)) (h2 : impl_countIn.f x (⟨#[106, 117, 115, 116]⟩ : ByteArray) 0 5 = some (n2, false)) (h3 : impl_countIn.f x (⟨#[97, 108, 108, 98, 117, 116]⟩ : ByteArray) 0 5 = some (n3, false)) (l1 : -1000 ≤ n1) (m1 : n1 ≤ 1000) (l2 : -1000 ≤ n2) (m2 : n2 ≤ 1000) (l3 : -1000 ≤ n3) (m3 : n3 ≤ 1000) (w : World) :
    Calls Try.prog 66 #[.string x] w fun e w' => ∃ v0_ : Value, e = .returned (.tuple #[v0_, .bool true]) ∧ Kd.R (Kd.int .i64) 3 w' w.heap.size (fun _ => True) v0_ (impl_triangleBy.M impl_namedTriangle.p1) ∧ Below w.heap.size w w' := by
  have A1 := Aside0.mk h1
  have A2 := Aside0.mk h2
  have A3 := Aside0.mk h3
  have L1 := Aside0.mk (And.intro l1 m1)
  have L2 := Aside0.mk (And.intro l2 m2)
  have L3 := Aside0.mk (And.intro l3 m3)
  clear h1 h2 h3 l1 m1 l2 m2 l3 m3
  have hmf : ∀ (fn : Fn) (first cap : Array Value) (w : World), (Instr.makeFunc fn first cap).run Try.prog w = .ok (.func fn first cap) w := fun _ _ _ _ => rfl
  have hnf := impl_namedTriangle.notNil
  have hnn := impl_namedTriangle.isNil
  go_enter Try.func66, Try.ntmps66
  go_wp2_with (first | (go_at_call 85; (with_reducible refine (impl_countIn.calls x (⟨#[97, 116, 108, 101, 97, 115, 116]⟩ : ByteArray) 1 5 n1 false _ A1.out).mono ?_); rintro e w1 ⟨rfl, hd1⟩) | (go_at_call 85; (with_reducible refine (impl_countIn.calls x (⟨#[106, 117, 115, 116]⟩ : ByteArray) 0 5 n2 false _ A2.out).mono ?_); rintro e w2 ⟨rfl, hd2⟩) | (go_at_call 85; (with_reducible refine (impl_countIn.calls x (⟨#[97, 108, 108, 98, 117, 116]⟩ : ByteArray) 0 5 n3 false _ A3.out).mono ?_); rintro e w3 ⟨rfl, hd3⟩) | (go_at_call 77; (with_reducible refine (impl_namedTriangle.tri1 _).mono ?_); rintro e w4 ⟨v0_, rfl, hR, hB⟩))
  go_ret2
  exact ⟨_, rfl, Kd.R_lower hR (below_size (below_alloc (below_step (below_alloc (below_step (below_alloc hd1.below _) hd2.below) _) hd3.below) _)), below_step (below_alloc (below_step (below_alloc (below_step (below_alloc hd1.below _) hd2.below) _) hd3.below) _) hB⟩
set_option maxHeartbeats 8000000 in
set_option maxRecDepth 100000 in
theorem impl_namedTriangle.way2 (x : ByteArray) (n1 n2 n3 : Int) (hx : x.toList = ([115, 111, 109, 101] : List UInt8)) (h1 : impl_countIn.f x (⟨#[97, 116, 108, 101, 97, 115, 116]⟩ : ByteArray) 1 5 = some (n1, false)) (h2 : impl_countIn.f x (⟨#[106, 117, 115, 116]⟩ : ByteArray) 0 5 = some (n2, false)) (h3 : impl_countIn.f x (⟨#[97, 108, 108, 98, 117, 116]⟩ : ByteArray) 0 5 = some (n3, false)) (l1 : -1000 ≤ n1) (m1 : n1 ≤ 1000) (l2 : -1000 ≤ n2) (m2 : n2 ≤ 1000) (l3 : -1000 ≤ n3) (m3 : n3 ≤ 1000) (w : World) :
    Calls Try.prog 66 #[.string x] w fun e w' => ∃ v0_ : Value, e = .returned (.tuple #[v0_, .bool true]) ∧ Kd.R (Kd.int .i64) 3 w' w.heap.size (fun _ => True) v0_ (impl_triangleBy.M impl_namedTriangle.p2) ∧ Below w.heap.size w w' := by
  have A1 := Aside0.mk h1
  have A2 := Aside0.mk h2
  have A3 := Aside0.mk h3
  have L1 := Aside0.mk (And.intro l1 m1)
  have L2 := Aside0.mk (And.intro l2 m2)
  have L3 := Aside0.mk (And.intro l3 m3)
  clear h1 h2 h3 l1 m1 l2 m2 l3 m3
  have hmf : ∀ (fn : Fn) (first cap : Array Value) (w : World), (Instr.makeFunc fn first cap).run Try.prog w = .ok (.func fn first cap) w := fun _ _ _ _ => rfl
  have hnf := impl_namedTriangle.notNil
  have hnn := impl_namedTriangle.isNil
  go_enter Try.func66, Try.ntmps66
  go_wp2_with (first | (go_at_call 85; (with_reducible refine (impl_countIn.calls x (⟨#[97, 116, 108, 101, 97, 115, 116]⟩ : ByteArray) 1 5 n1 false _ A1.out).mono ?_); rintro e w1 ⟨rfl, hd1⟩) | (go_at_call 85; (with_reducible refine (impl_countIn.calls x (⟨#[106, 117, 115, 116]⟩ : ByteArray) 0 5 n2 false _ A2.out).mono ?_); rintro e w2 ⟨rfl, hd2⟩) | (go_at_call 85; (with_reducible refine (impl_countIn.calls x (⟨#[97, 108, 108, 98, 117, 116]⟩ : ByteArray) 0 5 n3 false _ A3.out).mono ?_); rintro e w3 ⟨rfl, hd3⟩) | (go_at_call 77; (with_reducible refine (impl_namedTriangle.tri2 _).mono ?_); rintro e w4 ⟨v0_, rfl, hR, hB⟩))
  go_ret2
  exact ⟨_, rfl, Kd.R_lower hR (below_size (below_alloc (below_step (below_alloc (below_step (below_alloc hd1.below _) hd2.below) _) hd3.below) _)), below_step (below_alloc (below_step (below_alloc (below_step (below_alloc hd1.below _) hd2.below) _) hd3.below) _) hB⟩
set_option maxHeartbeats 8000000 in
set_option maxRecDepth 100000 in
theorem impl_namedTriangle.way3 (x : ByteArray) (n1 n2 n3 : Int) (hx : x.toList = ([110, 111] : List UInt8)) (h1 : impl_countIn.f x (⟨#[97, 116, 108, 101, 97, 115, 116]⟩ : ByteArray) 1 5 = some (n1, false)) (h2 : impl_countIn.f x (⟨#[106, 117, 115, 116]⟩ : ByteArray) 0 5 = some (n2, false)) (h3 : impl_countIn.f x (⟨#[97, 108, 108, 98, 117, 116]⟩ : ByteArray) 0 5 = some (n3, false)) (l1 : -1000 ≤ n1) (m1 : n1 ≤ 1000) (l2 : -1000 ≤ n2) (m2 : n2 ≤ 1000) (l3 : -1000 ≤ n3) (m3 : n3 ≤ 1000) (w : World) :
    Calls Try.prog 66 #[.string x] w fun e w' => ∃ v0_ : Value, e = .returned (.tuple #[v0_, .bool true]) ∧ Kd.R (Kd.int .i64) 3 w' w.heap.size (fun _ => True) v0_ (impl_triangleBy.M impl_namedTriangle.p3) ∧ Below w.heap.size w w' := by
  have A1 := Aside0.mk h1
  have A2 := Aside0.mk h2
  have A3 := Aside0.mk h3
  have L1 := Aside0.mk (And.intro l1 m1)
  have L2 := Aside0.mk (And.intro l2 m2)
  have L3 := Aside0.mk (And.intro l3 m3)
  clear h1 h2 h3 l1 m1 l2 m2 l3 m3
  have hmf : ∀ (fn : Fn) (first cap : Array Value) (w : World), (Instr.makeFunc fn first cap).run Try.prog w = .ok (.func fn first cap) w := fun _ _ _ _ => rfl
  have hnf := impl_namedTriangle.notNil
  have hnn := impl_namedTriangle.isNil
  go_enter Try.func66, Try.ntmps66
  go_wp2_with (first | (go_at_call 85; (with_reducible refine (impl_countIn.calls x (⟨#[97, 116, 108, 101, 97, 115, 116]⟩ : ByteArray) 1 5 n1 false _ A1.out).mono ?_); rintro e w1 ⟨rfl, hd1⟩) | (go_at_call 85; (with_reducible refine (impl_countIn.calls x (⟨#[106, 117, 115, 116]⟩ : ByteArray) 0 5 n2 false _ A2.out).mono ?_); rintro e w2 ⟨rfl, hd2⟩) | (go_at_call 85; (with_reducible refine (impl_countIn.calls x (⟨#[97, 108, 108, 98, 117, 116]⟩ : ByteArray) 0 5 n3 false _ A3.out).mono ?_); rintro e w3 ⟨rfl, hd3⟩) | (go_at_call 77; (with_reducible refine (impl_namedTriangle.tri3 _).mono ?_); rintro e w4 ⟨v0_, rfl, hR, hB⟩))
  go_ret2
  exact ⟨_, rfl, Kd.R_lower hR (below_size (below_alloc (below_step (below_alloc (below_step (below_alloc hd1.below _) hd2.below) _) hd3.below) _)), below_step (below_alloc (below_step (below_alloc (below_step (below_alloc hd1.below _) hd2.below) _) hd3.below) _) hB⟩
set_option maxHeartbeats 8000000 in
set_option maxRecDepth 100000 in
theorem impl_namedTriangle.way4 (x : ByteArray) (n1 n2 n3 : Int) (hx : x.toList = ([109, 111, 115, 116] : List UInt8)) (h1 : impl_countIn.f x (⟨#[97, 116, 108, 101, 97, 115, 116]⟩ : ByteArray) 1 5 = some (n1, false)) (h2 : impl_countIn.f x (⟨#[106, 117, 115, 116]⟩ : ByteArray) 0 5 = some (n2, false)) (h3 : impl_countIn.f x (⟨#[97, 108, 108, 98, 117, 116]⟩ : ByteArray) 0 5 = some (n3, false)) (l1 : -1000 ≤ n1) (m1 : n1 ≤ 1000) (l2 : -1000 ≤ n2) (m2 : n2 ≤ 1000) (l3 : -1000 ≤ n3) (m3 : n3 ≤ 1000) (w : World) :
    Calls Try.prog 66 #[.string x] w fun e w' => ∃ v0_ : Value, e = .returned (.tuple #[v0_, .bool true]) ∧ Kd.R (Kd.int .i64) 3 w' w.heap.size (fun _ => True) v0_ (impl_triangleBy.M impl_namedTriangle.p4) ∧ Below w.heap.size w w' := by
  have A1 := Aside0.mk h1
  have A2 := Aside0.mk h2
  have A3 := Aside0.mk h3
  have L1 := Aside0.mk (And.intro l1 m1)
  have L2 := Aside0.mk (And.intro l2 m2)
  have L3 := Aside0.mk (And.intro l3 m3)
  clear h1 h2 h3 l1 m1 l2 m2 l3 m3
  have hmf : ∀ (fn : Fn) (first cap : Array Value) (w : World), (Instr.makeFunc fn first cap).run Try.prog w = .ok (.func fn first cap) w := fun _ _ _ _ => rfl
  have hnf := impl_namedTriangle.notNil
  have hnn := impl_namedTriangle.isNil
  go_enter Try.func66, Try.ntmps66
  go_wp2_with (first | (go_at_call 85; (with_reducible refine (impl_countIn.calls x (⟨#[97, 116, 108, 101, 97, 115, 116]⟩ : ByteArray) 1 5 n1 false _ A1.out).mono ?_); rintro e w1 ⟨rfl, hd1⟩) | (go_at_call 85; (with_reducible refine (impl_countIn.calls x (⟨#[106, 117, 115, 116]⟩ : ByteArray) 0 5 n2 false _ A2.out).mono ?_); rintro e w2 ⟨rfl, hd2⟩) | (go_at_call 85; (with_reducible refine (impl_countIn.calls x (⟨#[97, 108, 108, 98, 117, 116]⟩ : ByteArray) 0 5 n3 false _ A3.out).mono ?_); rintro e w3 ⟨rfl, hd3⟩) | (go_at_call 77; (with_reducible refine (impl_namedTriangle.tri4 _).mono ?_); rintro e w4 ⟨v0_, rfl, hR, hB⟩))
  go_ret2
  exact ⟨_, rfl, Kd.R_lower hR (below_size (below_alloc (below_step (below_alloc (below_step (below_alloc hd1.below _) hd2.below) _) hd3.below) _)), below_step (below_alloc (below_step (below_alloc (below_step (below_alloc hd1.below _) hd2.below) _) hd3.below) _) hB⟩
set_option maxHeartbeats 8000000 in
set_option maxRecDepth 100000 in
theorem impl_namedTriangle.way5 (x : ByteArray) (n1 n2 n3 : Int) (hx : x.toList = ([101, 118, 101, 110] : List UInt8)) (h1 : impl_countIn.f x (⟨#[97, 116, 108, 101, 97, 115, 116]⟩ : ByteArray) 1 5 = some (n1, false)) (h2 : impl_countIn.f x (⟨#[106, 117, 115, 116]⟩ : ByteArray) 0 5 = some (n2, false)) (h3 : impl_countIn.f x (⟨#[97, 108, 108, 98, 117, 116]⟩ : ByteArray) 0 5 = some (n3, false)) (l1 : -1000 ≤ n1) (m1 : n1 ≤ 1000) (l2 : -1000 ≤ n2) (m2 : n2 ≤ 1000) (l3 : -1000 ≤ n3) (m3 : n3 ≤ 1000) (w : World) :
    Calls Try.prog 66 #[.string x] w fun e w' => ∃ v0_ : Value, e = .returned (.tuple #[v0_, .bool true]) ∧ Kd.R (Kd.int .i64) 3 w' w.heap.size (fun _ => True) v0_ (impl_triangleBy.M impl_namedTriangle.p5) ∧ Below w.heap.size w w' := by
  have A1 := Aside0.mk h1
  have A2 := Aside0.mk h2
  have A3 := Aside0.mk h3
  have L1 := Aside0.mk (And.intro l1 m1)
  have L2 := Aside0.mk (And.intro l2 m2)
  have L3 := Aside0.mk (And.intro l3 m3)
  clear h1 h2 h3 l1 m1 l2 m2 l3 m3
  have hmf : ∀ (fn : Fn) (first cap : Array Value) (w : World), (Instr.makeFunc fn first cap).run Try.prog w = .ok (.func fn first cap) w := fun _ _ _ _ => rfl
  have hnf := impl_namedTriangle.notNil
  have hnn := impl_namedTriangle.isNil
  go_enter Try.func66, Try.ntmps66
  go_wp2_with (first | (go_at_call 85; (with_reducible refine (impl_countIn.calls x (⟨#[97, 116, 108, 101, 97, 115, 116]⟩ : ByteArray) 1 5 n1 false _ A1.out).mono ?_); rintro e w1 ⟨rfl, hd1⟩) | (go_at_call 85; (with_reducible refine (impl_countIn.calls x (⟨#[106, 117, 115, 116]⟩ : ByteArray) 0 5 n2 false _ A2.out).mono ?_); rintro e w2 ⟨rfl, hd2⟩) | (go_at_call 85; (with_reducible refine (impl_countIn.calls x (⟨#[97, 108, 108, 98, 117, 116]⟩ : ByteArray) 0 5 n3 false _ A3.out).mono ?_); rintro e w3 ⟨rfl, hd3⟩) | (go_at_call 77; (with_reducible refine (impl_namedTriangle.tri5 _).mono ?_); rintro e w4 ⟨v0_, rfl, hR, hB⟩))
  go_ret2
  exact ⟨_, rfl, Kd.R_lower hR (below_size (below_alloc (below_step (below_alloc (below_step (below_alloc hd1.below _) hd2.below) _) hd3.below) _)), below_step (below_alloc (below_step (below_alloc (below_step (below_alloc hd1.below _) hd2.below) _) hd3.below) _) hB⟩
set_option maxHeartbeats 8000000 in
set_option maxRecDepth 100000 in
theorem impl_namedTriangle.way_false_false_false (x : ByteArray) (n1 n2 n3 : Int) (g1 : (x.toList == ([101, 118, 101, 114, 121] : List UInt8)) = false) (g2 : (x.toList == ([115, 111, 109, 101] : List UInt8)) = false) (g3 : (x.toList == ([110, 111] : List UInt8)) = false) (g4 : (x.toList == ([109, 111, 115, 116] : List UInt8)) = false) (g5 : (x.toList == ([101, 118, 101, 110] : List UInt8)) = false) (h1 : impl_countIn.f x (⟨#[97, 116, 108, 101, 97, 115, 116]⟩ : ByteArray) 1 5 = some (n1, false)) (h2 : impl_countIn.f x (⟨#[106, 117, 115, 116]⟩ : ByteArray) 0 5 = some (n2, false)) (h3 : impl_countIn.f x (⟨#[97, 108, 108, 98, 117, 116]⟩ : ByteArray) 0 5 = some (n3, false)) (l1 : -1000 ≤ n1) (m1 : n1 ≤ 1000) (l2 : -1000 ≤ n2) (m2 : n2 ≤ 1000) (l3 : -1000 ≤ n3) (m3 : n3 ≤ 1000) (w : World) :
    Calls Try.prog 66 #[.string x] w fun e w' => ∃ v0_ : Value, e = .returned (.tuple #[v0_, .bool false]) ∧ Kd.R (Kd.int .i64) 3 w' w.heap.size (fun _ => True) v0_ [] ∧ Below w.heap.size w w' := by
  have A1 := Aside0.mk h1
  have A2 := Aside0.mk h2
  have A3 := Aside0.mk h3
  have L1 := Aside0.mk (And.intro l1 m1)
  have L2 := Aside0.mk (And.intro l2 m2)
  have L3 := Aside0.mk (And.intro l3 m3)
  clear h1 h2 h3 l1 m1 l2 m2 l3 m3
  have hmf : ∀ (fn : Fn) (first cap : Array Value) (w : World), (Instr.makeFunc fn first cap).run Try.prog w = .ok (.func fn first cap) w := fun _ _ _ _ => rfl
  have hnf := impl_namedTriangle.notNil
  have hnn := impl_namedTriangle.isNil
  go_enter Try.func66, Try.ntmps66
  go_wp2_with (first | (go_at_call 85; (with_reducible refine (impl_countIn.calls x (⟨#[97, 116, 108, 101, 97, 115, 116]⟩ : ByteArray) 1 5 n1 false _ A1.out).mono ?_); rintro e w1 ⟨rfl, hd1⟩) | (go_at_call 85; (with_reducible refine (impl_countIn.calls x (⟨#[106, 117, 115, 116]⟩ : ByteArray) 0 5 n2 false _ A2.out).mono ?_); rintro e w2 ⟨rfl, hd2⟩) | (go_at_call 85; (with_reducible refine (impl_countIn.calls x (⟨#[97, 108, 108, 98, 117, 116]⟩ : ByteArray) 0 5 n3 false _ A3.out).mono ?_); rintro e w3 ⟨rfl, hd3⟩))
  go_ret2
  exact ⟨_, rfl, Kd.R_nil _ _ _ _ _, below_alloc (below_step (below_alloc (below_step (below_alloc hd1.below _) hd2.below) _) hd3.below) _⟩
set_option maxHeartbeats 8000000 in
set_option maxRecDepth 100000 in
theorem impl_namedTriangle.way_false_false_true (x : ByteArray) (n1 n2 n3 : Int) (g1 : (x.toList == ([101, 118, 101, 114, 121] : List UInt8)) = false) (g2 : (x.toList == ([115, 111, 109, 101] : List UInt8)) = false) (g3 : (x.toList == ([110, 111] : List UInt8)) = false) (g4 : (x.toList == ([109, 111, 115, 116] : List UInt8)) = false) (g5 : (x.toList == ([101, 118, 101, 110] : List UInt8)) = false) (h1 : impl_countIn.f x (⟨#[97, 116, 108, 101, 97, 115, 116]⟩ : ByteArray) 1 5 = some (n1, false)) (h2 : impl_countIn.f x (⟨#[106, 117, 115, 116]⟩ : ByteArray) 0 5 = some (n2, false)) (h3 : impl_countIn.f x (⟨#[97, 108, 108, 98, 117, 116]⟩ : ByteArray) 0 5 = some (n3, true)) (l1 : -1000 ≤ n1) (m1 : n1 ≤ 1000) (l2 : -1000 ≤ n2) (m2 : n2 ≤ 1000) (l3 : -1000 ≤ n3) (m3 : n3 ≤ 1000) (w : World) :
    Calls Try.prog 66 #[.string x] w fun e w' => ∃ v0_ : Value, e = .returned (.tuple #[v0_, .bool true]) ∧ Kd.R (Kd.int .i64) 3 w' w.heap.size (fun _ => True) v0_ (impl_triangleBy.M (impl_namedTriangle.p8 n3)) ∧ Below w.heap.size w w' := by
  have A1 := Aside0.mk h1
  have A2 := Aside0.mk h2
  have A3 := Aside0.mk h3
  have L1 := Aside0.mk (And.intro l1 m1)
  have L2 := Aside0.mk (And.intro l2 m2)
  have L3 := Aside0.mk (And.intro l3 m3)
  clear h1 h2 h3 l1 m1 l2 m2 l3 m3
  have hmf : ∀ (fn : Fn) (first cap : Array Value) (w : World), (Instr.makeFunc fn first cap).run Try.prog w = .ok (.func fn first cap) w := fun _ _ _ _ => rfl
  have hnf := impl_namedTriangle.notNil
  have hnn := impl_namedTriangle.isNil
  go_enter Try.func66, Try.ntmps66
  go_wp2_with (first | (go_at_call 85; (with_reducible refine (impl_countIn.calls x (⟨#[97, 116, 108, 101, 97, 115, 116]⟩ : ByteArray) 1 5 n1 false _ A1.out).mono ?_); rintro e w1 ⟨rfl, hd1⟩) | (go_at_call 85; (with_reducible refine (impl_countIn.calls x (⟨#[106, 117, 115, 116]⟩ : ByteArray) 0 5 n2 false _ A2.out).mono ?_); rintro e w2 ⟨rfl, hd2⟩) | (go_at_call 85; (with_reducible refine (impl_countIn.calls x (⟨#[97, 108, 108, 98, 117, 116]⟩ : ByteArray) 0 5 n3 true _ A3.out).mono ?_); rintro e w3 ⟨rfl, hd3⟩) | (go_at_call 77; refine (impl_namedTriangle.tri8 w3.heap.size n3 L3.out.1 L3.out.2 _ (impl_namedTriangle.keep (w := w3) (Below.refl _ _)) (impl_namedTriangle.keeplt (w := w3) (Below.refl _ _))).mono ?_; rintro e w4 ⟨v0_, rfl, hR, hB⟩))
  go_ret2
  exact ⟨_, rfl, Kd.R_lower hR (below_size (below_alloc (below_step (below_alloc (below_step (below_alloc hd1.below _) hd2.below) _) hd3.below) _)), below_step (below_alloc (below_step (below_alloc (below_step (below_alloc hd1.below _) hd2.below) _) hd3.below) _) hB⟩
set_option maxHeartbeats 8000000 in
set_option maxRecDepth 100000 in
theorem impl_namedTriangle.way_false_true_false (x : ByteArray) (n1 n2 n3 : Int) (g1 : (x.toList == ([101, 118, 101, 114, 121] : List UInt8)) = false) (g2 : (x.toList == ([115, 111, 109, 101] : List UInt8)) = false) (g3 : (x.toList == ([110, 111] : List UInt8)) = false) (g4 : (x.toList == ([109, 111, 115, 116] : List UInt8)) = false) (g5 : (x.toList == ([101, 118, 101, 110] : List UInt8)) = false) (h1 : impl_countIn.f x (⟨#[97, 116, 108, 101, 97, 115, 116]⟩ : ByteArray) 1 5 = some (n1, false)) (h2 : impl_countIn.f x (⟨#[106, 117, 115, 116]⟩ : ByteArray) 0 5 = some (n2, true)) (h3 : impl_countIn.f x (⟨#[97, 108, 108, 98, 117, 116]⟩ : ByteArray) 0 5 = some (n3, false)) (l1 : -1000 ≤ n1) (m1 : n1 ≤ 1000) (l2 : -1000 ≤ n2) (m2 : n2 ≤ 1000) (l3 : -1000 ≤ n3) (m3 : n3 ≤ 1000) (w : World) :
    Calls Try.prog 66 #[.string x] w fun e w' => ∃ v0_ : Value, e = .returned (.tuple #[v0_, .bool true]) ∧ Kd.R (Kd.int .i64) 3 w' w.heap.size (fun _ => True) v0_ (impl_triangleBy.M (impl_namedTriangle.p7 n2)) ∧ Below w.heap.size w w' := by
  have A1 := Aside0.mk h1
  have A2 := Aside0.mk h2
  have A3 := Aside0.mk h3
  have L1 := Aside0.mk (And.intro l1 m1)
  have L2 := Aside0.mk (And.intro l2 m2)
  have L3 := Aside0.mk (And.intro l3 m3)
  clear h1 h2 h3 l1 m1 l2 m2 l3 m3
  have hmf : ∀ (fn : Fn) (first cap : Array Value) (w : World), (Instr.makeFunc fn first cap).run Try.prog w = .ok (.func fn first cap) w := fun _ _ _ _ => rfl
  have hnf := impl_namedTriangle.notNil
  have hnn := impl_namedTriangle.isNil
  go_enter Try.func66, Try.ntmps66
  go_wp2_with (first | (go_at_call 85; (with_reducible refine (impl_countIn.calls x (⟨#[97, 116, 108, 101, 97, 115, 116]⟩ : ByteArray) 1 5 n1 false _ A1.out).mono ?_); rintro e w1 ⟨rfl, hd1⟩) | (go_at_call 85; (with_reducible refine (impl_countIn.calls x (⟨#[106, 117, 115, 116]⟩ : ByteArray) 0 5 n2 true _ A2.out).mono ?_); rintro e w2 ⟨rfl, hd2⟩) | (go_at_call 85; (with_reducible refine (impl_countIn.calls x (⟨#[97, 108, 108, 98, 117, 116]⟩ : ByteArray) 0 5 n3 false _ A3.out).mono ?_); rintro e w3 ⟨rfl, hd3⟩) | (go_at_call 77; refine (impl_namedTriangle.tri7 w2.heap.size n2 L2.out.1 L2.out.2 _ (impl_namedTriangle.keep (w := w2) (below_alloc hd3.below _)) (impl_namedTriangle.keeplt (w := w2) (below_alloc hd3.below _))).mono ?_; rintro e w4 ⟨v0_, rfl, hR, hB⟩))
  go_ret2
  exact ⟨_, rfl, Kd.R_lower hR (below_size (below_alloc (below_step (below_alloc (below_step (below_alloc hd1.below _) hd2.below) _) hd3.below) _)), below_step (below_alloc (below_step (below_alloc (below_step (below_alloc hd1.below _) hd2.below) _) hd3.below) _) hB⟩
set_option maxHeartbeats 8000000 in
set_option maxRecDepth 100000 in
theorem impl_namedTriangle.way_false_true_true (x : ByteArray) (n1 n2 n3 : Int) (g1 : (x.toList == ([101, 118, 101, 114, 121] : List UInt8)) = false) (g2 : (x.toList == ([115, 111, 109, 101] : List UInt8)) = false) (g3 : (x.toList == ([110, 111] : List UInt8)) = false) (g4 : (x.toList == ([109, 111, 115, 116] : List UInt8)) = false) (g5 : (x.toList == ([101, 118, 101, 110] : List UInt8)) = false) (h1 : impl_countIn.f x (⟨#[97, 116, 108, 101, 97, 115, 116]⟩ : ByteArray) 1 5 = some (n1, false)) (h2 : impl_countIn.f x (⟨#[106, 117, 115, 116]⟩ : ByteArray) 0 5 = some (n2, true)) (h3 : impl_countIn.f x (⟨#[97, 108, 108, 98, 117, 116]⟩ : ByteArray) 0 5 = some (n3, true)) (l1 : -1000 ≤ n1) (m1 : n1 ≤ 1000) (l2 : -1000 ≤ n2) (m2 : n2 ≤ 1000) (l3 : -1000 ≤ n3) (m3 : n3 ≤ 1000) (w : World) :
    Calls Try.prog 66 #[.string x] w fun e w' => ∃ v0_ : Value, e = .returned (.tuple #[v0_, .bool true]) ∧ Kd.R (Kd.int .i64) 3 w' w.heap.size (fun _ => True) v0_ (impl_triangleBy.M (impl_namedTriangle.p8 n3)) ∧ Below w.heap.size w w' := by
  have A1 := Aside0.mk h1
  have A2 := Aside0.mk h2
  have A3 := Aside0.mk h3
  have L1 := Aside0.mk (And.intro l1 m1)
  have L2 := Aside0.mk (And.intro l2 m2)
  have L3 := Aside0.mk (And.intro l3 m3)
  clear h1 h2 h3 l1 m1 l2 m2 l3 m3
  have hmf : ∀ (fn : Fn) (first cap : Array Value) (w : World), (Instr.makeFunc fn first cap).run Try.prog w = .ok (.func fn first cap) w := fun _ _ _ _ => rfl
  have hnf := impl_namedTriangle.notNil
  have hnn := impl_namedTriangle.isNil
  go_enter Try.func66, Try.ntmps66
  go_wp2_with (first | (go_at_call 85; (with_reducible refine (impl_countIn.calls x (⟨#[97, 116, 108, 101, 97, 115, 116]⟩ : ByteArray) 1 5 n1 false _ A1.out).mono ?_); rintro e w1 ⟨rfl, hd1⟩) | (go_at_call 85; (with_reducible refine (impl_countIn.calls x (⟨#[106, 117, 115, 116]⟩ : ByteArray) 0 5 n2 true _ A2.out).mono ?_); rintro e w2 ⟨rfl, hd2⟩) | (go_at_call 85; (with_reducible refine (impl_countIn.calls x (⟨#[97, 108, 108, 98, 117, 116]⟩ : ByteArray) 0 5 n3 true _ A3.out).mono ?_); rintro e w3 ⟨rfl, hd3⟩) | (go_at_call 77; refine (impl_namedTriangle.tri8 w3.heap.size n3 L3.out.1 L3.out.2 _ (impl_namedTriangle.keep (w := w3) (Below.refl _ _)) (impl_namedTriangle.keeplt (w := w3) (Below.refl _ _))).mono ?_; rintro e w4 ⟨v0_, rfl, hR, hB⟩))
  go_ret2
  exact ⟨_, rfl, Kd.R_lower hR (below_size (below_alloc (below_step (below_alloc (below_step (below_alloc hd1.below _) hd2.below) _) hd3.below) _)), below_step (below_alloc (below_step (below_alloc (below_step (below_alloc hd1.below _) hd2.below) _) hd3.below) _) hB⟩
set_option maxHeartbeats 8000000 in
set_option maxRecDepth 100000 in
theorem impl_namedTriangle.way_true_false_false (x : ByteArray) (n1 n2 n3 : Int) (g1 : (x.toList == ([101, 118, 101, 114, 121] : List UInt8)) = false) (g2 : (x.toList == ([115, 111, 109, 101] : List UInt8)) = false) (g3 : (x.toList == ([110, 111] : List UInt8)) = false) (g4 : (x.toList == ([109, 111, 115, 116] : List UInt8)) = false) (g5 : (x.toList == ([101, 118, 101, 110] : List UInt8)) = false) (h1 : impl_countIn.f x (⟨#[97, 116, 108, 101, 97, 115, 116]⟩ : ByteArray) 1 5 = some (n1, true)) (h2 : impl_countIn.f x (⟨#[106, 117, 115, 116]⟩ : ByteArray) 0 5 = some (n2, false)) (h3 : impl_countIn.f x (⟨#[97, 108, 108, 98, 117, 116]⟩ : ByteArray) 0 5 = some (n3, false)) (l1 : -1000 ≤ n1) (m1 : n1 ≤ 1000) (l2 : -1000 ≤ n2) (m2 : n2 ≤ 1000) (l3 : -1000 ≤ n3) (m3 : n3 ≤ 1000) (w : World) :
    Calls Try.prog 66 #[.string x] w fun e w' => ∃ v0_ : Value, e = .returned (.tuple #[v0_, .bool true]) ∧ Kd.R (Kd.int .i64) 3 w' w.heap.size (fun _ => True) v0_ (impl_triangleBy.M (impl_namedTriangle.p6 n1)) ∧ Below w.heap.size w w' := by
  have A1 := Aside0.mk h1
  have A2 := Aside0.mk h2
  have A3 := Aside0.mk h3
  have L1 := Aside0.mk (And.intro l1 m1)
  have L2 := Aside0.mk (And.intro l2 m2)
  have L3 := Aside0.mk (And.intro l3 m3)
  clear h1 h2 h3 l1 m1 l2 m2 l3 m3
  have hmf : ∀ (fn : Fn) (first cap : Array Value) (w : World), (Instr.makeFunc fn first cap).run Try.prog w = .ok (.func fn first cap) w := fun _ _ _ _ => rfl
  have hnf := impl_namedTriangle.notNil
  have hnn := impl_namedTriangle.isNil
  go_enter Try.func66, Try.ntmps66
  go_wp2_with (first | (go_at_call 85; (with_reducible refine (impl_countIn.calls x (⟨#[97, 116, 108, 101, 97, 115, 116]⟩ : ByteArray) 1 5 n1 true _ A1.out).mono ?_); rintro e w1 ⟨rfl, hd1⟩) | (go_at_call 85; (with_reducible refine (impl_countIn.calls x (⟨#[106, 117, 115, 116]⟩ : ByteArray) 0 5 n2 false _ A2.out).mono ?_); rintro e w2 ⟨rfl, hd2⟩) | (go_at_call 85; (with_reducible refine (impl_countIn.calls x (⟨#[97, 108, 108, 98, 117, 116]⟩ : ByteArray) 0 5 n3 false _ A3.out).mono ?_); rintro e w3 ⟨rfl, hd3⟩) | (go_at_call 77; refine (impl_namedTriangle.tri6 w1.heap.size n1 L1.out.1 L1.out.2 _ (impl_namedTriangle.keep (w := w1) (below_alloc (below_step (below_alloc hd2.below _) hd3.below) _)) (impl_namedTriangle.keeplt (w := w1) (below_alloc (below_step (below_alloc hd2.below _) hd3.below) _))).mono ?_; rintro e w4 ⟨v0_, rfl, hR, hB⟩))
  go_ret2
  exact ⟨_, rfl, Kd.R_lower hR (below_size (below_alloc (below_step (below_alloc (below_step (below_alloc hd1.below _) hd2.below) _) hd3.below) _)), below_step (below_alloc (below_step (below_alloc (below_step (below_alloc hd1.below _) hd2.below) _) hd3.below) _) hB⟩
set_option maxHeartbeats 8000000 in
set_option maxRecDepth 100000 in
theorem impl_namedTriangle.way_true_false_true (x : ByteArray) (n1 n2 n3 : Int) (g1 : (x.toList == ([101, 118, 101, 114, 121] : List UInt8)) = false) (g2 : (x.toList == ([115, 111, 109, 101] : List UInt8)) = false) (g3 : (x.toList == ([110, 111] : List UInt8)) = false) (g4 : (x.toList == ([109, 111, 115, 116] : List UInt8)) = false) (g5 : (x.toList == ([101, 118, 101, 110] : List UInt8)) = false) (h1 : impl_countIn.f x (⟨#[97, 116, 108, 101, 97, 115, 116]⟩ : ByteArray) 1 5 = some (n1, true)) (h2 : impl_countIn.f x (⟨#[106, 117, 115, 116]⟩ : ByteArray) 0 5 = some (n2, false)) (h3 : impl_countIn.f x (⟨#[97, 108, 108, 98, 117, 116]⟩ : ByteArray) 0 5 = some (n3, true)) (l1 : -1000 ≤ n1) (m1 : n1 ≤ 1000) (l2 : -1000 ≤ n2) (m2 : n2 ≤ 1000) (l3 : -1000 ≤ n3) (m3 : n3 ≤ 1000) (w : World) :
    Calls Try.prog 66 #[.string x] w fun e w' => ∃ v0_ : Value, e = .returned (.tuple #[v0_, .bool true]) ∧ Kd.R (Kd.int .i64) 3 w' w.heap.size (fun _ => True) v0_ (impl_triangleBy.M (impl_namedTriangle.p8 n3)) ∧ Below w.heap.size w w' := by
  have A1 := Aside0.mk h1
  have A2 := Aside0.mk h2
  have A3 := Aside0.mk h3
  have L1 := Aside0.mk (And.intro l1 m1)
  have L2 := Aside0.mk (And.intro l2 m2)
  have L3 := Aside0.mk (And.intro l3 m3)
  clear h1 h2 h3 l1 m1 l2 m2 l3 m3
  have hmf : ∀ (fn : Fn) (first cap : Array Value) (w : World), (Instr.makeFunc fn first cap).run Try.prog w = .ok (.func fn first cap) w := fun _ _ _ _ => rfl
  have hnf := impl_namedTriangle.notNil
  have hnn := impl_namedTriangle.isNil
  go_enter Try.func66, Try.ntmps66
  go_wp2_with (first | (go_at_call 85; (with_reducible refine (impl_countIn.calls x (⟨#[97, 116, 108, 101, 97, 115, 116]⟩ : ByteArray) 1 5 n1 true _ A1.out).mono ?_); rintro e w1 ⟨rfl, hd1⟩) | (go_at_call 85; (with_reducible refine (impl_countIn.calls x (⟨#[106, 117, 115, 116]⟩ : ByteArray) 0 5 n2 false _ A2.out).mono ?_); rintro e w2 ⟨rfl, hd2⟩) | (go_at_call 85; (with_reducible refine (impl_countIn.calls x (⟨#[97, 108, 108, 98, 117, 116]⟩ : ByteArray) 0 5 n3 true _ A3.out).mono ?_); rintro e w3 ⟨rfl, hd3⟩) | (go_at_call 77; refine (impl_namedTriangle.tri8 w3.heap.size n3 L3.out.1 L3.out.2 _ (impl_namedTriangle.keep (w := w3) (Below.refl _ _)) (impl_namedTriangle.keeplt (w := w3) (Below.refl _ _))).mono ?_; rintro e w4 ⟨v0_, rfl, hR, hB⟩))
  go_ret2
  exact ⟨_, rfl, Kd.R_lower hR (below_size (below_alloc (below_step (below_alloc (below_step (below_alloc hd1.below _) hd2.below) _) hd3.below) _)), below_step (below_alloc (below_step (below_alloc (below_step (below_alloc hd1.below _) hd2.below) _) hd3.below) _) hB⟩
set_option maxHeartbeats 8000000 in
set_option maxRecDepth 100000 in
theorem impl_namedTriangle.way_true_true_false (x : ByteArray) (n1 n2 n3 : Int) (g1 : (x.toList == ([101, 118, 101, 114, 121] : List UInt8)) = false) (g2 : (x.toList == ([115, 111, 109, 101] : List UInt8)) = false) (g3 : (x.toList == ([110, 111] : List UInt8)) = false) (g4 : (x.toList == ([109, 111, 115, 116] : List UInt8)) = false) (g5 : (x.toList == ([101, 118, 101, 110] : List UInt8)) = false) (h1 : impl_countIn.f x (⟨#[97, 116, 108, 101, 97, 115, 116]⟩ : ByteArray) 1 5 = some (n1, true)) (h2 : impl_countIn.f x (⟨#[106, 117, 115, 116]⟩ : ByteArray) 0 5 = some (n2, true)) (h3 : impl_countIn.f x (⟨#[97, 108, 108, 98, 117, 116]⟩ : ByteArray) 0 5 = some (n3, false)) (l1 : -1000 ≤ n1) (m1 : n1 ≤ 1000) (l2 : -1000 ≤ n2) (m2 : n2 ≤ 1000) (l3 : -1000 ≤ n3) (m3 : n3 ≤ 1000) (w : World) :
    Calls Try.prog 66 #[.string x] w fun e w' => ∃ v0_ : Value, e = .returned (.tuple #[v0_, .bool true]) ∧ Kd.R (Kd.int .i64) 3 w' w.heap.size (fun _ => True) v0_ (impl_triangleBy.M (impl_namedTriangle.p7 n2)) ∧ Below w.heap.size w w' := by
  have A1 := Aside0.mk h1
  have A2 := Aside0.mk h2
  have A3 := Aside0.mk h3
  have L1 := Aside0.mk (And.intro l1 m1)
  have L2 := Aside0.mk (And.intro l2 m2)
  have L3 := Aside0.mk (And.intro l3 m3)
  clear h1 h2 h3 l1 m1 l2 m2 l3 m3
  have hmf : ∀ (fn : Fn) (first cap : Array Value) (w : World), (Instr.makeFunc fn first cap).run Try.prog w = .ok (.func fn first cap) w := fun _ _ _ _ => rfl
  have hnf := impl_namedTriangle.notNil
  have hnn := impl_namedTriangle.isNil
  go_enter Try.func66, Try.ntmps66
  go_wp2_with (first | (go_at_call 85; (with_reducible refine (impl_countIn.calls x (⟨#[97, 116, 108, 101, 97, 115, 116]⟩ : ByteArray) 1 5 n1 true _ A1.out).mono ?_); rintro e w1 ⟨rfl, hd1⟩) | (go_at_call 85; (with_reducible refine (impl_countIn.calls x (⟨#[106, 117, 115, 116]⟩ : ByteArray) 0 5 n2 true _ A2.out).mono ?_); rintro e w2 ⟨rfl, hd2⟩) | (go_at_call 85; (with_reducible refine (impl_countIn.calls x (⟨#[97, 108, 108, 98, 117, 116]⟩ : ByteArray) 0 5 n3 false _ A3.out).mono ?_); rintro e w3 ⟨rfl, hd3⟩) | (go_at_call 77; refine (impl_namedTriangle.tri7 w2.heap.size n2 L2.out.1 L2.out.2 _ (impl_namedTriangle.keep (w := w2) (below_alloc hd3.below _)) (impl_namedTriangle.keeplt (w := w2) (below_alloc hd3.below _))).mono ?_; rintro e w4 ⟨v0_, rfl, hR, hB⟩))
  go_ret2
  exact ⟨_, rfl, Kd.R_lower hR (below_size (below_alloc (below_step (below_alloc (below_step (below_alloc hd1.below _) hd2.below) _) hd3.below) _)), below_step (below_alloc (below_step (below_alloc (below_step (below_alloc hd1.below _) hd2.below) _) hd3.below) _) hB⟩
set_option maxHeartbeats 8000000 in
set_option maxRecDepth 100000 in
theorem impl_namedTriangle.way_true_true_true (x : ByteArray) (n1 n2 n3 : Int) (g1 : (x.toList == ([101, 118, 101, 114, 121] : List UInt8)) = false) (g2 : (x.toList == ([115, 111, 109, 101] : List UInt8)) = false) (g3 : (x.toList == ([110, 111] : List UInt8)) = false) (g4 : (x.toList == ([109, 111, 115, 116] : List UInt8)) = false) (g5 : (x.toList == ([101, 118, 101, 110] : List UInt8)) = false) (h1 : impl_countIn.f x (⟨#[97, 116, 108, 101, 97, 115, 116]⟩ : ByteArray) 1 5 = some (n1, true)) (h2 : impl_countIn.f x (⟨#[106, 117, 115, 116]⟩ : ByteArray) 0 5 = some (n2, true)) (h3 : impl_countIn.f x (⟨#[97, 108, 108, 98, 117, 116]⟩ : ByteArray) 0 5 = some (n3, true)) (l1 : -1000 ≤ n1) (m1 : n1 ≤ 1000) (l2 : -1000 ≤ n2) (m2 : n2 ≤ 1000) (l3 : -1000 ≤ n3) (m3 : n3 ≤ 1000) (w : World) :
    Calls Try.prog 66 #[.string x] w fun e w' => ∃ v0_ : Value, e = .returned (.tuple #[v0_, .bool true]) ∧ Kd.R (Kd.int .i64) 3 w' w.heap.size (fun _ => True) v0_ (impl_triangleBy.M (impl_namedTriangle.p8 n3)) ∧ Below w.heap.size w w' := by
  have A1 := Aside0.mk h1
  have A2 := Aside0.mk h2
  have A3 := Aside0.mk h3
  have L1 := Aside0.mk (And.intro l1 m1)
  have L2 := Aside0.mk (And.intro l2 m2)
  have L3 := Aside0.mk (And.intro l3 m3)
  clear h1 h2 h3 l1 m1 l2 m2 l3 m3
  have hmf : ∀ (fn : Fn) (first cap : Array Value) (w : World), (Instr.makeFunc fn first cap).run Try.prog w = .ok (.func fn first cap) w := fun _ _ _ _ => rfl
  have hnf := impl_namedTriangle.notNil
  have hnn := impl_namedTriangle.isNil
  go_enter Try.func66, Try.ntmps66
  go_wp2_with (first | (go_at_call 85; (with_reducible refine (impl_countIn.calls x (⟨#[97, 116, 108, 101, 97, 115, 116]⟩ : ByteArray) 1 5 n1 true _ A1.out).mono ?_); rintro e w1 ⟨rfl, hd1⟩) | (go_at_call 85; (with_reducible refine (impl_countIn.calls x (⟨#[106, 117, 115, 116]⟩ : ByteArray) 0 5 n2 true _ A2.out).mono ?_); rintro e w2 ⟨rfl, hd2⟩) | (go_at_call 85; (with_reducible refine (impl_countIn.calls x (⟨#[97, 108, 108, 98, 117, 116]⟩ : ByteArray) 0 5 n3 true _ A3.out).mono ?_); rintro e w3 ⟨rfl, hd3⟩) | (go_at_call 77; refine (impl_namedTriangle.tri8 w3.heap.size n3 L3.out.1 L3.out.2 _ (impl_namedTriangle.keep (w := w3) (Below.refl _ _)) (impl_namedTriangle.keeplt (w := w3) (Below.refl _ _))).mono ?_; rintro e w4 ⟨v0_, rfl, hR, hB⟩))
  go_ret2
  exact ⟨_, rfl, Kd.R_lower hR (below_size (below_alloc (below_step (below_alloc (below_step (below_alloc hd1.below _) hd2.below) _) hd3.below) _)), below_step (below_alloc (below_step (below_alloc (below_step (below_alloc hd1.below _) hd2.below) _) hd3.below) _) hB⟩
theorem impl_namedTriangle.of_list {x : ByteArray} {l : List UInt8} (h : x.toList = l) : x = ⟨l.toArray⟩ := by
  rw [impl_namedTriangle.tl] at h
  obtain ⟨d⟩ := x
  simp only at h
  rw [← h]
theorem impl_namedTriangle.c1_1 : impl_countIn.f (⟨#[101, 118, 101, 114, 121]⟩ : ByteArray) (⟨#[97, 116, 108, 101, 97, 115, 116]⟩ : ByteArray) 1 5 = some (0, false) := by decide +kernel
theorem impl_namedTriangle.c1_2 : impl_countIn.f (⟨#[101, 118, 101, 114, 121]⟩ : ByteArray) (⟨#[106, 117, 115, 116]⟩ : ByteArray) 0 5 = some (0, false) := by decide +kernel
theorem impl_namedTriangle.c1_3 : impl_countIn.f (⟨#[101, 118, 101, 114, 121]⟩ : ByteArray) (⟨#[97, 108, 108, 98, 117, 116]⟩ : ByteArray) 0 5 = some (0, false) := by decide +kernel
theorem impl_namedTriangle.c2_1 : impl_countIn.f (⟨#[115, 111, 109, 101]⟩ : ByteArray) (⟨#[97, 116, 108, 101, 97, 115, 116]⟩ : ByteArray) 1 5 = some (0, false) := by decide +kernel
theorem impl_namedTriangle.c2_2 : impl_countIn.f (⟨#[115, 111, 109, 101]⟩ : ByteArray) (⟨#[106, 117, 115, 116]⟩ : ByteArray) 0 5 = some (0, false) := by decide +kernel
theorem impl_namedTriangle.c2_3 : impl_countIn.f (⟨#[115, 111, 109, 101]⟩ : ByteArray) (⟨#[97, 108, 108, 98, 117, 116]⟩ : ByteArray) 0 5 = some (0, false) := by decide +kernel
theorem impl_namedTriangle.c3_1 : impl_countIn.f (⟨#[110, 111]⟩ : ByteArray) (⟨#[97, 116, 108, 101, 97, 115, 116]⟩ : ByteArray) 1 5 = some (0, false) := by decide +kernel
theorem impl_namedTriangle.c3_2 : impl_countIn.f (⟨#[110, 111]⟩ : ByteArray) (⟨#[106, 117, 115, 116]⟩ : ByteArray) 0 5 = some (0, false) := by decide +kernel
theorem impl_namedTriangle.c3_3 : impl_countIn.f (⟨#[110, 111]⟩ : ByteArray) (⟨#[97, 108, 108, 98, 117, 116]⟩ : ByteArray) 0 5 = some (0, false) := by decide +kernel
theorem impl_namedTriangle.c4_1 : impl_countIn.f (⟨#[109, 111, 115, 116]⟩ : ByteArray) (⟨#[97, 116, 108, 101, 97, 115, 116]⟩ : ByteArray) 1 5 = some (0, false) := by decide +kernel
theorem impl_namedTriangle.c4_2 : impl_countIn.f (⟨#[109, 111, 115, 116]⟩ : ByteArray) (⟨#[106, 117, 115, 116]⟩ : ByteArray) 0 5 = some (0, false) := by decide +kernel
theorem impl_namedTriangle.c4_3 : impl_countIn.f (⟨#[109, 111, 115, 116]⟩ : ByteArray) (⟨#[97, 108, 108, 98, 117, 116]⟩ : ByteArray) 0 5 = some (0, false) := by decide +kernel
theorem impl_namedTriangle.c5_1 : impl_countIn.f (⟨#[101, 118, 101, 110]⟩ : ByteArray) (⟨#[97, 116, 108, 101, 97, 115, 116]⟩ : ByteArray) 1 5 = some (0, false) := by decide +kernel
theorem impl_namedTriangle.c5_2 : impl_countIn.f (⟨#[101, 118, 101, 110]⟩ : ByteArray) (⟨#[106, 117, 115, 116]⟩ : ByteArray) 0 5 = some (0, false) := by decide +kernel
theorem impl_namedTriangle.c5_3 : impl_countIn.f (⟨#[101, 118, 101, 110]⟩ : ByteArray) (⟨#[97, 108, 108, 98, 117, 116]⟩ : ByteArray) 0 5 = some (0, false) := by decide +kernel
theorem impl_namedTriangle.calls (a0 : ByteArray) (r1 : List Int) (r2 : Bool) (w : World) (h : impl_namedTriangle.f a0 = some (r1, r2)) :
    Calls Try.prog 66 #[.string a0] w fun e w' => ∃ v0_ : Value, e = .returned (.tuple #[v0_, .bool r2]) ∧ Kd.R (Kd.int .i64) 3 w' w.heap.size (fun _ => True) v0_ r1 ∧ Below w.heap.size w w' := by
  unfold impl_namedTriangle.f at h
  obtain ⟨⟨n1, b1⟩, h1, h⟩ := Option.bind_eq_some_iff.mp h
  obtain ⟨⟨n2, b2⟩, h2, h⟩ := Option.bind_eq_some_iff.mp h
  obtain ⟨⟨n3, b3⟩, h3, h⟩ := Option.bind_eq_some_iff.mp h
  dsimp only at h
  by_cases l : -1000 ≤ n1 ∧ n1 ≤ 1000 ∧ -1000 ≤ n2 ∧ n2 ≤ 1000 ∧ -1000 ≤ n3 ∧ n3 ≤ 1000
  rotate_left
  · rw [if_neg l] at h; exact absurd h (by simp)
  rw [if_pos l] at h
  replace h := Option.some.inj h
  by_cases e1 : a0.toList = ([101, 118, 101, 114, 121] : List UInt8)
  · obtain rfl := impl_namedTriangle.of_list e1
    rw [impl_namedTriangle.c1_1] at h1
    rw [impl_namedTriangle.c1_2] at h2
    rw [impl_namedTriangle.c1_3] at h3
    simp only [Option.some.injEq, Prod.mk.injEq] at h1 h2 h3
    obtain ⟨rfl, rfl⟩ := h1
    obtain ⟨rfl, rfl⟩ := h2
    obtain ⟨rfl, rfl⟩ := h3
    have hr : (r1, r2) = (impl_triangleBy.M impl_namedTriangle.p1, true) := by
      rw [← h]; unfold impl_namedTriangle.pick impl_namedTriangle.plain; rw [if_neg (by simp), if_neg (by simp), if_neg (by simp)];  rw [if_pos e1]
    simp only [Prod.mk.injEq] at hr
    obtain ⟨rfl, rfl⟩ := hr
    exact impl_namedTriangle.way1 _ 0 0 0 e1 impl_namedTriangle.c1_1 impl_namedTriangle.c1_2 impl_namedTriangle.c1_3 (by omega) (by omega) (by omega) (by omega) (by omega) (by omega) w
  by_cases e2 : a0.toList = ([115, 111, 109, 101] : List UInt8)
  · obtain rfl := impl_namedTriangle.of_list e2
    rw [impl_namedTriangle.c2_1] at h1
    rw [impl_namedTriangle.c2_2] at h2
    rw [impl_namedTriangle.c2_3] at h3
    simp only [Option.some.injEq, Prod.mk.injEq] at h1 h2 h3
    obtain ⟨rfl, rfl⟩ := h1
    obtain ⟨rfl, rfl⟩ := h2
    obtain ⟨rfl, rfl⟩ := h3
    have hr : (r1, r2) = (impl_triangleBy.M impl_namedTriangle.p2, true) := by
      rw [← h]; unfold impl_namedTriangle.pick impl_namedTriangle.plain; rw [if_neg (by simp), if_neg (by simp), if_neg (by simp)]; rw [if_neg e1]; rw [if_pos e2]
    simp only [Prod.mk.injEq] at hr
    obtain ⟨rfl, rfl⟩ := hr
    exact impl_namedTriangle.way2 _ 0 0 0 e2 impl_namedTriangle.c2_1 impl_namedTriangle.c2_2 impl_namedTriangle.c2_3 (by omega) (by omega) (by omega) (by omega) (by omega) (by omega) w
  by_cases e3 : a0.toList = ([110, 111] : List UInt8)
  · obtain rfl := impl_namedTriangle.of_list e3
    rw [impl_namedTriangle.c3_1] at h1
    rw [impl_namedTriangle.c3_2] at h2
    rw [impl_namedTriangle.c3_3] at h3
    simp only [Option.some.injEq, Prod.mk.injEq] at h1 h2 h3
    obtain ⟨rfl, rfl⟩ := h1
    obtain ⟨rfl, rfl⟩ := h2
    obtain ⟨rfl, rfl⟩ := h3
    have hr : (r1, r2) = (impl_triangleBy.M impl_namedTriangle.p3, true) := by
      rw [← h]; unfold impl_namedTriangle.pick impl_namedTriangle.plain; rw [if_neg (by simp), if_neg (by simp), if_neg (by simp)]; rw [if_neg e1]; rw [if_neg e2]; rw [if_pos e3]
    simp only [Prod.mk.injEq] at hr
    obtain ⟨rfl, rfl⟩ := hr
    exact impl_namedTriangle.way3 _ 0 0 0 e3 impl_namedTriangle.c3_1 impl_namedTriangle.c3_2 impl_namedTriangle.c3_3 (by omega) (by omega) (by omega) (by omega) (by omega) (by omega) w
  by_cases e4 : a0.toList = ([109, 111, 115, 116] : List UInt8)
  · obtain rfl := impl_namedTriangle.of_list e4
    rw [impl_namedTriangle.c4_1] at h1
    rw [impl_namedTriangle.c4_2] at h2
    rw [impl_namedTriangle.c4_3] at h3
    simp only [Option.some.injEq, Prod.mk.injEq] at h1 h2 h3
    obtain ⟨rfl, rfl⟩ := h1
    obtain ⟨rfl, rfl⟩ := h2
    obtain ⟨rfl, rfl⟩ := h3
    have hr : (r1, r2) = (impl_triangleBy.M impl_namedTriangle.p4, true) := by
      rw [← h]; unfold impl_namedTriangle.pick impl_namedTriangle.plain; rw [if_neg (by simp), if_neg (by simp), if_neg (by simp)]; rw [if_neg e1]; rw [if_neg e2]; rw [if_neg e3]; rw [if_pos e4]
    simp only [Prod.mk.injEq] at hr
    obtain ⟨rfl, rfl⟩ := hr
    exact impl_namedTriangle.way4 _ 0 0 0 e4 impl_namedTriangle.c4_1 impl_namedTriangle.c4_2 impl_namedTriangle.c4_3 (by omega) (by omega) (by omega) (by omega) (by omega) (by omega) w
  by_cases e5 : a0.toList = ([101, 118, 101, 110] : List UInt8)
  · obtain rfl := impl_namedTriangle.of_list e5
    rw [impl_namedTriangle.c5_1] at h1
    rw [impl_namedTriangle.c5_2] at h2
    rw [impl_namedTriangle.c5_3] at h3
    simp only [Option.some.injEq, Prod.mk.injEq] at h1 h2 h3
    obtain ⟨rfl, rfl⟩ := h1
    obtain ⟨rfl, rfl⟩ := h2
    obtain ⟨rfl, rfl⟩ := h3
    have hr : (r1, r2) = (impl_triangleBy.M impl_namedTriangle.p5, true) := by
      rw [← h]; unfold impl_namedTriangle.pick impl_namedTriangle.plain; rw [if_neg (by simp), if_neg (by simp), if_neg (by simp)]; rw [if_neg e1]; rw [if_neg e2]; rw [if_neg e3]; rw [if_neg e4]; rw [if_pos e5]
    simp only [Prod.mk.injEq] at hr
    obtain ⟨rfl, rfl⟩ := hr
    exact impl_namedTriangle.way5 _ 0 0 0 e5 impl_namedTriangle.c5_1 impl_namedTriangle.c5_2 impl_namedTriangle.c5_3 (by omega) (by omega) (by omega) (by omega) (by omega) (by omega) w
  cases b1 <;> cases b2 <;> cases b3
  · have hr : (r1, r2) = (([] : List Int), false) := by
      rw [← h]; unfold impl_namedTriangle.pick; rw [if_neg (by simp)]; rw [if_neg (by simp)]; rw [if_neg (by simp)]; unfold impl_namedTriangle.plain; rw [if_neg e1, if_neg e2, if_neg e3, if_neg e4, if_neg e5]
    simp only [Prod.mk.injEq] at hr
    obtain ⟨rfl, rfl⟩ := hr
    exact impl_namedTriangle.way_false_false_false a0 n1 n2 n3 (beq_eq_false_iff_ne.mpr e1) (beq_eq_false_iff_ne.mpr e2) (beq_eq_false_iff_ne.mpr e3) (beq_eq_false_iff_ne.mpr e4) (beq_eq_false_iff_ne.mpr e5) h1 h2 h3 l.1 l.2.1 l.2.2.1 l.2.2.2.1 l.2.2.2.2.1 l.2.2.2.2.2 w
  · have hr : (r1, r2) = (impl_triangleBy.M (impl_namedTriangle.p8 n3), true) := by
      rw [← h]; unfold impl_namedTriangle.pick; rw [if_pos rfl]
    simp only [Prod.mk.injEq] at hr
    obtain ⟨rfl, rfl⟩ := hr
    exact impl_namedTriangle.way_false_false_true a0 n1 n2 n3 (beq_eq_false_iff_ne.mpr e1) (beq_eq_false_iff_ne.mpr e2) (beq_eq_false_iff_ne.mpr e3) (beq_eq_false_iff_ne.mpr e4) (beq_eq_false_iff_ne.mpr e5) h1 h2 h3 l.1 l.2.1 l.2.2.1 l.2.2.2.1 l.2.2.2.2.1 l.2.2.2.2.2 w
  · have hr : (r1, r2) = (impl_triangleBy.M (impl_namedTriangle.p7 n2), true) := by
      rw [← h]; unfold impl_namedTriangle.pick; rw [if_neg (by simp)]; rw [if_pos rfl]
    simp only [Prod.mk.injEq] at hr
    obtain ⟨rfl, rfl⟩ := hr
    exact impl_namedTriangle.way_false_true_false a0 n1 n2 n3 (beq_eq_false_iff_ne.mpr e1) (beq_eq_false_iff_ne.mpr e2) (beq_eq_false_iff_ne.mpr e3) (beq_eq_false_iff_ne.mpr e4) (beq_eq_false_iff_ne.mpr e5) h1 h2 h3 l.1 l.2.1 l.2.2.1 l.2.2.2.1 l.2.2.2.2.1 l.2.2.2.2.2 w
  · have hr : (r1, r2) = (impl_triangleBy.M (impl_namedTriangle.p8 n3), true) := by
      rw [← h]; unfold impl_namedTriangle.pick; rw [if_pos rfl]
    simp only [Prod.mk.injEq] at hr
    obtain ⟨rfl, rfl⟩ := hr
    exact impl_namedTriangle.way_false_true_true a0 n1 n2 n3 (beq_eq_false_iff_ne.mpr e1) (beq_eq_false_iff_ne.mpr e2) (beq_eq_false_iff_ne.mpr e3) (beq_eq_false_iff_ne.mpr e4) (beq_eq_false_iff_ne.mpr e5) h1 h2 h3 l.1 l.2.1 l.2.2.1 l.2.2.2.1 l.2.2.2.2.1 l.2.2.2.2.2 w
  · have hr : (r1, r2) = (impl_triangleBy.M (impl_namedTriangle.p6 n1), true) := by
      rw [← h]; unfold impl_namedTriangle.pick; rw [if_neg (by simp)]; rw [if_neg (by simp)]; rw [if_pos rfl]
    simp only [Prod.mk.injEq] at hr
    obtain ⟨rfl, rfl⟩ := hr
    exact impl_namedTriangle.way_true_false_false a0 n1 n2 n3 (beq_eq_false_iff_ne.mpr e1) (beq_eq_false_iff_ne.mpr e2) (beq_eq_false_iff_ne.mpr e3) (beq_eq_false_iff_ne.mpr e4) (beq_eq_false_iff_ne.mpr e5) h1 h2 h3 l.1 l.2.1 l.2.2.1 l.2.2.2.1 l.2.2.2.2.1 l.2.2.2.2.2 w
  · have hr : (r1, r2) = (impl_triangleBy.M (impl_namedTriangle.p8 n3), true) := by
      rw [← h]; unfold impl_namedTriangle.pick; rw [if_pos rfl]
    simp only [Prod.mk.injEq] at hr
    obtain ⟨rfl, rfl⟩ := hr
    exact impl_namedTriangle.way_true_false_true a0 n1 n2 n3 (beq_eq_false_iff_ne.mpr e1) (beq_eq_false_iff_ne.mpr e2) (beq_eq_false_iff_ne.mpr e3) (beq_eq_false_iff_ne.mpr e4) (beq_eq_false_iff_ne.mpr e5) h1 h2 h3 l.1 l.2.1 l.2.2.1 l.2.2.2.1 l.2.2.2.2.1 l.2.2.2.2.2 w
  · have hr : (r1, r2) = (impl_triangleBy.M (impl_namedTriangle.p7 n2), true) := by
      rw [← h]; unfold impl_namedTriangle.pick; rw [if_neg (by simp)]; rw [if_pos rfl]
    simp only [Prod.mk.injEq] at hr
    obtain ⟨rfl, rfl⟩ := hr
    exact impl_namedTriangle.way_true_true_false a0 n1 n2 n3 (beq_eq_false_iff_ne.mpr e1) (beq_eq_false_iff_ne.mpr e2) (beq_eq_false_iff_ne.mpr e3) (beq_eq_false_iff_ne.mpr e4) (beq_eq_false_iff_ne.mpr e5) h1 h2 h3 l.1 l.2.1 l.2.2.1 l.2.2.2.1 l.2.2.2.2.1 l.2.2.2.2.2 w
  · have hr : (r1, r2) = (impl_triangleBy.M (impl_namedTriangle.p8 n3), true) := by
      rw [← h]; unfold impl_namedTriangle.pick; rw [if_pos rfl]
    simp only [Prod.mk.injEq] at hr
    obtain ⟨rfl, rfl⟩ := hr
    exact impl_namedTriangle.way_true_true_true a0 n1 n2 n3 (beq_eq_false_iff_ne.mpr e1) (beq_eq_false_iff_ne.mpr e2) (beq_eq_false_iff_ne.mpr e3) (beq_eq_false_iff_ne.mpr e4) (beq_eq_false_iff_ne.mpr e5) h1 h2 h3 l.1 l.2.1 l.2.2.1 l.2.2.2.1 l.2.2.2.2.1 l.2.2.2.2.2 w



/-! ### impl_NamedTriangle: function 43 -/
def impl_NamedTriangle.f (a0 : ByteArray) : Option (List Int × Bool) := (impl_namedTriangle.f a0).bind fun bt218 => (some (bt218.1, bt218.2))
set_option maxHeartbeats 8000000 in
set_option maxRecDepth 100000 in
theorem impl_NamedTriangle.calls (a0 : ByteArray) (r1 : List Int) (r2 : Bool) (w : World) (h : impl_NamedTriangle.f a0 = some (r1, r2)) :
    Calls Try.prog 43 #[.string a0] w fun e w' => ∃ v0_ : Value, e = .returned (.tuple #[v0_, .bool r2]) ∧ Kd.R (Kd.int .i64) 3 w' w.heap.size (fun _ => True) v0_ r1 ∧ Below w.heap.size w w' := by
  have HB := Aside0.mk (Below.refl w.heap.size w)
  have H : ((impl_namedTriangle.f a0).bind fun bt218 => (some (bt218.1, bt218.2))) = some (r1, r2) := h
  clear h
  replace H := Option.bind_eq_some_iff.mp H
  obtain ⟨⟨t218, t219⟩, A20, H⟩ := H
  replace H : (some (t218, t219)) = some (r1, r2) := H
  have A2 := Aside0.mk A20
  clear A20
  simp only [Option.some.injEq, Prod.mk.injEq] at H
  obtain ⟨rfl, rfl⟩ := H
  go_enter Try.func43, Try.ntmps43
  go_wp2_with (first | ((with_reducible refine gate_callee (f := 66) rfl ?_); refine goesL_ (some 5) rfl rfl Try.func66 (by kernel_rfl) rfl #[.string a0] rfl (by (try simp only [List.map_toArray, List.map_cons, List.map_nil]); first | done | rfl | (simp only [List.length_drop, List.length_take]; rfl)) ?_; (with_reducible refine (impl_namedTriangle.calls a0 t218 t219 _ A2.out).mono ?_); rintro e w3 ⟨v220, rfl, ho0, hb⟩; refine ⟨_, rfl, ?_⟩; have n0_ := Aside0.mk (Kd.R_lower ho0 (below_size (by repeat (first | (with_reducible first | exact HB.out | apply below_alloc | apply pw_below_drewN | apply below_drew1) | exact HB.out)))); have n1_ := Aside0.mk (below_step (by repeat (first | (with_reducible first | exact HB.out | apply below_alloc | apply pw_below_drewN | apply below_drew1) | exact HB.out)) hb); clear HB; have HO221 := n0_; have HB := n1_; clear n0_ n1_; (try clear hb); (try clear hb2); (try clear hk); (try clear hi); (try clear ho0)))
  go_ret2
  exact ⟨_, by first | rfl | (simp [errW_none, errW_some] <;> rfl) | (simp [*, errW_none, errW_some] <;> rfl), by (with_reducible repeat (first | apply Kd.R_alloc | apply Kd.R_drewN | apply Kd.R_drew)); exact HO221.out, by repeat (first | (with_reducible first | exact HB.out | apply below_alloc | apply pw_below_drewN | apply below_drew1) | exact HB.out)⟩

/-- A state of type 53 at block g of W; what its slices lead to came in by w0. -/
def IsS53 (w0 W : World) (g : Nat) (f0 : List Int) (f1 : Int) : Prop := ∃ A0 c0, W.heap[g]? = some (.cells #[.slice A0 f0.length c0, .int .i64 f1] 53 (0, 0)) ∧ w0.heap.size ≤ g ∧ Kd.C (Kd.int .u8) w0 A0 f0.length f0
theorem IsS53.grown {w0 W : World} {g : Nat} {f0 : List Int} {f1 : Int} {W1 : World} {row : Option Nat} (h : IsS53 w0 W g f0 f1) (hw : W.grownBy W1 row) (hne : some g ≠ row) : IsS53 w0 W1 g f0 f1 := by
  obtain ⟨A0, c0, hb, hg, hr0⟩ := h
  exact ⟨A0, c0, blk_grown hb hw hne, hg, hr0⟩
theorem IsS53.own_neN {w0 W : World} {g : Nat} {f0 : List Int} {f1 : Int} {α : Type} {d : Kd α} {e : Nat} {base : Nat} {ok : Nat → Prop} {v : Value} {xs : List α} (h : IsS53 w0 W g f0 f1) (ho : Kd.N d e W base ok v xs) (ht : e ≠ 53) : some g ≠ v.ownBlock := by
  obtain ⟨A0, c0, hb, hg, hr0⟩ := h
  exact Kd.N_ne ho hb ht
theorem IsS53.fresh {w0 W : World} {g : Nat} {f0 : List Int} {f1 : Int} (h : IsS53 w0 W g f0 f1) : ∀ k, W.heap.size ≤ k → k ≠ g := by
  obtain ⟨A0, c0, hb, hg, hr0⟩ := h
  exact Kd.freshB hb
theorem IsS53.kept {w0 W : World} {g : Nat} {f0 : List Int} {f1 : Int} {W1 : World} {S : Nat → Prop} (h : IsS53 w0 W g f0 f1) (hk : Kept W W1 S) (hne : ¬ S g) : IsS53 w0 W1 g f0 f1 := by
  obtain ⟨A0, c0, hb, hg, hr0⟩ := h
  exact ⟨A0, c0, blk_kept hb hk hne, hg, hr0⟩
theorem IsS53.below {w0 W : World} {g : Nat} {f0 : List Int} {f1 : Int} {W1 : World} (h : IsS53 w0 W g f0 f1) (hw : Below W.heap.size W W1) : IsS53 w0 W1 g f0 f1 := h.grown (grown_of_below hw none) (by simp)
theorem IsS53.alloc {w0 W : World} {g : Nat} {f0 : List Int} {f1 : Int} (h : IsS53 w0 W g f0 f1) (o : Obj) : IsS53 w0 (W.alloc o) g f0 f1 := h.below (below_alloc (Below.refl _ _) o)
theorem IsS53.drewN {w0 W : World} {g : Nat} {f0 : List Int} {f1 : Int} (h : IsS53 w0 W g f0 f1) (m : Nat) : IsS53 w0 (W.drewN m) g f0 f1 := h
theorem IsS53.drew {w0 W : World} {g : Nat} {f0 : List Int} {f1 : Int} (h : IsS53 w0 W g f0 f1) : IsS53 w0 W.drew g f0 f1 := h
theorem IsS53.at_ {w0 W : World} {g : Nat} {f0 : List Int} {f1 : Int} {w' : World} {m : Nat} (hq : W.drewN m = w') (h : IsS53 w0 W g f0 f1) : IsS53 w0 w' g f0 f1 := by subst hq; exact IsS53.drewN h m
theorem IsS53.apart {w0 W : World} {g : Nat} {f0 : List Int} {f1 : Int} {α : Type} {d : Kd α} {e : Nat} {base : Nat} {ok : Nat → Prop} {v : Value} {xs : List α} (h : IsS53 w0 W g f0 f1) (ho : d.R e W base ok v xs) (ht : ∀ q, q ∈ e :: d.E → q ≠ 53) : d.R e W base (fun k => ok k ∧ k ≠ g) v xs := by
  obtain ⟨A0, c0, hb, hg, hr0⟩ := h
  exact Kd.R_types ho hb ht
theorem IsS53.own_ne {w0 W : World} {g : Nat} {f0 : List Int} {f1 : Int} {α : Type} {d : Kd α} {e : Nat} {base : Nat} {ok : Nat → Prop} {v : Value} {xs : List α} (h : IsS53 w0 W g f0 f1) (ho : d.R e W base ok v xs) (ht : e ≠ 53) : some g ≠ v.ownBlock := by
  obtain ⟨A0, c0, hb, hg, hr0⟩ := h
  exact Kd.R_ne ho hb ht
theorem IsS53.apartQ {w0 W : World} {g : Nat} {f0 : List Int} {f1 : Int} {α : Type} {d : Kd α} {e : Nat} {base : Nat} {ok : Nat → Prop} {v : Value} {xs : List α} (h : IsS53 w0 W g f0 f1) (ho : d.Q e W base ok v xs) (ht : ∀ q, q ∈ e :: d.E → q ≠ 53) : d.Q e W base (fun k => ok k ∧ k ≠ g) v xs := by
  obtain ⟨A0, c0, hb, hg, hr0⟩ := h
  exact Kd.Q_types ho hb ht
theorem IsS53.own_neQ {w0 W : World} {g : Nat} {f0 : List Int} {f1 : Int} {α : Type} {d : Kd α} {e : Nat} {base : Nat} {ok : Nat → Prop} {v : Value} {xs : List α} (h : IsS53 w0 W g f0 f1) (ho : d.Q e W base ok v xs) (ht : e ≠ 53) : some g ≠ v.ownBlock := by
  obtain ⟨A0, c0, hb, hg, hr0⟩ := h
  exact Kd.Q_ne ho hb ht
theorem IsS53.apartS {w0 W : World} {g : Nat} {f0 : List Int} {f1 : Int} {α : Type} {d : Kd α} {e : Nat} {base : Nat} {ok : Nat → Prop} {v : Value} {xs : List α} (h : IsS53 w0 W g f0 f1) (ho : d.S e W base ok v xs) (ht : ∀ q, q ∈ e :: d.E → q ≠ 53) : d.S e W base (fun k => ok k ∧ k ≠ g) v xs := by
  obtain ⟨A0, c0, hb, hg, hr0⟩ := h
  exact Kd.S_types ho hb ht
theorem IsS53.own_neS {w0 W : World} {g : Nat} {f0 : List Int} {f1 : Int} {α : Type} {d : Kd α} {e : Nat} {base : Nat} {ok : Nat → Prop} {v : Value} {xs : List α} (h : IsS53 w0 W g f0 f1) (ho : d.S e W base ok v xs) (ht : e ≠ 53) : some g ≠ v.ownBlock := by
  obtain ⟨A0, c0, hb, hg, hr0⟩ := h
  exact Kd.S_ne ho hb ht
theorem IsS53.lt {w0 W : World} {g : Nat} {f0 : List Int} {f1 : Int} (h : IsS53 w0 W g f0 f1) : g < W.heap.size := by
  obtain ⟨A0, c0, hb, hg, hr0⟩ := h
  exact blk_lt hb
theorem IsS53.ge {w0 W : World} {g : Nat} {f0 : List Int} {f1 : Int} (h : IsS53 w0 W g f0 f1) : w0.heap.size ≤ g := by
  obtain ⟨A0, c0, hb, hg, hr0⟩ := h
  exact hg
theorem IsS53.ne_blk {w0 W : World} {g : Nat} {f0 : List Int} {f1 : Int} {a : Nat} {cs : Array Value} {t : TypeId} {fr : Nat × Nat} (h : IsS53 w0 W g f0 f1) (hb2 : W.heap[a]? = some (.cells cs t fr)) (ht : t ≠ 53) : g ≠ a := by
  obtain ⟨A0, c0, hb, hg, hr0⟩ := h
  rintro rfl
  rw [hb] at hb2
  injection hb2 with hb2
  injection hb2 with _ ht2
  exact ht ht2.symm
theorem IsS53.far {w0 W : World} {g : Nat} {f0 : List Int} {f1 : Int} {p : Addr} (h : IsS53 w0 W g f0 f1) (hne : g ≠ p.block) (u : Value) : IsS53 w0 (W.setCell p u) g f0 f1 := by
  obtain ⟨A0, c0, hb, hg, hr0⟩ := h
  exact ⟨A0, c0, blk_far hb hne u, hg, hr0⟩
theorem cellS53_0 {W : World} {g : Nat} {A0 : Option Addr} {c0 : Nat} {f0 : List Int} {f1 : Int} (h : W.heap[g]? = some (.cells #[.slice A0 f0.length c0, .int .i64 f1] 53 (0, 0))) : W.cell? ⟨g, 0, none⟩ = some (.slice A0 f0.length c0) := (blk_cell h 0).trans rfl
theorem cellS53_1 {W : World} {g : Nat} {A0 : Option Addr} {c0 : Nat} {f0 : List Int} {f1 : Int} (h : W.heap[g]? = some (.cells #[.slice A0 f0.length c0, .int .i64 f1] 53 (0, 0))) : W.cell? ⟨g, 1, none⟩ = some (.int .i64 f1) := (blk_cell h 1).trans rfl
theorem IsS53.set_1 {w0 W : World} {g : Nat} {f0 : List Int} {f1 : Int} (h : IsS53 w0 W g f0 f1) (x : Int) : IsS53 w0 (W.setCell ⟨g, 1, none⟩ (.int .i64 x)) g f0 x := by
  obtain ⟨A0, c0, hb, hg, hr0⟩ := h
  exact ⟨A0, c0, by simpa using blk_set hb 1 (.int .i64 x), hg, hr0⟩
theorem IsS53.new (w0 W : World) (A0 : Option Addr) (c0 : Nat) (f0 : List Int) (f1 : Int) (hB : Below w0.heap.size w0 W) (hr0 : Kd.C (Kd.int .u8) w0 A0 f0.length f0) : IsS53 w0 (W.alloc (.cells #[.slice A0 f0.length c0, .int .i64 f1] 53)) W.heap.size f0 f1 := ⟨A0, c0, by simpa using heap_alloc_new W _, hB.size, hr0⟩

/-! ### spec_l20Open: function 51 -/
def spec_l20Open.f (l0 : List Int) : Option (List Int × Int) := if (l0.length : Int) > 2000 then (if 2000 ≤ (l0.length : Int) then (some (l0.take 2000, 0)) else (none)) else (some (l0, 0))
set_option maxHeartbeats 8000000 in
set_option maxRecDepth 100000 in
theorem spec_l20Open.calls (A0 : Option Addr) (c0 : Nat) (l0 : List Int) (r1 : List Int) (r2 : Int) (w0 w : World) (hB : Below w0.heap.size w0 w) (hr0 : Kd.C (Kd.int .u8) w0 A0 l0.length l0) (hc0 : l0.length ≤ c0) (h : spec_l20Open.f l0 = some (r1, r2)) :
    Calls Try.prog 51 #[.slice A0 l0.length c0] w fun e w' => ∃ g_ : Nat, e = .returned (.pointer (some ⟨g_, 0, none⟩)) ∧ IsS53 w0 w' g_ r1 r2 ∧ Below w0.heap.size w0 w' ∧ Below w.heap.size w w' := by
  have hu53 := Try.underlying53
  have HR0 := Aside0.mk hr0
  have HC0 := Aside0.mk hc0
  clear hr0 hc0
  have HBW := Aside0.mk (Below.refl w.heap.size w)
  have HW0 := Aside0.mk hB.size
  have HB := Aside0.mk hB
  clear hB
  have H : (if (l0.length : Int) > 2000 then (if 2000 ≤ (l0.length : Int) then (some (l0.take 2000, 0)) else (none)) else (some (l0, 0))) = some (r1, r2) := h
  clear h
  by_cases c2 : (l0.length : Int) > 2000
  · rw [if_pos c2] at H
    have c2b0 : decide (2000 < (l0.length : Int)) = true := decide_eq_true c2
    have c2b1 : decide (2000 < l0.length) = true := decide_eq_true (by omega)
    clear c2
    by_cases c3 : 2000 ≤ (l0.length : Int)
    · rw [if_pos c3] at H
      have c3b0 := eq_true c3
      have c3b1 : decide (2000 ≤ (l0.length : Int)) = true := decide_eq_true c3
      clear c3
      simp only [Option.some.injEq, Prod.mk.injEq] at H
      obtain ⟨rfl, rfl⟩ := H
      obtain ⟨i04, hi04, _, hsz4, _⟩ := info_parts info5
      obtain ⟨hcut4, hA4, hC4⟩ := print_take_of (P := Try.prog) (Value.int .u8) 0 26 5 .i64 Try.underlying26 hi04 hsz4 A0 c0 l0 2000 (by omega) (of_decide_eq_true (by first | (with_reducible assumption) | assumption)) HC0.out
      have HR222 := Aside0.mk (Kd.C_of_reads (h1 := fun _ => rfl) (hA4 _ (Kd.reads_of_C HR0.out)))
      have HC222 := Aside0.mk hC4
      clear hA4 hC4 hi04 hsz4
      go_enter Try.func51, Try.ntmps51
      go_wp2_with (first | ((with_reducible refine gate_dst (N := 10) rfl ?_); refine box_event ?hg (N := 10) ?hd (cs := #[.slice A0 (l0.take 2000).length c0, .int .i64 0]) (t := 53) ?hr ?_; (case hd => rfl); (case hg => rfl); (case hr => first | (go_simp; done) | (go_simp; rfl)); intro gb223 hg w5 hbox hb; have n0_ := Aside0.mk (below_step HBW.out hb); have n1_ := Aside0.mk (below_step (by repeat (first | (with_reducible first | exact HB.out | apply below_alloc | apply pw_below_drewN | apply below_drew1) | exact HB.out)) hb); have n2_ := Aside0.mk (hbox); have n3_ := Aside0.mk ((by rw [hg]; exact (below_size (by repeat (first | (with_reducible first | exact HBW.out | apply below_alloc | apply pw_below_drewN | apply below_drew1) | exact HBW.out))) : w.heap.size ≤ gb223)); have n4_ := Aside0.mk ((Nat.le_trans HW0.out (by rw [hg]; exact (below_size (by repeat (first | (with_reducible first | exact HBW.out | apply below_alloc | apply pw_below_drewN | apply below_drew1) | exact HBW.out))) : w.heap.size ≤ gb223) : w0.heap.size ≤ gb223)); clear HBW; clear HB; have HBW := n0_; have HB := n1_; have BK223 := n2_; have GW223 := n3_; have GE223 := n4_; clear n0_ n1_ n2_ n3_ n4_; clear hb hbox hg))
      go_ret
      exact ⟨_, rfl, (show IsS53 w0 _ gb223 (l0.take 2000) 0 from ⟨_, _, by (with_reducible repeat (first | refine blk_drewN ?_ _ | refine blk_drew ?_ | refine blk_alloc ?_ _)); exact BK223.out, GE223.out, HR222.out⟩), by repeat (first | (with_reducible first | exact HB.out | apply below_alloc | apply pw_below_drewN | apply below_drew1 | refine below_set ?_ GE223.out) | exact HB.out), by repeat (first | (with_reducible first | exact HBW.out | apply below_alloc | apply pw_below_drewN | apply below_drew1 | refine below_set ?_ GW223.out) | exact HBW.out)⟩
    · rw [if_neg c3] at H
      exact absurd H (by simp)
  · rw [if_neg c2] at H
    have c2b0 : decide (2000 < (l0.length : Int)) = false := decide_eq_false c2
    have c2b1 : decide (2000 < l0.length) = false := decide_eq_false (by omega)
    clear c2
    simp only [Option.some.injEq, Prod.mk.injEq] at H
    obtain ⟨rfl, rfl⟩ := H
    go_enter Try.func51, Try.ntmps51
    go_wp2_with (first | ((with_reducible refine gate_dst (N := 10) rfl ?_); refine box_event ?hg (N := 10) ?hd (cs := #[.slice A0 l0.length c0, .int .i64 0]) (t := 53) ?hr ?_; (case hd => rfl); (case hg => rfl); (case hr => first | (go_simp; done) | (go_simp; rfl)); intro gb224 hg w6 hbox hb; have n0_ := Aside0.mk (below_step HBW.out hb); have n1_ := Aside0.mk (below_step (by repeat (first | (with_reducible first | exact HB.out | apply below_alloc | apply pw_below_drewN | apply below_drew1) | exact HB.out)) hb); have n2_ := Aside0.mk (hbox); have n3_ := Aside0.mk ((by rw [hg]; exact (below_size (by repeat (first | (with_reducible first | exact HBW.out | apply below_alloc | apply pw_below_drewN | apply below_drew1) | exact HBW.out))) : w.heap.size ≤ gb224)); have n4_ := Aside0.mk ((Nat.le_trans HW0.out (by rw [hg]; exact (below_size (by repeat (first | (with_reducible first | exact HBW.out | apply below_alloc | apply pw_below_drewN | apply below_drew1) | exact HBW.out))) : w.heap.size ≤ gb224) : w0.heap.size ≤ gb224)); clear HBW; clear HB; have HBW := n0_; have HB := n1_; have BK224 := n2_; have GW224 := n3_; have GE224 := n4_; clear n0_ n1_ n2_ n3_ n4_; clear hb hbox hg))
    go_ret
    exact ⟨_, rfl, (show IsS53 w0 _ gb224 l0 0 from ⟨_, _, by (with_reducible repeat (first | refine blk_drewN ?_ _ | refine blk_drew ?_ | refine blk_alloc ?_ _)); exact BK224.out, GE224.out, HR0.out⟩), by repeat (first | (with_reducible first | exact HB.out | apply below_alloc | apply pw_below_drewN | apply below_drew1 | refine below_set ?_ GE224.out) | exact HB.out), by repeat (first | (with_reducible first | exact HBW.out | apply below_alloc | apply pw_below_drewN | apply below_drew1 | refine below_set ?_ GW224.out) | exact HBW.out)⟩

end Go.Proofs.Ytmohhjbcdfhopaa.PFnAtOnce
