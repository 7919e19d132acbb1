-- Written by a program of this session (wip/patch_print.py, over the kit's print) and not by hand; Lean checks every word.
import Derived.Test.YtmohhjbcdfhopaaPFnSecondThenx0
import Derived.Test.YtmohhjbcdfhopaaPFnSecondThenx1
import Derived.Test.YtmohhjbcdfhopaaPFnSecondThenx3
import Derived.Test.YtmohhjbcdfhopaaPFnSecondThenx9
namespace Go.Proofs.Ytmohhjbcdfhopaa.PFnSecondThen
open Go.RowKit Go.Proofs.YtmohhjbcdfhopaaW.PrintWords Go.Proofs.YtmohhjbcdfhopaaW.PrintLast Go.Proofs.YtmohhjbcdfhopaaW.PrintMore
attribute [local go_sem] max2_int min2_int max_two min_two max_three min_three max_four min_four   -- for this text's walks alone
set_option linter.unusedVariables false
set_option linter.unusedSimpArgs false

/-! ### impl_namedTriangle: function 66 -/
theorem impl_namedTriangle.tl (b : ByteArray) : b.toList = b.data.toList := ByteArray.toList_eq b
theorem impl_namedTriangle.end_ {x : Ending} {b c : Bool} (h : x = .returned (.bool b)) (e : b = c) : x = .returned (.bool c) := by rw [h, e]
set_option maxHeartbeats 8000000 in
set_option maxRecDepth 100000 in
theorem impl_namedTriangle.in1 (a s : Nat) (w : World) (hs : s ≤ a) (ha : a ≤ 5) :
    Calls Try.prog 80 #[.int .i64 a, .int .i64 s] w fun e w' => e = .returned (.bool (decide (s = a))) ∧ Drawn0 w w' := by
  have g0 : (0 : Int) ≤ (a : Int) := by omega
  have g1 : (a : Int) ≤ 5 := by omega
  have g2 : (0 : Int) ≤ (s : Int) := by omega
  have g3 : (s : Int) ≤ 5 := by omega
  clear hs ha
  go_enter Try.func80, Try.ntmps80
  go_wp2
  go_ret
  exact ⟨impl_namedTriangle.end_ rfl (by rw [Bool.eq_iff_iff]; first | (simp; done) | (simp; omega) | skip), Drawn0.refl _⟩
set_option maxHeartbeats 8000000 in
set_option maxRecDepth 100000 in
theorem impl_namedTriangle.in2 (a s : Nat) (w : World) (hs : s ≤ a) (ha : a ≤ 5) :
    Calls Try.prog 81 #[.int .i64 a, .int .i64 s] w fun e w' => e = .returned (.bool (decide (0 < s))) ∧ Drawn0 w w' := by
  have g0 : (0 : Int) ≤ (a : Int) := by omega
  have g1 : (a : Int) ≤ 5 := by omega
  have g2 : (0 : Int) ≤ (s : Int) := by omega
  have g3 : (s : Int) ≤ 5 := by omega
  clear hs ha
  go_enter Try.func81, Try.ntmps81
  go_wp2
  go_ret
  exact ⟨impl_namedTriangle.end_ rfl (by rw [Bool.eq_iff_iff]; first | (simp; done) | (simp; omega) | skip), Drawn0.refl _⟩
set_option maxHeartbeats 8000000 in
set_option maxRecDepth 100000 in
theorem impl_namedTriangle.in3 (a s : Nat) (w : World) (hs : s ≤ a) (ha : a ≤ 5) :
    Calls Try.prog 82 #[.int .i64 a, .int .i64 s] w fun e w' => e = .returned (.bool (decide (s = 0))) ∧ Drawn0 w w' := by
  have g0 : (0 : Int) ≤ (a : Int) := by omega
  have g1 : (a : Int) ≤ 5 := by omega
  have g2 : (0 : Int) ≤ (s : Int) := by omega
  have g3 : (s : Int) ≤ 5 := by omega
  clear hs ha
  go_enter Try.func82, Try.ntmps82
  go_wp2
  go_ret
  exact ⟨impl_namedTriangle.end_ rfl (by rw [Bool.eq_iff_iff]; first | (simp; done) | (simp; omega) | skip), Drawn0.refl _⟩
set_option maxHeartbeats 8000000 in
set_option maxRecDepth 100000 in
theorem impl_namedTriangle.in4 (a s : Nat) (w : World) (hs : s ≤ a) (ha : a ≤ 5) :
    Calls Try.prog 83 #[.int .i64 a, .int .i64 s] w fun e w' => e = .returned (.bool (decide (a < 2 * s))) ∧ Drawn0 w w' := by
  have g0 : (0 : Int) ≤ (a : Int) := by omega
  have g1 : (a : Int) ≤ 5 := by omega
  have g2 : (0 : Int) ≤ (s : Int) := by omega
  have g3 : (s : Int) ≤ 5 := by omega
  clear hs ha
  go_enter Try.func83, Try.ntmps83
  go_wp2
  go_ret
  exact ⟨impl_namedTriangle.end_ rfl (by rw [Bool.eq_iff_iff]; first | (simp; done) | (simp; omega) | skip), Drawn0.refl _⟩
set_option maxHeartbeats 8000000 in
set_option maxRecDepth 100000 in
theorem impl_namedTriangle.in5 (a s : Nat) (w : World) (hs : s ≤ a) (ha : a ≤ 5) :
    Calls Try.prog 84 #[.int .i64 a, .int .i64 s] w fun e w' => e = .returned (.bool (decide (s % 2 = 0))) ∧ Drawn0 w w' := by
  have g0 : (0 : Int) ≤ (a : Int) := by omega
  have g1 : (a : Int) ≤ 5 := by omega
  have g2 : (0 : Int) ≤ (s : Int) := by omega
  have g3 : (s : Int) ≤ 5 := by omega
  clear hs ha
  go_enter Try.func84, Try.ntmps84
  go_wp2
  go_ret
  exact ⟨impl_namedTriangle.end_ rfl (by rw [Bool.eq_iff_iff]; first | (simp; done) | (simp; omega) | skip), Drawn0.refl _⟩
set_option maxHeartbeats 8000000 in
set_option maxRecDepth 100000 in
theorem impl_namedTriangle.in6 (g : Nat) (n : Int) (a s : Nat) (w : World) (hg : w.cell? ⟨g, 0, none⟩ = some (.int .i64 n)) (hn0 : -1000 ≤ n) (hn1 : n ≤ 1000) (hs : s ≤ a) (ha : a ≤ 5) :
    Calls Try.prog 86 #[.int .i64 a, .int .i64 s, .pointer (some ⟨g, 0, none⟩)] w fun e w' => e = .returned (.bool (decide (n ≤ (s : Int)))) ∧ Drawn0 w w' := by
  have g0 : (0 : Int) ≤ (a : Int) := by omega
  have g1 : (a : Int) ≤ 5 := by omega
  have g2 : (0 : Int) ≤ (s : Int) := by omega
  have g3 : (s : Int) ≤ 5 := by omega
  clear hs ha
  go_enter Try.func86, Try.ntmps86
  go_wp2
  go_ret
  exact ⟨impl_namedTriangle.end_ rfl (by rw [Bool.eq_iff_iff]; first | (simp; done) | (simp; omega) | skip), Drawn0.refl _⟩
set_option maxHeartbeats 8000000 in
set_option maxRecDepth 100000 in
theorem impl_namedTriangle.in7 (g : Nat) (n : Int) (a s : Nat) (w : World) (hg : w.cell? ⟨g, 0, none⟩ = some (.int .i64 n)) (hn0 : -1000 ≤ n) (hn1 : n ≤ 1000) (hs : s ≤ a) (ha : a ≤ 5) :
    Calls Try.prog 87 #[.int .i64 a, .int .i64 s, .pointer (some ⟨g, 0, none⟩)] w fun e w' => e = .returned (.bool (decide ((s : Int) = n))) ∧ Drawn0 w w' := by
  have g0 : (0 : Int) ≤ (a : Int) := by omega
  have g1 : (a : Int) ≤ 5 := by omega
  have g2 : (0 : Int) ≤ (s : Int) := by omega
  have g3 : (s : Int) ≤ 5 := by omega
  clear hs ha
  go_enter Try.func87, Try.ntmps87
  go_wp2
  go_ret
  exact ⟨impl_namedTriangle.end_ rfl (by rw [Bool.eq_iff_iff]; first | (simp; done) | (simp; omega) | skip), Drawn0.refl _⟩
set_option maxHeartbeats 8000000 in
set_option maxRecDepth 100000 in
theorem impl_namedTriangle.in8 (g : Nat) (n : Int) (a s : Nat) (w : World) (hg : w.cell? ⟨g, 0, none⟩ = some (.int .i64 n)) (hn0 : -1000 ≤ n) (hn1 : n ≤ 1000) (hs : s ≤ a) (ha : a ≤ 5) :
    Calls Try.prog 88 #[.int .i64 a, .int .i64 s, .pointer (some ⟨g, 0, none⟩)] w fun e w' => e = .returned (.bool (decide ((a : Int) - (s : Int) = n))) ∧ Drawn0 w w' := by
  have g0 : (0 : Int) ≤ (a : Int) := by omega
  have g1 : (a : Int) ≤ 5 := by omega
  have g2 : (0 : Int) ≤ (s : Int) := by omega
  have g3 : (s : Int) ≤ 5 := by omega
  clear hs ha
  go_enter Try.func88, Try.ntmps88
  go_wp2
  go_ret
  exact ⟨impl_namedTriangle.end_ rfl (by rw [Bool.eq_iff_iff]; first | (simp; done) | (simp; omega) | skip), Drawn0.refl _⟩
def impl_namedTriangle.p1 (a s : Nat) : Bool := decide (s = a)
def impl_namedTriangle.p2 (a s : Nat) : Bool := decide (0 < s)
def impl_namedTriangle.p3 (a s : Nat) : Bool := decide (s = 0)
def impl_namedTriangle.p4 (a s : Nat) : Bool := decide (a < 2 * s)
def impl_namedTriangle.p5 (a s : Nat) : Bool := decide (s % 2 = 0)
def impl_namedTriangle.p6 (n : Int) (a s : Nat) : Bool := decide (n ≤ (s : Int))
def impl_namedTriangle.p7 (n : Int) (a s : Nat) : Bool := decide ((s : Int) = n)
def impl_namedTriangle.p8 (n : Int) (a s : Nat) : Bool := decide ((a : Int) - (s : Int) = n)
def impl_namedTriangle.plain (x : ByteArray) : List Int × Bool := if x.toList = ([101, 118, 101, 114, 121] : List UInt8) then (impl_triangleBy.M impl_namedTriangle.p1, true) else if x.toList = ([115, 111, 109, 101] : List UInt8) then (impl_triangleBy.M impl_namedTriangle.p2, true) else if x.toList = ([110, 111] : List UInt8) then (impl_triangleBy.M impl_namedTriangle.p3, true) else if x.toList = ([109, 111, 115, 116] : List UInt8) then (impl_triangleBy.M impl_namedTriangle.p4, true) else if x.toList = ([101, 118, 101, 110] : List UInt8) then (impl_triangleBy.M impl_namedTriangle.p5, true) else ([], false)
def impl_namedTriangle.pick (x : ByteArray) (n1 : Int) (b1 : Bool) (n2 : Int) (b2 : Bool) (n3 : Int) (b3 : Bool) : List Int × Bool := if b3 = true then (impl_triangleBy.M (impl_namedTriangle.p8 n3), true) else if b2 = true then (impl_triangleBy.M (impl_namedTriangle.p7 n2), true) else if b1 = true then (impl_triangleBy.M (impl_namedTriangle.p6 n1), true) else impl_namedTriangle.plain x
def impl_namedTriangle.f (x : ByteArray) : Option (List Int × Bool) := (impl_countIn.f x (⟨#[97, 116, 108, 101, 97, 115, 116]⟩ : ByteArray) 1 5).bind fun q6 => (impl_countIn.f x (⟨#[106, 117, 115, 116]⟩ : ByteArray) 0 5).bind fun q7 => (impl_countIn.f x (⟨#[97, 108, 108, 98, 117, 116]⟩ : ByteArray) 0 5).bind fun q8 => if -1000 ≤ q6.1 ∧ q6.1 ≤ 1000 ∧ -1000 ≤ q7.1 ∧ q7.1 ≤ 1000 ∧ -1000 ≤ q8.1 ∧ q8.1 ≤ 1000 then some (impl_namedTriangle.pick x q6.1 q6.2 q7.1 q7.2 q8.1 q8.2) else none
theorem impl_namedTriangle.tri1 (w : World) : Calls Try.prog 77 #[.func (.func 80) #[] #[]] w fun e w' => ∃ v0_ : Value, e = .returned (v0_) ∧ Kd.R (Kd.int .i64) 3 w' w.heap.size (fun _ => True) v0_ (impl_triangleBy.M impl_namedTriangle.p1) ∧ Below w.heap.size w w' :=
  impl_triangleBy.calls 80 #[] impl_namedTriangle.p1 w (fun args wx => enters_ Try.func80 (by kernel_rfl) rfl args wx) (fun wx _ a s hs ha => impl_namedTriangle.in1 a s wx hs ha)
theorem impl_namedTriangle.tri2 (w : World) : Calls Try.prog 77 #[.func (.func 81) #[] #[]] w fun e w' => ∃ v0_ : Value, e = .returned (v0_) ∧ Kd.R (Kd.int .i64) 3 w' w.heap.size (fun _ => True) v0_ (impl_triangleBy.M impl_namedTriangle.p2) ∧ Below w.heap.size w w' :=
  impl_triangleBy.calls 81 #[] impl_namedTriangle.p2 w (fun args wx => enters_ Try.func81 (by kernel_rfl) rfl args wx) (fun wx _ a s hs ha => impl_namedTriangle.in2 a s wx hs ha)
theorem impl_namedTriangle.tri3 (w : World) : Calls Try.prog 77 #[.func (.func 82) #[] #[]] w fun e w' => ∃ v0_ : Value, e = .returned (v0_) ∧ Kd.R (Kd.int .i64) 3 w' w.heap.size (fun _ => True) v0_ (impl_triangleBy.M impl_namedTriangle.p3) ∧ Below w.heap.size w w' :=
  impl_triangleBy.calls 82 #[] impl_namedTriangle.p3 w (fun args wx => enters_ Try.func82 (by kernel_rfl) rfl args wx) (fun wx _ a s hs ha => impl_namedTriangle.in3 a s wx hs ha)
theorem impl_namedTriangle.tri4 (w : World) : Calls Try.prog 77 #[.func (.func 83) #[] #[]] w fun e w' => ∃ v0_ : Value, e = .returned (v0_) ∧ Kd.R (Kd.int .i64) 3 w' w.heap.size (fun _ => True) v0_ (impl_triangleBy.M impl_namedTriangle.p4) ∧ Below w.heap.size w w' :=
  impl_triangleBy.calls 83 #[] impl_namedTriangle.p4 w (fun args wx => enters_ Try.func83 (by kernel_rfl) rfl args wx) (fun wx _ a s hs ha => impl_namedTriangle.in4 a s wx hs ha)
theorem impl_namedTriangle.tri5 (w : World) : Calls Try.prog 77 #[.func (.func 84) #[] #[]] w fun e w' => ∃ v0_ : Value, e = .returned (v0_) ∧ Kd.R (Kd.int .i64) 3 w' w.heap.size (fun _ => True) v0_ (impl_triangleBy.M impl_namedTriangle.p5) ∧ Below w.heap.size w w' :=
  impl_triangleBy.calls 84 #[] impl_namedTriangle.p5 w (fun args wx => enters_ Try.func84 (by kernel_rfl) rfl args wx) (fun wx _ a s hs ha => impl_namedTriangle.in5 a s wx hs ha)
theorem impl_namedTriangle.tri6 (g : Nat) (n : Int) (hn0 : -1000 ≤ n) (hn1 : n ≤ 1000) (w : World) (hg : w.cell? ⟨g, 0, none⟩ = some (.int .i64 n)) (hlt : g < w.heap.size) : Calls Try.prog 77 #[.func (.func 86) #[] #[.pointer (some ⟨g, 0, none⟩)]] w fun e w' => ∃ v0_ : Value, e = .returned (v0_) ∧ Kd.R (Kd.int .i64) 3 w' w.heap.size (fun _ => True) v0_ (impl_triangleBy.M (impl_namedTriangle.p6 n)) ∧ Below w.heap.size w w' :=
  impl_triangleBy.calls 86 #[.pointer (some ⟨g, 0, none⟩)] (impl_namedTriangle.p6 n) w (fun args wx => enters_ Try.func86 (by kernel_rfl) rfl args wx) (fun wx hx a s hs ha => impl_namedTriangle.in6 g n a s wx ((hx.cell (p := ⟨g, 0, none⟩) hlt).trans hg) hn0 hn1 hs ha)
theorem impl_namedTriangle.tri7 (g : Nat) (n : Int) (hn0 : -1000 ≤ n) (hn1 : n ≤ 1000) (w : World) (hg : w.cell? ⟨g, 0, none⟩ = some (.int .i64 n)) (hlt : g < w.heap.size) : Calls Try.prog 77 #[.func (.func 87) #[] #[.pointer (some ⟨g, 0, none⟩)]] w fun e w' => ∃ v0_ : Value, e = .returned (v0_) ∧ Kd.R (Kd.int .i64) 3 w' w.heap.size (fun _ => True) v0_ (impl_triangleBy.M (impl_namedTriangle.p7 n)) ∧ Below w.heap.size w w' :=
  impl_triangleBy.calls 87 #[.pointer (some ⟨g, 0, none⟩)] (impl_namedTriangle.p7 n) w (fun args wx => enters_ Try.func87 (by kernel_rfl) rfl args wx) (fun wx hx a s hs ha => impl_namedTriangle.in7 g n a s wx ((hx.cell (p := ⟨g, 0, none⟩) hlt).trans hg) hn0 hn1 hs ha)
theorem impl_namedTriangle.tri8 (g : Nat) (n : Int) (hn0 : -1000 ≤ n) (hn1 : n ≤ 1000) (w : World) (hg : w.cell? ⟨g, 0, none⟩ = some (.int .i64 n)) (hlt : g < w.heap.size) : Calls Try.prog 77 #[.func (.func 88) #[] #[.pointer (some ⟨g, 0, none⟩)]] w fun e w' => ∃ v0_ : Value, e = .returned (v0_) ∧ Kd.R (Kd.int .i64) 3 w' w.heap.size (fun _ => True) v0_ (impl_triangleBy.M (impl_namedTriangle.p8 n)) ∧ Below w.heap.size w w' :=
  impl_triangleBy.calls 88 #[.pointer (some ⟨g, 0, none⟩)] (impl_namedTriangle.p8 n) w (fun args wx => enters_ Try.func88 (by kernel_rfl) rfl args wx) (fun wx hx a s hs ha => impl_namedTriangle.in8 g n a s wx ((hx.cell (p := ⟨g, 0, none⟩) hlt).trans hg) hn0 hn1 hs ha)
theorem impl_namedTriangle.notNil (f : Fn) (a b : Array Value) (w : World) : (Go.binOp .eql 60 (.func f a b) .nilFunc).run Try.prog w = Result.ok (.bool false) w := by kernel_rfl
theorem impl_namedTriangle.isNil (w : World) : (Go.binOp .eql 60 .nilFunc .nilFunc).run Try.prog w = Result.ok (.bool true) w := by kernel_rfl
theorem impl_namedTriangle.keep {w W : World} {n : Int} (h : Below (w.alloc (.cells #[.int .i64 n] 3)).heap.size (w.alloc (.cells #[.int .i64 n] 3)) W) : W.cell? ⟨w.heap.size, 0, none⟩ = some (.int .i64 n) := by
  rw [h.cell (p := ⟨w.heap.size, 0, none⟩) (by simp), World.cell?_alloc_at _ _ _ _ rfl]; rfl
theorem impl_namedTriangle.keeplt {w W : World} {o : Obj} (h : Below (w.alloc o).heap.size (w.alloc o) W) : w.heap.size < W.heap.size := by
  have := h.size; simp at this; omega
set_option maxHeartbeats 8000000 in
set_option maxRecDepth 100000 in
theorem impl_namedTriangle.way1 (x : ByteArray) (n1 n2 n3 : Int) (hx : x.toList = ([101, 118, 101, 114, 121] : List UInt8)) (h1 : impl_countIn.f x (⟨#[97, 116, 108, 101, 97, 115, 116]⟩ : ByteArray) 1 5 = some (n1, false)) (h2 : impl_countIn.f x (⟨#[106, 117, 115, 116]⟩ : ByteArray) 0 5 = some (n2, false)) (h3 : impl_countIn.f x (⟨#[97, 108, 108, 98, 117, 116]⟩ : ByteArray) 0 5 = some (n3, false)) (l1 : -1000 ≤ n1) (m1 : n1 ≤ 1000) (l2 : -1000 ≤ n2) (m2 : n2 ≤ 1000) (l3 : -1000 ≤ n3) (m3 : n3 ≤ 1000) (w : World) :
    Calls Try.prog 66 #[.string x] w fun e w' => ∃ v0_ : Value, e = .returned (.tuple #[v0_, .bool true]) ∧ Kd.R (Kd.int .i64) 3 w' w.heap.size (fun _ => True) v0_ (impl_triangleBy.M impl_namedTriangle.p1) ∧ Below w.heap.size w w' := by
  have A1 := Aside0.mk h1
  have A2 := Aside0.mk h2
  have A3 := Aside0.mk h3
  have L1 := Aside0.mk (And.intro l1 m1)
  have L2 := Aside0.mk (And.intro l2 m2)
  have L3 := Aside0.mk (And.intro l3 m3)
  clear h1 h2 h3 l1 m1 l2 m2 l3 m3
  have hmf : ∀ (fn : Fn) (first cap : Array Value) (w : World), (Instr.makeFunc fn first cap).run Try.prog w = .ok (.func fn first cap) w := fun _ _ _ _ => rfl
  have hnf := impl_namedTriangle.notNil
  have hnn := impl_namedTriangle.isNil
  go_enter Try.func66, Try.ntmps66
  go_wp2_with (first | (go_at_call 85; (with_reducible refine (impl_countIn.calls x (⟨#[97, 116, 108, 101, 97, 115, 116]⟩ : ByteArray) 1 5 n1 false _ A1.out).mono ?_); rintro e w1 ⟨rfl, hd1⟩) | (go_at_call 85; (with_reducible refine (impl_countIn.calls x (⟨#[106, 117, 115, 116]⟩ : ByteArray) 0 5 n2 false _ A2.out).mono ?_); rintro e w2 ⟨rfl, hd2⟩) | (go_at_call 85; (with_reducible refine (impl_countIn.calls x (⟨#[97, 108, 108, 98, 117, 116]⟩ : ByteArray) 0 5 n3 false _ A3.out).mono ?_); rintro e w3 ⟨rfl, hd3⟩) | (go_at_call 77; (with_reducible refine (impl_namedTriangle.tri1 _).mono ?_); rintro e w4 ⟨v0_, rfl, hR, hB⟩))
  go_ret2
  exact ⟨_, rfl, Kd.R_lower hR (below_size (below_alloc (below_step (below_alloc (below_step (below_alloc hd1.below _) hd2.below) _) hd3.below) _)), below_step (below_alloc (below_step (below_alloc (below_step (below_alloc hd1.below _) hd2.below) _) hd3.below) _) hB⟩
set_option maxHeartbeats 8000000 in
set_option maxRecDepth 100000 in
theorem impl_namedTriangle.way2 (x : ByteArray) (n1 n2 n3 : Int) (hx : x.toList = ([115, 111, 109, 101] : List UInt8)) (h1 : impl_countIn.f x (⟨#[97, 116, 108, 101, 97, 115, 116]⟩ : ByteArray) 1 5 = some (n1, false)) (h2 : impl_countIn.f x (⟨#[106, 117, 115, 116]⟩ : ByteArray) 0 5 = some (n2, false)) (h3 : impl_countIn.f x (⟨#[97, 108, 108, 98, 117, 116]⟩ : ByteArray) 0 5 = some (n3, false)) (l1 : -1000 ≤ n1) (m1 : n1 ≤ 1000) (l2 : -1000 ≤ n2) (m2 : n2 ≤ 1000) (l3 : -1000 ≤ n3) (m3 : n3 ≤ 1000) (w : World) :
    Calls Try.prog 66 #[.string x] w fun e w' => ∃ v0_ : Value, e = .returned (.tuple #[v0_, .bool true]) ∧ Kd.R (Kd.int .i64) 3 w' w.heap.size (fun _ => True) v0_ (impl_triangleBy.M impl_namedTriangle.p2) ∧ Below w.heap.size w w' := by
  have A1 := Aside0.mk h1
  have A2 := Aside0.mk h2
  have A3 := Aside0.mk h3
  have L1 := Aside0.mk (And.intro l1 m1)
  have L2 := Aside0.mk (And.intro l2 m2)
  have L3 := Aside0.mk (And.intro l3 m3)
  clear h1 h2 h3 l1 m1 l2 m2 l3 m3
  have hmf : ∀ (fn : Fn) (first cap : Array Value) (w : World), (Instr.makeFunc fn first cap).run Try.prog w = .ok (.func fn first cap) w := fun _ _ _ _ => rfl
  have hnf := impl_namedTriangle.notNil
  have hnn := impl_namedTriangle.isNil
  go_enter Try.func66, Try.ntmps66
  go_wp2_with (first | (go_at_call 85; (with_reducible refine (impl_countIn.calls x (⟨#[97, 116, 108, 101, 97, 115, 116]⟩ : ByteArray) 1 5 n1 false _ A1.out).mono ?_); rintro e w1 ⟨rfl, hd1⟩) | (go_at_call 85; (with_reducible refine (impl_countIn.calls x (⟨#[106, 117, 115, 116]⟩ : ByteArray) 0 5 n2 false _ A2.out).mono ?_); rintro e w2 ⟨rfl, hd2⟩) | (go_at_call 85; (with_reducible refine (impl_countIn.calls x (⟨#[97, 108, 108, 98, 117, 116]⟩ : ByteArray) 0 5 n3 false _ A3.out).mono ?_); rintro e w3 ⟨rfl, hd3⟩) | (go_at_call 77; (with_reducible refine (impl_namedTriangle.tri2 _).mono ?_); rintro e w4 ⟨v0_, rfl, hR, hB⟩))
  go_ret2
  exact ⟨_, rfl, Kd.R_lower hR (below_size (below_alloc (below_step (below_alloc (below_step (below_alloc hd1.below _) hd2.below) _) hd3.below) _)), below_step (below_alloc (below_step (below_alloc (below_step (below_alloc hd1.below _) hd2.below) _) hd3.below) _) hB⟩
set_option maxHeartbeats 8000000 in
set_option maxRecDepth 100000 in
theorem impl_namedTriangle.way3 (x : ByteArray) (n1 n2 n3 : Int) (hx : x.toList = ([110, 111] : List UInt8)) (h1 : impl_countIn.f x (⟨#[97, 116, 108, 101, 97, 115, 116]⟩ : ByteArray) 1 5 = some (n1, false)) (h2 : impl_countIn.f x (⟨#[106, 117, 115, 116]⟩ : ByteArray) 0 5 = some (n2, false)) (h3 : impl_countIn.f x (⟨#[97, 108, 108, 98, 117, 116]⟩ : ByteArray) 0 5 = some (n3, false)) (l1 : -1000 ≤ n1) (m1 : n1 ≤ 1000) (l2 : -1000 ≤ n2) (m2 : n2 ≤ 1000) (l3 : -1000 ≤ n3) (m3 : n3 ≤ 1000) (w : World) :
    Calls Try.prog 66 #[.string x] w fun e w' => ∃ v0_ : Value, e = .returned (.tuple #[v0_, .bool true]) ∧ Kd.R (Kd.int .i64) 3 w' w.heap.size (fun _ => True) v0_ (impl_triangleBy.M impl_namedTriangle.p3) ∧ Below w.heap.size w w' := by
  have A1 := Aside0.mk h1
  have A2 := Aside0.mk h2
  have A3 := Aside0.mk h3
  have L1 := Aside0.mk (And.intro l1 m1)
  have L2 := Aside0.mk (And.intro l2 m2)
  have L3 := Aside0.mk (And.intro l3 m3)
  clear h1 h2 h3 l1 m1 l2 m2 l3 m3
  have hmf : ∀ (fn : Fn) (first cap : Array Value) (w : World), (Instr.makeFunc fn first cap).run Try.prog w = .ok (.func fn first cap) w := fun _ _ _ _ => rfl
  have hnf := impl_namedTriangle.notNil
  have hnn := impl_namedTriangle.isNil
  go_enter Try.func66, Try.ntmps66
  go_wp2_with (first | (go_at_call 85; (with_reducible refine (impl_countIn.calls x (⟨#[97, 116, 108, 101, 97, 115, 116]⟩ : ByteArray) 1 5 n1 false _ A1.out).mono ?_); rintro e w1 ⟨rfl, hd1⟩) | (go_at_call 85; (with_reducible refine (impl_countIn.calls x (⟨#[106, 117, 115, 116]⟩ : ByteArray) 0 5 n2 false _ A2.out).mono ?_); rintro e w2 ⟨rfl, hd2⟩) | (go_at_call 85; (with_reducible refine (impl_countIn.calls x (⟨#[97, 108, 108, 98, 117, 116]⟩ : ByteArray) 0 5 n3 false _ A3.out).mono ?_); rintro e w3 ⟨rfl, hd3⟩) | (go_at_call 77; (with_reducible refine (impl_namedTriangle.tri3 _).mono ?_); rintro e w4 ⟨v0_, rfl, hR, hB⟩))
  go_ret2
  exact ⟨_, rfl, Kd.R_lower hR (below_size (below_alloc (below_step (below_alloc (below_step (below_alloc hd1.below _) hd2.below) _) hd3.below) _)), below_step (below_alloc (below_step (below_alloc (below_step (below_alloc hd1.below _) hd2.below) _) hd3.below) _) hB⟩
set_option maxHeartbeats 8000000 in
set_option maxRecDepth 100000 in
theorem impl_namedTriangle.way4 (x : ByteArray) (n1 n2 n3 : Int) (hx : x.toList = ([109, 111, 115, 116] : List UInt8)) (h1 : impl_countIn.f x (⟨#[97, 116, 108, 101, 97, 115, 116]⟩ : ByteArray) 1 5 = some (n1, false)) (h2 : impl_countIn.f x (⟨#[106, 117, 115, 116]⟩ : ByteArray) 0 5 = some (n2, false)) (h3 : impl_countIn.f x (⟨#[97, 108, 108, 98, 117, 116]⟩ : ByteArray) 0 5 = some (n3, false)) (l1 : -1000 ≤ n1) (m1 : n1 ≤ 1000) (l2 : -1000 ≤ n2) (m2 : n2 ≤ 1000) (l3 : -1000 ≤ n3) (m3 : n3 ≤ 1000) (w : World) :
    Calls Try.prog 66 #[.string x] w fun e w' => ∃ v0_ : Value, e = .returned (.tuple #[v0_, .bool true]) ∧ Kd.R (Kd.int .i64) 3 w' w.heap.size (fun _ => True) v0_ (impl_triangleBy.M impl_namedTriangle.p4) ∧ Below w.heap.size w w' := by
  have A1 := Aside0.mk h1
  have A2 := Aside0.mk h2
  have A3 := Aside0.mk h3
  have L1 := Aside0.mk (And.intro l1 m1)
  have L2 := Aside0.mk (And.intro l2 m2)
  have L3 := Aside0.mk (And.intro l3 m3)
  clear h1 h2 h3 l1 m1 l2 m2 l3 m3
  have hmf : ∀ (fn : Fn) (first cap : Array Value) (w : World), (Instr.makeFunc fn first cap).run Try.prog w = .ok (.func fn first cap) w := fun _ _ _ _ => rfl
  have hnf := impl_namedTriangle.notNil
  have hnn := impl_namedTriangle.isNil
  go_enter Try.func66, Try.ntmps66
  go_wp2_with (first | (go_at_call 85; (with_reducible refine (impl_countIn.calls x (⟨#[97, 116, 108, 101, 97, 115, 116]⟩ : ByteArray) 1 5 n1 false _ A1.out).mono ?_); rintro e w1 ⟨rfl, hd1⟩) | (go_at_call 85; (with_reducible refine (impl_countIn.calls x (⟨#[106, 117, 115, 116]⟩ : ByteArray) 0 5 n2 false _ A2.out).mono ?_); rintro e w2 ⟨rfl, hd2⟩) | (go_at_call 85; (with_reducible refine (impl_countIn.calls x (⟨#[97, 108, 108, 98, 117, 116]⟩ : ByteArray) 0 5 n3 false _ A3.out).mono ?_); rintro e w3 ⟨rfl, hd3⟩) | (go_at_call 77; (with_reducible refine (impl_namedTriangle.tri4 _).mono ?_); rintro e w4 ⟨v0_, rfl, hR, hB⟩))
  go_ret2
  exact ⟨_, rfl, Kd.R_lower hR (below_size (below_alloc (below_step (below_alloc (below_step (below_alloc hd1.below _) hd2.below) _) hd3.below) _)), below_step (below_alloc (below_step (below_alloc (below_step (below_alloc hd1.below _) hd2.below) _) hd3.below) _) hB⟩
set_option maxHeartbeats 8000000 in
set_option maxRecDepth 100000 in
theorem impl_namedTriangle.way5 (x : ByteArray) (n1 n2 n3 : Int) (hx : x.toList = ([101, 118, 101, 110] : List UInt8)) (h1 : impl_countIn.f x (⟨#[97, 116, 108, 101, 97, 115, 116]⟩ : ByteArray) 1 5 = some (n1, false)) (h2 : impl_countIn.f x (⟨#[106, 117, 115, 116]⟩ : ByteArray) 0 5 = some (n2, false)) (h3 : impl_countIn.f x (⟨#[97, 108, 108, 98, 117, 116]⟩ : ByteArray) 0 5 = some (n3, false)) (l1 : -1000 ≤ n1) (m1 : n1 ≤ 1000) (l2 : -1000 ≤ n2) (m2 : n2 ≤ 1000) (l3 : -1000 ≤ n3) (m3 : n3 ≤ 1000) (w : World) :
    Calls Try.prog 66 #[.string x] w fun e w' => ∃ v0_ : Value, e = .returned (.tuple #[v0_, .bool true]) ∧ Kd.R (Kd.int .i64) 3 w' w.heap.size (fun _ => True) v0_ (impl_triangleBy.M impl_namedTriangle.p5) ∧ Below w.heap.size w w' := by
  have A1 := Aside0.mk h1
  have A2 := Aside0.mk h2
  have A3 := Aside0.mk h3
  have L1 := Aside0.mk (And.intro l1 m1)
  have L2 := Aside0.mk (And.intro l2 m2)
  have L3 := Aside0.mk (And.intro l3 m3)
  clear h1 h2 h3 l1 m1 l2 m2 l3 m3
  have hmf : ∀ (fn : Fn) (first cap : Array Value) (w : World), (Instr.makeFunc fn first cap).run Try.prog w = .ok (.func fn first cap) w := fun _ _ _ _ => rfl
  have hnf := impl_namedTriangle.notNil
  have hnn := impl_namedTriangle.isNil
  go_enter Try.func66, Try.ntmps66
  go_wp2_with (first | (go_at_call 85; (with_reducible refine (impl_countIn.calls x (⟨#[97, 116, 108, 101, 97, 115, 116]⟩ : ByteArray) 1 5 n1 false _ A1.out).mono ?_); rintro e w1 ⟨rfl, hd1⟩) | (go_at_call 85; (with_reducible refine (impl_countIn.calls x (⟨#[106, 117, 115, 116]⟩ : ByteArray) 0 5 n2 false _ A2.out).mono ?_); rintro e w2 ⟨rfl, hd2⟩) | (go_at_call 85; (with_reducible refine (impl_countIn.calls x (⟨#[97, 108, 108, 98, 117, 116]⟩ : ByteArray) 0 5 n3 false _ A3.out).mono ?_); rintro e w3 ⟨rfl, hd3⟩) | (go_at_call 77; (with_reducible refine (impl_namedTriangle.tri5 _).mono ?_); rintro e w4 ⟨v0_, rfl, hR, hB⟩))
  go_ret2
  exact ⟨_, rfl, Kd.R_lower hR (below_size (below_alloc (below_step (below_alloc (below_step (below_alloc hd1.below _) hd2.below) _) hd3.below) _)), below_step (below_alloc (below_step (below_alloc (below_step (below_alloc hd1.below _) hd2.below) _) hd3.below) _) hB⟩
set_option maxHeartbeats 8000000 in
set_option maxRecDepth 100000 in
theorem impl_namedTriangle.way_false_false_false (x : ByteArray) (n1 n2 n3 : Int) (g1 : (x.toList == ([101, 118, 101, 114, 121] : List UInt8)) = false) (g2 : (x.toList == ([115, 111, 109, 101] : List UInt8)) = false) (g3 : (x.toList == ([110, 111] : List UInt8)) = false) (g4 : (x.toList == ([109, 111, 115, 116] : List UInt8)) = false) (g5 : (x.toList == ([101, 118, 101, 110] : List UInt8)) = false) (h1 : impl_countIn.f x (⟨#[97, 116, 108, 101, 97, 115, 116]⟩ : ByteArray) 1 5 = some (n1, false)) (h2 : impl_countIn.f x (⟨#[106, 117, 115, 116]⟩ : ByteArray) 0 5 = some (n2, false)) (h3 : impl_countIn.f x (⟨#[97, 108, 108, 98, 117, 116]⟩ : ByteArray) 0 5 = some (n3, false)) (l1 : -1000 ≤ n1) (m1 : n1 ≤ 1000) (l2 : -1000 ≤ n2) (m2 : n2 ≤ 1000) (l3 : -1000 ≤ n3) (m3 : n3 ≤ 1000) (w : World) :
    Calls Try.prog 66 #[.string x] w fun e w' => ∃ v0_ : Value, e = .returned (.tuple #[v0_, .bool false]) ∧ Kd.R (Kd.int .i64) 3 w' w.heap.size (fun _ => True) v0_ [] ∧ Below w.heap.size w w' := by
  have A1 := Aside0.mk h1
  have A2 := Aside0.mk h2
  have A3 := Aside0.mk h3
  have L1 := Aside0.mk (And.intro l1 m1)
  have L2 := Aside0.mk (And.intro l2 m2)
  have L3 := Aside0.mk (And.intro l3 m3)
  clear h1 h2 h3 l1 m1 l2 m2 l3 m3
  have hmf : ∀ (fn : Fn) (first cap : Array Value) (w : World), (Instr.makeFunc fn first cap).run Try.prog w = .ok (.func fn first cap) w := fun _ _ _ _ => rfl
  have hnf := impl_namedTriangle.notNil
  have hnn := impl_namedTriangle.isNil
  go_enter Try.func66, Try.ntmps66
  go_wp2_with (first | (go_at_call 85; (with_reducible refine (impl_countIn.calls x (⟨#[97, 116, 108, 101, 97, 115, 116]⟩ : ByteArray) 1 5 n1 false _ A1.out).mono ?_); rintro e w1 ⟨rfl, hd1⟩) | (go_at_call 85; (with_reducible refine (impl_countIn.calls x (⟨#[106, 117, 115, 116]⟩ : ByteArray) 0 5 n2 false _ A2.out).mono ?_); rintro e w2 ⟨rfl, hd2⟩) | (go_at_call 85; (with_reducible refine (impl_countIn.calls x (⟨#[97, 108, 108, 98, 117, 116]⟩ : ByteArray) 0 5 n3 false _ A3.out).mono ?_); rintro e w3 ⟨rfl, hd3⟩))
  go_ret2
  exact ⟨_, rfl, Kd.R_nil _ _ _ _ _, below_alloc (below_step (below_alloc (below_step (below_alloc hd1.below _) hd2.below) _) hd3.below) _⟩
set_option maxHeartbeats 8000000 in
set_option maxRecDepth 100000 in
theorem impl_namedTriangle.way_false_false_true (x : ByteArray) (n1 n2 n3 : Int) (g1 : (x.toList == ([101, 118, 101, 114, 121] : List UInt8)) = false) (g2 : (x.toList == ([115, 111, 109, 101] : List UInt8)) = false) (g3 : (x.toList == ([110, 111] : List UInt8)) = false) (g4 : (x.toList == ([109, 111, 115, 116] : List UInt8)) = false) (g5 : (x.toList == ([101, 118, 101, 110] : List UInt8)) = false) (h1 : impl_countIn.f x (⟨#[97, 116, 108, 101, 97, 115, 116]⟩ : ByteArray) 1 5 = some (n1, false)) (h2 : impl_countIn.f x (⟨#[106, 117, 115, 116]⟩ : ByteArray) 0 5 = some (n2, false)) (h3 : impl_countIn.f x (⟨#[97, 108, 108, 98, 117, 116]⟩ : ByteArray) 0 5 = some (n3, true)) (l1 : -1000 ≤ n1) (m1 : n1 ≤ 1000) (l2 : -1000 ≤ n2) (m2 : n2 ≤ 1000) (l3 : -1000 ≤ n3) (m3 : n3 ≤ 1000) (w : World) :
    Calls Try.prog 66 #[.string x] w fun e w' => ∃ v0_ : Value, e = .returned (.tuple #[v0_, .bool true]) ∧ Kd.R (Kd.int .i64) 3 w' w.heap.size (fun _ => True) v0_ (impl_triangleBy.M (impl_namedTriangle.p8 n3)) ∧ Below w.heap.size w w' := by
  have A1 := Aside0.mk h1
  have A2 := Aside0.mk h2
  have A3 := Aside0.mk h3
  have L1 := Aside0.mk (And.intro l1 m1)
  have L2 := Aside0.mk (And.intro l2 m2)
  have L3 := Aside0.mk (And.intro l3 m3)
  clear h1 h2 h3 l1 m1 l2 m2 l3 m3
  have hmf : ∀ (fn : Fn) (first cap : Array Value) (w : World), (Instr.makeFunc fn first cap).run Try.prog w = .ok (.func fn first cap) w := fun _ _ _ _ => rfl
  have hnf := impl_namedTriangle.notNil
  have hnn := impl_namedTriangle.isNil
  go_enter Try.func66, Try.ntmps66
  go_wp2_with (first | (go_at_call 85; (with_reducible refine (impl_countIn.calls x (⟨#[97, 116, 108, 101, 97, 115, 116]⟩ : ByteArray) 1 5 n1 false _ A1.out).mono ?_); rintro e w1 ⟨rfl, hd1⟩) | (go_at_call 85; (with_reducible refine (impl_countIn.calls x (⟨#[106, 117, 115, 116]⟩ : ByteArray) 0 5 n2 false _ A2.out).mono ?_); rintro e w2 ⟨rfl, hd2⟩) | (go_at_call 85; (with_reducible refine (impl_countIn.calls x (⟨#[97, 108, 108, 98, 117, 116]⟩ : ByteArray) 0 5 n3 true _ A3.out).mono ?_); rintro e w3 ⟨rfl, hd3⟩) | (go_at_call 77; refine (impl_namedTriangle.tri8 w3.heap.size n3 L3.out.1 L3.out.2 _ (impl_namedTriangle.keep (w := w3) (Below.refl _ _)) (impl_namedTriangle.keeplt (w := w3) (Below.refl _ _))).mono ?_; rintro e w4 ⟨v0_, rfl, hR, hB⟩))
  go_ret2
  exact ⟨_, rfl, Kd.R_lower hR (below_size (below_alloc (below_step (below_alloc (below_step (below_alloc hd1.below _) hd2.below) _) hd3.below) _)), below_step (below_alloc (below_step (below_alloc (below_step (below_alloc hd1.below _) hd2.below) _) hd3.below) _) hB⟩
set_option maxHeartbeats 8000000 in
set_option maxRecDepth 100000 in
theorem impl_namedTriangle.way_false_true_false (x : ByteArray) (n1 n2 n3 : Int) (g1 : (x.toList == ([101, 118, 101, 114, 121] : List UInt8)) = false) (g2 : (x.toList == ([115, 111, 109, 101] : List UInt8)) = false) (g3 : (x.toList == ([110, 111] : List UInt8)) = false) (g4 : (x.toList == ([109, 111, 115, 116] : List UInt8)) = false) (g5 : (x.toList == ([101, 118, 101, 110] : List UInt8)) = false) (h1 : impl_countIn.f x (⟨#[97, 116, 108, 101, 97, 115, 116]⟩ : ByteArray) 1 5 = some (n1, false)) (h2 : impl_countIn.f x (⟨#[106, 117, 115, 116]⟩ : ByteArray) 0 5 = some (n2, true)) (h3 : impl_countIn.f x (⟨#[97, 108, 108, 98, 117, 116]⟩ : ByteArray) 0 5 = some (n3, false)) (l1 : -1000 ≤ n1) (m1 : n1 ≤ 1000) (l2 : -1000 ≤ n2) (m2 : n2 ≤ 1000) (l3 : -1000 ≤ n3) (m3 : n3 ≤ 1000) (w : World) :
    Calls Try.prog 66 #[.string x] w fun e w' => ∃ v0_ : Value, e = .returned (.tuple #[v0_, .bool true]) ∧ Kd.R (Kd.int .i64) 3 w' w.heap.size (fun _ => True) v0_ (impl_triangleBy.M (impl_namedTriangle.p7 n2)) ∧ Below w.heap.size w w' := by
  have A1 := Aside0.mk h1
  have A2 := Aside0.mk h2
  have A3 := Aside0.mk h3
  have L1 := Aside0.mk (And.intro l1 m1)
  have L2 := Aside0.mk (And.intro l2 m2)
  have L3 := Aside0.mk (And.intro l3 m3)
  clear h1 h2 h3 l1 m1 l2 m2 l3 m3
  have hmf : ∀ (fn : Fn) (first cap : Array Value) (w : World), (Instr.makeFunc fn first cap).run Try.prog w = .ok (.func fn first cap) w := fun _ _ _ _ => rfl
  have hnf := impl_namedTriangle.notNil
  have hnn := impl_namedTriangle.isNil
  go_enter Try.func66, Try.ntmps66
  go_wp2_with (first | (go_at_call 85; (with_reducible refine (impl_countIn.calls x (⟨#[97, 116, 108, 101, 97, 115, 116]⟩ : ByteArray) 1 5 n1 false _ A1.out).mono ?_); rintro e w1 ⟨rfl, hd1⟩) | (go_at_call 85; (with_reducible refine (impl_countIn.calls x (⟨#[106, 117, 115, 116]⟩ : ByteArray) 0 5 n2 true _ A2.out).mono ?_); rintro e w2 ⟨rfl, hd2⟩) | (go_at_call 85; (with_reducible refine (impl_countIn.calls x (⟨#[97, 108, 108, 98, 117, 116]⟩ : ByteArray) 0 5 n3 false _ A3.out).mono ?_); rintro e w3 ⟨rfl, hd3⟩) | (go_at_call 77; refine (impl_namedTriangle.tri7 w2.heap.size n2 L2.out.1 L2.out.2 _ (impl_namedTriangle.keep (w := w2) (below_alloc hd3.below _)) (impl_namedTriangle.keeplt (w := w2) (below_alloc hd3.below _))).mono ?_; rintro e w4 ⟨v0_, rfl, hR, hB⟩))
  go_ret2
  exact ⟨_, rfl, Kd.R_lower hR (below_size (below_alloc (below_step (below_alloc (below_step (below_alloc hd1.below _) hd2.below) _) hd3.below) _)), below_step (below_alloc (below_step (below_alloc (below_step (below_alloc hd1.below _) hd2.below) _) hd3.below) _) hB⟩
set_option maxHeartbeats 8000000 in
set_option maxRecDepth 100000 in
theorem impl_namedTriangle.way_false_true_true (x : ByteArray) (n1 n2 n3 : Int) (g1 : (x.toList == ([101, 118, 101, 114, 121] : List UInt8)) = false) (g2 : (x.toList == ([115, 111, 109, 101] : List UInt8)) = false) (g3 : (x.toList == ([110, 111] : List UInt8)) = false) (g4 : (x.toList == ([109, 111, 115, 116] : List UInt8)) = false) (g5 : (x.toList == ([101, 118, 101, 110] : List UInt8)) = false) (h1 : impl_countIn.f x (⟨#[97, 116, 108, 101, 97, 115, 116]⟩ : ByteArray) 1 5 = some (n1, false)) (h2 : impl_countIn.f x (⟨#[106, 117, 115, 116]⟩ : ByteArray) 0 5 = some (n2, true)) (h3 : impl_countIn.f x (⟨#[97, 108, 108, 98, 117, 116]⟩ : ByteArray) 0 5 = some (n3, true)) (l1 : -1000 ≤ n1) (m1 : n1 ≤ 1000) (l2 : -1000 ≤ n2) (m2 : n2 ≤ 1000) (l3 : -1000 ≤ n3) (m3 : n3 ≤ 1000) (w : World) :
    Calls Try.prog 66 #[.string x] w fun e w' => ∃ v0_ : Value, e = .returned (.tuple #[v0_, .bool true]) ∧ Kd.R (Kd.int .i64) 3 w' w.heap.size (fun _ => True) v0_ (impl_triangleBy.M (impl_namedTriangle.p8 n3)) ∧ Below w.heap.size w w' := by
  have A1 := Aside0.mk h1
  have A2 := Aside0.mk h2
  have A3 := Aside0.mk h3
  have L1 := Aside0.mk (And.intro l1 m1)
  have L2 := Aside0.mk (And.intro l2 m2)
  have L3 := Aside0.mk (And.intro l3 m3)
  clear h1 h2 h3 l1 m1 l2 m2 l3 m3
  have hmf : ∀ (fn : Fn) (first cap : Array Value) (w : World), (Instr.makeFunc fn first cap).run Try.prog w = .ok (.func fn first cap) w := fun _ _ _ _ => rfl
  have hnf := impl_namedTriangle.notNil
  have hnn := impl_namedTriangle.isNil
  go_enter Try.func66, Try.ntmps66
  go_wp2_with (first | (go_at_call 85; (with_reducible refine (impl_countIn.calls x (⟨#[97, 116, 108, 101, 97, 115, 116]⟩ : ByteArray) 1 5 n1 false _ A1.out).mono ?_); rintro e w1 ⟨rfl, hd1⟩) | (go_at_call 85; (with_reducible refine (impl_countIn.calls x (⟨#[106, 117, 115, 116]⟩ : ByteArray) 0 5 n2 true _ A2.out).mono ?_); rintro e w2 ⟨rfl, hd2⟩) | (go_at_call 85; (with_reducible refine (impl_countIn.calls x (⟨#[97, 108, 108, 98, 117, 116]⟩ : ByteArray) 0 5 n3 true _ A3.out).mono ?_); rintro e w3 ⟨rfl, hd3⟩) | (go_at_call 77; refine (impl_namedTriangle.tri8 w3.heap.size n3 L3.out.1 L3.out.2 _ (impl_namedTriangle.keep (w := w3) (Below.refl _ _)) (impl_namedTriangle.keeplt (w := w3) (Below.refl _ _))).mono ?_; rintro e w4 ⟨v0_, rfl, hR, hB⟩))
  go_ret2
  exact ⟨_, rfl, Kd.R_lower hR (below_size (below_alloc (below_step (below_alloc (below_step (below_alloc hd1.below _) hd2.below) _) hd3.below) _)), below_step (below_alloc (below_step (below_alloc (below_step (below_alloc hd1.below _) hd2.below) _) hd3.below) _) hB⟩
set_option maxHeartbeats 8000000 in
set_option maxRecDepth 100000 in
theorem impl_namedTriangle.way_true_false_false (x : ByteArray) (n1 n2 n3 : Int) (g1 : (x.toList == ([101, 118, 101, 114, 121] : List UInt8)) = false) (g2 : (x.toList == ([115, 111, 109, 101] : List UInt8)) = false) (g3 : (x.toList == ([110, 111] : List UInt8)) = false) (g4 : (x.toList == ([109, 111, 115, 116] : List UInt8)) = false) (g5 : (x.toList == ([101, 118, 101, 110] : List UInt8)) = false) (h1 : impl_countIn.f x (⟨#[97, 116, 108, 101, 97, 115, 116]⟩ : ByteArray) 1 5 = some (n1, true)) (h2 : impl_countIn.f x (⟨#[106, 117, 115, 116]⟩ : ByteArray) 0 5 = some (n2, false)) (h3 : impl_countIn.f x (⟨#[97, 108, 108, 98, 117, 116]⟩ : ByteArray) 0 5 = some (n3, false)) (l1 : -1000 ≤ n1) (m1 : n1 ≤ 1000) (l2 : -1000 ≤ n2) (m2 : n2 ≤ 1000) (l3 : -1000 ≤ n3) (m3 : n3 ≤ 1000) (w : World) :
    Calls Try.prog 66 #[.string x] w fun e w' => ∃ v0_ : Value, e = .returned (.tuple #[v0_, .bool true]) ∧ Kd.R (Kd.int .i64) 3 w' w.heap.size (fun _ => True) v0_ (impl_triangleBy.M (impl_namedTriangle.p6 n1)) ∧ Below w.heap.size w w' := by
  have A1 := Aside0.mk h1
  have A2 := Aside0.mk h2
  have A3 := Aside0.mk h3
  have L1 := Aside0.mk (And.intro l1 m1)
  have L2 := Aside0.mk (And.intro l2 m2)
  have L3 := Aside0.mk (And.intro l3 m3)
  clear h1 h2 h3 l1 m1 l2 m2 l3 m3
  have hmf : ∀ (fn : Fn) (first cap : Array Value) (w : World), (Instr.makeFunc fn first cap).run Try.prog w = .ok (.func fn first cap) w := fun _ _ _ _ => rfl
  have hnf := impl_namedTriangle.notNil
  have hnn := impl_namedTriangle.isNil
  go_enter Try.func66, Try.ntmps66
  go_wp2_with (first | (go_at_call 85; (with_reducible refine (impl_countIn.calls x (⟨#[97, 116, 108, 101, 97, 115, 116]⟩ : ByteArray) 1 5 n1 true _ A1.out).mono ?_); rintro e w1 ⟨rfl, hd1⟩) | (go_at_call 85; (with_reducible refine (impl_countIn.calls x (⟨#[106, 117, 115, 116]⟩ : ByteArray) 0 5 n2 false _ A2.out).mono ?_); rintro e w2 ⟨rfl, hd2⟩) | (go_at_call 85; (with_reducible refine (impl_countIn.calls x (⟨#[97, 108, 108, 98, 117, 116]⟩ : ByteArray) 0 5 n3 false _ A3.out).mono ?_); rintro e w3 ⟨rfl, hd3⟩) | (go_at_call 77; refine (impl_namedTriangle.tri6 w1.heap.size n1 L1.out.1 L1.out.2 _ (impl_namedTriangle.keep (w := w1) (below_alloc (below_step (below_alloc hd2.below _) hd3.below) _)) (impl_namedTriangle.keeplt (w := w1) (below_alloc (below_step (below_alloc hd2.below _) hd3.below) _))).mono ?_; rintro e w4 ⟨v0_, rfl, hR, hB⟩))
  go_ret2
  exact ⟨_, rfl, Kd.R_lower hR (below_size (below_alloc (below_step (below_alloc (below_step (below_alloc hd1.below _) hd2.below) _) hd3.below) _)), below_step (below_alloc (below_step (below_alloc (below_step (below_alloc hd1.below _) hd2.below) _) hd3.below) _) hB⟩
set_option maxHeartbeats 8000000 in
set_option maxRecDepth 100000 in
theorem impl_namedTriangle.way_true_false_true (x : ByteArray) (n1 n2 n3 : Int) (g1 : (x.toList == ([101, 118, 101, 114, 121] : List UInt8)) = false) (g2 : (x.toList == ([115, 111, 109, 101] : List UInt8)) = false) (g3 : (x.toList == ([110, 111] : List UInt8)) = false) (g4 : (x.toList == ([109, 111, 115, 116] : List UInt8)) = false) (g5 : (x.toList == ([101, 118, 101, 110] : List UInt8)) = false) (h1 : impl_countIn.f x (⟨#[97, 116, 108, 101, 97, 115, 116]⟩ : ByteArray) 1 5 = some (n1, true)) (h2 : impl_countIn.f x (⟨#[106, 117, 115, 116]⟩ : ByteArray) 0 5 = some (n2, false)) (h3 : impl_countIn.f x (⟨#[97, 108, 108, 98, 117, 116]⟩ : ByteArray) 0 5 = some (n3, true)) (l1 : -1000 ≤ n1) (m1 : n1 ≤ 1000) (l2 : -1000 ≤ n2) (m2 : n2 ≤ 1000) (l3 : -1000 ≤ n3) (m3 : n3 ≤ 1000) (w : World) :
    Calls Try.prog 66 #[.string x] w fun e w' => ∃ v0_ : Value, e = .returned (.tuple #[v0_, .bool true]) ∧ Kd.R (Kd.int .i64) 3 w' w.heap.size (fun _ => True) v0_ (impl_triangleBy.M (impl_namedTriangle.p8 n3)) ∧ Below w.heap.size w w' := by
  have A1 := Aside0.mk h1
  have A2 := Aside0.mk h2
  have A3 := Aside0.mk h3
  have L1 := Aside0.mk (And.intro l1 m1)
  have L2 := Aside0.mk (And.intro l2 m2)
  have L3 := Aside0.mk (And.intro l3 m3)
  clear h1 h2 h3 l1 m1 l2 m2 l3 m3
  have hmf : ∀ (fn : Fn) (first cap : Array Value) (w : World), (Instr.makeFunc fn first cap).run Try.prog w = .ok (.func fn first cap) w := fun _ _ _ _ => rfl
  have hnf := impl_namedTriangle.notNil
  have hnn := impl_namedTriangle.isNil
  go_enter Try.func66, Try.ntmps66
  go_wp2_with (first | (go_at_call 85; (with_reducible refine (impl_countIn.calls x (⟨#[97, 116, 108, 101, 97, 115, 116]⟩ : ByteArray) 1 5 n1 true _ A1.out).mono ?_); rintro e w1 ⟨rfl, hd1⟩) | (go_at_call 85; (with_reducible refine (impl_countIn.calls x (⟨#[106, 117, 115, 116]⟩ : ByteArray) 0 5 n2 false _ A2.out).mono ?_); rintro e w2 ⟨rfl, hd2⟩) | (go_at_call 85; (with_reducible refine (impl_countIn.calls x (⟨#[97, 108, 108, 98, 117, 116]⟩ : ByteArray) 0 5 n3 true _ A3.out).mono ?_); rintro e w3 ⟨rfl, hd3⟩) | (go_at_call 77; refine (impl_namedTriangle.tri8 w3.heap.size n3 L3.out.1 L3.out.2 _ (impl_namedTriangle.keep (w := w3) (Below.refl _ _)) (impl_namedTriangle.keeplt (w := w3) (Below.refl _ _))).mono ?_; rintro e w4 ⟨v0_, rfl, hR, hB⟩))
  go_ret2
  exact ⟨_, rfl, Kd.R_lower hR (below_size (below_alloc (below_step (below_alloc (below_step (below_alloc hd1.below _) hd2.below) _) hd3.below) _)), below_step (below_alloc (below_step (below_alloc (below_step (below_alloc hd1.below _) hd2.below) _) hd3.below) _) hB⟩
set_option maxHeartbeats 8000000 in
set_option maxRecDepth 100000 in
theorem impl_namedTriangle.way_true_true_false (x : ByteArray) (n1 n2 n3 : Int) (g1 : (x.toList == ([101, 118, 101, 114, 121] : List UInt8)) = false) (g2 : (x.toList == ([115, 111, 109, 101] : List UInt8)) = false) (g3 : (x.toList == ([110, 111] : List UInt8)) = false) (g4 : (x.toList == ([109, 111, 115, 116] : List UInt8)) = false) (g5 : (x.toList == ([101, 118, 101, 110] : List UInt8)) = false) (h1 : impl_countIn.f x (⟨#[97, 116, 108, 101, 97, 115, 116]⟩ : ByteArray) 1 5 = some (n1, true)) (h2 : impl_countIn.f x (⟨#[106, 117, 115, 116]⟩ : ByteArray) 0 5 = some (n2, true)) (h3 : impl_countIn.f x (⟨#[97, 108, 108, 98, 117, 116]⟩ : ByteArray) 0 5 = some (n3, false)) (l1 : -1000 ≤ n1) (m1 : n1 ≤ 1000) (l2 : -1000 ≤ n2) (m2 : n2 ≤ 1000) (l3 : -1000 ≤ n3) (m3 : n3 ≤ 1000) (w : World) :
    Calls Try.prog 66 #[.string x] w fun e w' => ∃ v0_ : Value, e = .returned (.tuple #[v0_, .bool true]) ∧ Kd.R (Kd.int .i64) 3 w' w.heap.size (fun _ => True) v0_ (impl_triangleBy.M (impl_namedTriangle.p7 n2)) ∧ Below w.heap.size w w' := by
  have A1 := Aside0.mk h1
  have A2 := Aside0.mk h2
  have A3 := Aside0.mk h3
  have L1 := Aside0.mk (And.intro l1 m1)
  have L2 := Aside0.mk (And.intro l2 m2)
  have L3 := Aside0.mk (And.intro l3 m3)
  clear h1 h2 h3 l1 m1 l2 m2 l3 m3
  have hmf : ∀ (fn : Fn) (first cap : Array Value) (w : World), (Instr.makeFunc fn first cap).run Try.prog w = .ok (.func fn first cap) w := fun _ _ _ _ => rfl
  have hnf := impl_namedTriangle.notNil
  have hnn := impl_namedTriangle.isNil
  go_enter Try.func66, Try.ntmps66
  go_wp2_with (first | (go_at_call 85; (with_reducible refine (impl_countIn.calls x (⟨#[97, 116, 108, 101, 97, 115, 116]⟩ : ByteArray) 1 5 n1 true _ A1.out).mono ?_); rintro e w1 ⟨rfl, hd1⟩) | (go_at_call 85; (with_reducible refine (impl_countIn.calls x (⟨#[106, 117, 115, 116]⟩ : ByteArray) 0 5 n2 true _ A2.out).mono ?_); rintro e w2 ⟨rfl, hd2⟩) | (go_at_call 85; (with_reducible refine (impl_countIn.calls x (⟨#[97, 108, 108, 98, 117, 116]⟩ : ByteArray) 0 5 n3 false _ A3.out).mono ?_); rintro e w3 ⟨rfl, hd3⟩) | (go_at_call 77; refine (impl_namedTriangle.tri7 w2.heap.size n2 L2.out.1 L2.out.2 _ (impl_namedTriangle.keep (w := w2) (below_alloc hd3.below _)) (impl_namedTriangle.keeplt (w := w2) (below_alloc hd3.below _))).mono ?_; rintro e w4 ⟨v0_, rfl, hR, hB⟩))
  go_ret2
  exact ⟨_, rfl, Kd.R_lower hR (below_size (below_alloc (below_step (below_alloc (below_step (below_alloc hd1.below _) hd2.below) _) hd3.below) _)), below_step (below_alloc (below_step (below_alloc (below_step (below_alloc hd1.below _) hd2.below) _) hd3.below) _) hB⟩
set_option maxHeartbeats 8000000 in
set_option maxRecDepth 100000 in
theorem impl_namedTriangle.way_true_true_true (x : ByteArray) (n1 n2 n3 : Int) (g1 : (x.toList == ([101, 118, 101, 114, 121] : List UInt8)) = false) (g2 : (x.toList == ([115, 111, 109, 101] : List UInt8)) = false) (g3 : (x.toList == ([110, 111] : List UInt8)) = false) (g4 : (x.toList == ([109, 111, 115, 116] : List UInt8)) = false) (g5 : (x.toList == ([101, 118, 101, 110] : List UInt8)) = false) (h1 : impl_countIn.f x (⟨#[97, 116, 108, 101, 97, 115, 116]⟩ : ByteArray) 1 5 = some (n1, true)) (h2 : impl_countIn.f x (⟨#[106, 117, 115, 116]⟩ : ByteArray) 0 5 = some (n2, true)) (h3 : impl_countIn.f x (⟨#[97, 108, 108, 98, 117, 116]⟩ : ByteArray) 0 5 = some (n3, true)) (l1 : -1000 ≤ n1) (m1 : n1 ≤ 1000) (l2 : -1000 ≤ n2) (m2 : n2 ≤ 1000) (l3 : -1000 ≤ n3) (m3 : n3 ≤ 1000) (w : World) :
    Calls Try.prog 66 #[.string x] w fun e w' => ∃ v0_ : Value, e = .returned (.tuple #[v0_, .bool true]) ∧ Kd.R (Kd.int .i64) 3 w' w.heap.size (fun _ => True) v0_ (impl_triangleBy.M (impl_namedTriangle.p8 n3)) ∧ Below w.heap.size w w' := by
  have A1 := Aside0.mk h1
  have A2 := Aside0.mk h2
  have A3 := Aside0.mk h3
  have L1 := Aside0.mk (And.intro l1 m1)
  have L2 := Aside0.mk (And.intro l2 m2)
  have L3 := Aside0.mk (And.intro l3 m3)
  clear h1 h2 h3 l1 m1 l2 m2 l3 m3
  have hmf : ∀ (fn : Fn) (first cap : Array Value) (w : World), (Instr.makeFunc fn first cap).run Try.prog w = .ok (.func fn first cap) w := fun _ _ _ _ => rfl
  have hnf := impl_namedTriangle.notNil
  have hnn := impl_namedTriangle.isNil
  go_enter Try.func66, Try.ntmps66
  go_wp2_with (first | (go_at_call 85; (with_reducible refine (impl_countIn.calls x (⟨#[97, 116, 108, 101, 97, 115, 116]⟩ : ByteArray) 1 5 n1 true _ A1.out).mono ?_); rintro e w1 ⟨rfl, hd1⟩) | (go_at_call 85; (with_reducible refine (impl_countIn.calls x (⟨#[106, 117, 115, 116]⟩ : ByteArray) 0 5 n2 true _ A2.out).mono ?_); rintro e w2 ⟨rfl, hd2⟩) | (go_at_call 85; (with_reducible refine (impl_countIn.calls x (⟨#[97, 108, 108, 98, 117, 116]⟩ : ByteArray) 0 5 n3 true _ A3.out).mono ?_); rintro e w3 ⟨rfl, hd3⟩) | (go_at_call 77; refine (impl_namedTriangle.tri8 w3.heap.size n3 L3.out.1 L3.out.2 _ (impl_namedTriangle.keep (w := w3) (Below.refl _ _)) (impl_namedTriangle.keeplt (w := w3) (Below.refl _ _))).mono ?_; rintro e w4 ⟨v0_, rfl, hR, hB⟩))
  go_ret2
  exact ⟨_, rfl, Kd.R_lower hR (below_size (below_alloc (below_step (below_alloc (below_step (below_alloc hd1.below _) hd2.below) _) hd3.below) _)), below_step (below_alloc (below_step (below_alloc (below_step (below_alloc hd1.below _) hd2.below) _) hd3.below) _) hB⟩
theorem impl_namedTriangle.of_list {x : ByteArray} {l : List UInt8} (h : x.toList = l) : x = ⟨l.toArray⟩ := by
  rw [impl_namedTriangle.tl] at h
  obtain ⟨d⟩ := x
  simp only at h
  rw [← h]
theorem impl_namedTriangle.c1_1 : impl_countIn.f (⟨#[101, 118, 101, 114, 121]⟩ : ByteArray) (⟨#[97, 116, 108, 101, 97, 115, 116]⟩ : ByteArray) 1 5 = some (0, false) := by decide +kernel
theorem impl_namedTriangle.c1_2 : impl_countIn.f (⟨#[101, 118, 101, 114, 121]⟩ : ByteArray) (⟨#[106, 117, 115, 116]⟩ : ByteArray) 0 5 = some (0, false) := by decide +kernel
theorem impl_namedTriangle.c1_3 : impl_countIn.f (⟨#[101, 118, 101, 114, 121]⟩ : ByteArray) (⟨#[97, 108, 108, 98, 117, 116]⟩ : ByteArray) 0 5 = some (0, false) := by decide +kernel
theorem impl_namedTriangle.c2_1 : impl_countIn.f (⟨#[115, 111, 109, 101]⟩ : ByteArray) (⟨#[97, 116, 108, 101, 97, 115, 116]⟩ : ByteArray) 1 5 = some (0, false) := by decide +kernel
theorem impl_namedTriangle.c2_2 : impl_countIn.f (⟨#[115, 111, 109, 101]⟩ : ByteArray) (⟨#[106, 117, 115, 116]⟩ : ByteArray) 0 5 = some (0, false) := by decide +kernel
theorem impl_namedTriangle.c2_3 : impl_countIn.f (⟨#[115, 111, 109, 101]⟩ : ByteArray) (⟨#[97, 108, 108, 98, 117, 116]⟩ : ByteArray) 0 5 = some (0, false) := by decide +kernel
theorem impl_namedTriangle.c3_1 : impl_countIn.f (⟨#[110, 111]⟩ : ByteArray) (⟨#[97, 116, 108, 101, 97, 115, 116]⟩ : ByteArray) 1 5 = some (0, false) := by decide +kernel
theorem impl_namedTriangle.c3_2 : impl_countIn.f (⟨#[110, 111]⟩ : ByteArray) (⟨#[106, 117, 115, 116]⟩ : ByteArray) 0 5 = some (0, false) := by decide +kernel
theorem impl_namedTriangle.c3_3 : impl_countIn.f (⟨#[110, 111]⟩ : ByteArray) (⟨#[97, 108, 108, 98, 117, 116]⟩ : ByteArray) 0 5 = some (0, false) := by decide +kernel
theorem impl_namedTriangle.c4_1 : impl_countIn.f (⟨#[109, 111, 115, 116]⟩ : ByteArray) (⟨#[97, 116, 108, 101, 97, 115, 116]⟩ : ByteArray) 1 5 = some (0, false) := by decide +kernel
theorem impl_namedTriangle.c4_2 : impl_countIn.f (⟨#[109, 111, 115, 116]⟩ : ByteArray) (⟨#[106, 117, 115, 116]⟩ : ByteArray) 0 5 = some (0, false) := by decide +kernel
theorem impl_namedTriangle.c4_3 : impl_countIn.f (⟨#[109, 111, 115, 116]⟩ : ByteArray) (⟨#[97, 108, 108, 98, 117, 116]⟩ : ByteArray) 0 5 = some (0, false) := by decide +kernel
theorem impl_namedTriangle.c5_1 : impl_countIn.f (⟨#[101, 118, 101, 110]⟩ : ByteArray) (⟨#[97, 116, 108, 101, 97, 115, 116]⟩ : ByteArray) 1 5 = some (0, false) := by decide +kernel
theorem impl_namedTriangle.c5_2 : impl_countIn.f (⟨#[101, 118, 101, 110]⟩ : ByteArray) (⟨#[106, 117, 115, 116]⟩ : ByteArray) 0 5 = some (0, false) := by decide +kernel
theorem impl_namedTriangle.c5_3 : impl_countIn.f (⟨#[101, 118, 101, 110]⟩ : ByteArray) (⟨#[97, 108, 108, 98, 117, 116]⟩ : ByteArray) 0 5 = some (0, false) := by decide +kernel
theorem impl_namedTriangle.calls (a0 : ByteArray) (r1 : List Int) (r2 : Bool) (w : World) (h : impl_namedTriangle.f a0 = some (r1, r2)) :
    Calls Try.prog 66 #[.string a0] w fun e w' => ∃ v0_ : Value, e = .returned (.tuple #[v0_, .bool r2]) ∧ Kd.R (Kd.int .i64) 3 w' w.heap.size (fun _ => True) v0_ r1 ∧ Below w.heap.size w w' := by
  unfold impl_namedTriangle.f at h
  obtain ⟨⟨n1, b1⟩, h1, h⟩ := Option.bind_eq_some_iff.mp h
  obtain ⟨⟨n2, b2⟩, h2, h⟩ := Option.bind_eq_some_iff.mp h
  obtain ⟨⟨n3, b3⟩, h3, h⟩ := Option.bind_eq_some_iff.mp h
  dsimp only at h
  by_cases l : -1000 ≤ n1 ∧ n1 ≤ 1000 ∧ -1000 ≤ n2 ∧ n2 ≤ 1000 ∧ -1000 ≤ n3 ∧ n3 ≤ 1000
  rotate_left
  · rw [if_neg l] at h; exact absurd h (by simp)
  rw [if_pos l] at h
  replace h := Option.some.inj h
  by_cases e1 : a0.toList = ([101, 118, 101, 114, 121] : List UInt8)
  · obtain rfl := impl_namedTriangle.of_list e1
    rw [impl_namedTriangle.c1_1] at h1
    rw [impl_namedTriangle.c1_2] at h2
    rw [impl_namedTriangle.c1_3] at h3
    simp only [Option.some.injEq, Prod.mk.injEq] at h1 h2 h3
    obtain ⟨rfl, rfl⟩ := h1
    obtain ⟨rfl, rfl⟩ := h2
    obtain ⟨rfl, rfl⟩ := h3
    have hr : (r1, r2) = (impl_triangleBy.M impl_namedTriangle.p1, true) := by
      rw [← h]; unfold impl_namedTriangle.pick impl_namedTriangle.plain; rw [if_neg (by simp), if_neg (by simp), if_neg (by simp)];  rw [if_pos e1]
    simp only [Prod.mk.injEq] at hr
    obtain ⟨rfl, rfl⟩ := hr
    exact impl_namedTriangle.way1 _ 0 0 0 e1 impl_namedTriangle.c1_1 impl_namedTriangle.c1_2 impl_namedTriangle.c1_3 (by omega) (by omega) (by omega) (by omega) (by omega) (by omega) w
  by_cases e2 : a0.toList = ([115, 111, 109, 101] : List UInt8)
  · obtain rfl := impl_namedTriangle.of_list e2
    rw [impl_namedTriangle.c2_1] at h1
    rw [impl_namedTriangle.c2_2] at h2
    rw [impl_namedTriangle.c2_3] at h3
    simp only [Option.some.injEq, Prod.mk.injEq] at h1 h2 h3
    obtain ⟨rfl, rfl⟩ := h1
    obtain ⟨rfl, rfl⟩ := h2
    obtain ⟨rfl, rfl⟩ := h3
    have hr : (r1, r2) = (impl_triangleBy.M impl_namedTriangle.p2, true) := by
      rw [← h]; unfold impl_namedTriangle.pick impl_namedTriangle.plain; rw [if_neg (by simp), if_neg (by simp), if_neg (by simp)]; rw [if_neg e1]; rw [if_pos e2]
    simp only [Prod.mk.injEq] at hr
    obtain ⟨rfl, rfl⟩ := hr
    exact impl_namedTriangle.way2 _ 0 0 0 e2 impl_namedTriangle.c2_1 impl_namedTriangle.c2_2 impl_namedTriangle.c2_3 (by omega) (by omega) (by omega) (by omega) (by omega) (by omega) w
  by_cases e3 : a0.toList = ([110, 111] : List UInt8)
  · obtain rfl := impl_namedTriangle.of_list e3
    rw [impl_namedTriangle.c3_1] at h1
    rw [impl_namedTriangle.c3_2] at h2
    rw [impl_namedTriangle.c3_3] at h3
    simp only [Option.some.injEq, Prod.mk.injEq] at h1 h2 h3
    obtain ⟨rfl, rfl⟩ := h1
    obtain ⟨rfl, rfl⟩ := h2
    obtain ⟨rfl, rfl⟩ := h3
    have hr : (r1, r2) = (impl_triangleBy.M impl_namedTriangle.p3, true) := by
      rw [← h]; unfold impl_namedTriangle.pick impl_namedTriangle.plain; rw [if_neg (by simp), if_neg (by simp), if_neg (by simp)]; rw [if_neg e1]; rw [if_neg e2]; rw [if_pos e3]
    simp only [Prod.mk.injEq] at hr
    obtain ⟨rfl, rfl⟩ := hr
    exact impl_namedTriangle.way3 _ 0 0 0 e3 impl_namedTriangle.c3_1 impl_namedTriangle.c3_2 impl_namedTriangle.c3_3 (by omega) (by omega) (by omega) (by omega) (by omega) (by omega) w
  by_cases e4 : a0.toList = ([109, 111, 115, 116] : List UInt8)
  · obtain rfl := impl_namedTriangle.of_list e4
    rw [impl_namedTriangle.c4_1] at h1
    rw [impl_namedTriangle.c4_2] at h2
    rw [impl_namedTriangle.c4_3] at h3
    simp only [Option.some.injEq, Prod.mk.injEq] at h1 h2 h3
    obtain ⟨rfl, rfl⟩ := h1
    obtain ⟨rfl, rfl⟩ := h2
    obtain ⟨rfl, rfl⟩ := h3
    have hr : (r1, r2) = (impl_triangleBy.M impl_namedTriangle.p4, true) := by
      rw [← h]; unfold impl_namedTriangle.pick impl_namedTriangle.plain; rw [if_neg (by simp), if_neg (by simp), if_neg (by simp)]; rw [if_neg e1]; rw [if_neg e2]; rw [if_neg e3]; rw [if_pos e4]
    simp only [Prod.mk.injEq] at hr
    obtain ⟨rfl, rfl⟩ := hr
    exact impl_namedTriangle.way4 _ 0 0 0 e4 impl_namedTriangle.c4_1 impl_namedTriangle.c4_2 impl_namedTriangle.c4_3 (by omega) (by omega) (by omega) (by omega) (by omega) (by omega) w
  by_cases e5 : a0.toList = ([101, 118, 101, 110] : List UInt8)
  · obtain rfl := impl_namedTriangle.of_list e5
    rw [impl_namedTriangle.c5_1] at h1
    rw [impl_namedTriangle.c5_2] at h2
    rw [impl_namedTriangle.c5_3] at h3
    simp only [Option.some.injEq, Prod.mk.injEq] at h1 h2 h3
    obtain ⟨rfl, rfl⟩ := h1
    obtain ⟨rfl, rfl⟩ := h2
    obtain ⟨rfl, rfl⟩ := h3
    have hr : (r1, r2) = (impl_triangleBy.M impl_namedTriangle.p5, true) := by
      rw [← h]; unfold impl_namedTriangle.pick impl_namedTriangle.plain; rw [if_neg (by simp), if_neg (by simp), if_neg (by simp)]; rw [if_neg e1]; rw [if_neg e2]; rw [if_neg e3]; rw [if_neg e4]; rw [if_pos e5]
    simp only [Prod.mk.injEq] at hr
    obtain ⟨rfl, rfl⟩ := hr
    exact impl_namedTriangle.way5 _ 0 0 0 e5 impl_namedTriangle.c5_1 impl_namedTriangle.c5_2 impl_namedTriangle.c5_3 (by omega) (by omega) (by omega) (by omega) (by omega) (by omega) w
  cases b1 <;> cases b2 <;> cases b3
  · have hr : (r1, r2) = (([] : List Int), false) := by
      rw [← h]; unfold impl_namedTriangle.pick; rw [if_neg (by simp)]; rw [if_neg (by simp)]; rw [if_neg (by simp)]; unfold impl_namedTriangle.plain; rw [if_neg e1, if_neg e2, if_neg e3, if_neg e4, if_neg e5]
    simp only [Prod.mk.injEq] at hr
    obtain ⟨rfl, rfl⟩ := hr
    exact impl_namedTriangle.way_false_false_false a0 n1 n2 n3 (beq_eq_false_iff_ne.mpr e1) (beq_eq_false_iff_ne.mpr e2) (beq_eq_false_iff_ne.mpr e3) (beq_eq_false_iff_ne.mpr e4) (beq_eq_false_iff_ne.mpr e5) h1 h2 h3 l.1 l.2.1 l.2.2.1 l.2.2.2.1 l.2.2.2.2.1 l.2.2.2.2.2 w
  · have hr : (r1, r2) = (impl_triangleBy.M (impl_namedTriangle.p8 n3), true) := by
      rw [← h]; unfold impl_namedTriangle.pick; rw [if_pos rfl]
    simp only [Prod.mk.injEq] at hr
    obtain ⟨rfl, rfl⟩ := hr
    exact impl_namedTriangle.way_false_false_true a0 n1 n2 n3 (beq_eq_false_iff_ne.mpr e1) (beq_eq_false_iff_ne.mpr e2) (beq_eq_false_iff_ne.mpr e3) (beq_eq_false_iff_ne.mpr e4) (beq_eq_false_iff_ne.mpr e5) h1 h2 h3 l.1 l.2.1 l.2.2.1 l.2.2.2.1 l.2.2.2.2.1 l.2.2.2.2.2 w
  · have hr : (r1, r2) = (impl_triangleBy.M (impl_namedTriangle.p7 n2), true) := by
      rw [← h]; unfold impl_namedTriangle.pick; rw [if_neg (by simp)]; rw [if_pos rfl]
    simp only [Prod.mk.injEq] at hr
    obtain ⟨rfl, rfl⟩ := hr
    exact impl_namedTriangle.way_false_true_false a0 n1 n2 n3 (beq_eq_false_iff_ne.mpr e1) (beq_eq_false_iff_ne.mpr e2) (beq_eq_false_iff_ne.mpr e3) (beq_eq_false_iff_ne.mpr e4) (beq_eq_false_iff_ne.mpr e5) h1 h2 h3 l.1 l.2.1 l.2.2.1 l.2.2.2.1 l.2.2.2.2.1 l.2.2.2.2.2 w
  · have hr : (r1, r2) = (impl_triangleBy.M (impl_namedTriangle.p8 n3), true) := by
      rw [← h]; unfold impl_namedTriangle.pick; rw [if_pos rfl]
    simp only [Prod.mk.injEq] at hr
    obtain ⟨rfl, rfl⟩ := hr
    exact impl_namedTriangle.way_false_true_true a0 n1 n2 n3 (beq_eq_false_iff_ne.mpr e1) (beq_eq_false_iff_ne.mpr e2) (beq_eq_false_iff_ne.mpr e3) (beq_eq_false_iff_ne.mpr e4) (beq_eq_false_iff_ne.mpr e5) h1 h2 h3 l.1 l.2.1 l.2.2.1 l.2.2.2.1 l.2.2.2.2.1 l.2.2.2.2.2 w
  · have hr : (r1, r2) = (impl_triangleBy.M (impl_namedTriangle.p6 n1), true) := by
      rw [← h]; unfold impl_namedTriangle.pick; rw [if_neg (by simp)]; rw [if_neg (by simp)]; rw [if_pos rfl]
    simp only [Prod.mk.injEq] at hr
    obtain ⟨rfl, rfl⟩ := hr
    exact impl_namedTriangle.way_true_false_false a0 n1 n2 n3 (beq_eq_false_iff_ne.mpr e1) (beq_eq_false_iff_ne.mpr e2) (beq_eq_false_iff_ne.mpr e3) (beq_eq_false_iff_ne.mpr e4) (beq_eq_false_iff_ne.mpr e5) h1 h2 h3 l.1 l.2.1 l.2.2.1 l.2.2.2.1 l.2.2.2.2.1 l.2.2.2.2.2 w
  · have hr : (r1, r2) = (impl_triangleBy.M (impl_namedTriangle.p8 n3), true) := by
      rw [← h]; unfold impl_namedTriangle.pick; rw [if_pos rfl]
    simp only [Prod.mk.injEq] at hr
    obtain ⟨rfl, rfl⟩ := hr
    exact impl_namedTriangle.way_true_false_true a0 n1 n2 n3 (beq_eq_false_iff_ne.mpr e1) (beq_eq_false_iff_ne.mpr e2) (beq_eq_false_iff_ne.mpr e3) (beq_eq_false_iff_ne.mpr e4) (beq_eq_false_iff_ne.mpr e5) h1 h2 h3 l.1 l.2.1 l.2.2.1 l.2.2.2.1 l.2.2.2.2.1 l.2.2.2.2.2 w
  · have hr : (r1, r2) = (impl_triangleBy.M (impl_namedTriangle.p7 n2), true) := by
      rw [← h]; unfold impl_namedTriangle.pick; rw [if_neg (by simp)]; rw [if_pos rfl]
    simp only [Prod.mk.injEq] at hr
    obtain ⟨rfl, rfl⟩ := hr
    exact impl_namedTriangle.way_true_true_false a0 n1 n2 n3 (beq_eq_false_iff_ne.mpr e1) (beq_eq_false_iff_ne.mpr e2) (beq_eq_false_iff_ne.mpr e3) (beq_eq_false_iff_ne.mpr e4) (beq_eq_false_iff_ne.mpr e5) h1 h2 h3 l.1 l.2.1 l.2.2.1 l.2.2.2.1 l.2.2.2.2.1 l.2.2.2.2.2 w
  · have hr : (r1, r2) = (impl_triangleBy.M (impl_namedTriangle.p8 n3), true) := by
      rw [← h]; unfold impl_namedTriangle.pick; rw [if_pos rfl]
    simp only [Prod.mk.injEq] at hr
    obtain ⟨rfl, rfl⟩ := hr
    exact impl_namedTriangle.way_true_true_true a0 n1 n2 n3 (beq_eq_false_iff_ne.mpr e1) (beq_eq_false_iff_ne.mpr e2) (beq_eq_false_iff_ne.mpr e3) (beq_eq_false_iff_ne.mpr e4) (beq_eq_false_iff_ne.mpr e5) h1 h2 h3 l.1 l.2.1 l.2.2.1 l.2.2.2.1 l.2.2.2.2.1 l.2.2.2.2.2 w



/-! ### impl_NamedTriangle: function 43 -/
def impl_NamedTriangle.f (a0 : ByteArray) : Option (List Int × Bool) := (impl_namedTriangle.f a0).bind fun bt383 => (some (bt383.1, bt383.2))
set_option maxHeartbeats 8000000 in
set_option maxRecDepth 100000 in
theorem impl_NamedTriangle.calls (a0 : ByteArray) (r1 : List Int) (r2 : Bool) (w : World) (h : impl_NamedTriangle.f a0 = some (r1, r2)) :
    Calls Try.prog 43 #[.string a0] w fun e w' => ∃ v0_ : Value, e = .returned (.tuple #[v0_, .bool r2]) ∧ Kd.R (Kd.int .i64) 3 w' w.heap.size (fun _ => True) v0_ r1 ∧ Below w.heap.size w w' := by
  have HB := Aside0.mk (Below.refl w.heap.size w)
  have H : ((impl_namedTriangle.f a0).bind fun bt383 => (some (bt383.1, bt383.2))) = some (r1, r2) := h
  clear h
  replace H := Option.bind_eq_some_iff.mp H
  obtain ⟨⟨t383, t384⟩, A20, H⟩ := H
  replace H : (some (t383, t384)) = some (r1, r2) := H
  have A2 := Aside0.mk A20
  clear A20
  simp only [Option.some.injEq, Prod.mk.injEq] at H
  obtain ⟨rfl, rfl⟩ := H
  go_enter Try.func43, Try.ntmps43
  go_wp2_with (first | ((with_reducible refine gate_callee (f := 66) rfl ?_); refine goesL_ (some 5) rfl rfl Try.func66 (by kernel_rfl) rfl #[.string a0] rfl (by (try simp only [List.map_toArray, List.map_cons, List.map_nil]); first | done | rfl | (simp only [List.length_drop, List.length_take]; rfl)) ?_; (with_reducible refine (impl_namedTriangle.calls a0 t383 t384 _ A2.out).mono ?_); rintro e w3 ⟨v385, rfl, ho0, hb⟩; refine ⟨_, rfl, ?_⟩; have n0_ := Aside0.mk (Kd.R_lower ho0 (below_size (by repeat (first | (with_reducible first | exact HB.out | apply below_alloc | apply pw_below_drewN | apply below_drew1) | exact HB.out)))); have n1_ := Aside0.mk (below_step (by repeat (first | (with_reducible first | exact HB.out | apply below_alloc | apply pw_below_drewN | apply below_drew1) | exact HB.out)) hb); clear HB; have HO386 := n0_; have HB := n1_; clear n0_ n1_; (try clear hb); (try clear hb2); (try clear hk); (try clear hi); (try clear ho0)))
  go_ret2
  exact ⟨_, by first | rfl | (simp [errW_none, errW_some] <;> rfl) | (simp [*, errW_none, errW_some] <;> rfl), by (with_reducible repeat (first | apply Kd.R_alloc | apply Kd.R_drewN | apply Kd.R_drew)); exact HO386.out, by repeat (first | (with_reducible first | exact HB.out | apply below_alloc | apply pw_below_drewN | apply below_drew1) | exact HB.out)⟩

/-! ### laws_FnSecondThen: function 15 -/
def laws_FnSecondThen.j0 : Nat → Int → Int → Int → List Int → List Int → Bool → Option (Bool)
  | 0, _, _, _, _, _, _ => none
  | k + 1, x4, x6, x7, x9, x11, x60 => if x60 = true then (some false) else ((impl_FirstThen.f k x9 x4 x9 x6 x7).bind fun t408 => ((impl_SecondThen.f k x9 x4 x9 x6 x7).bind fun t409 => (if (t408 == t409) = true then ((impl_FirstThen.f k x11 x4 x11 x6 x7).bind fun t410 => ((impl_SecondThen.f k x11 x4 x11 x6 x7).bind fun t411 => (if (t410 == t411) = true then ((laws_alive.f).bind fun t412 => (some t412)) else (some false)))) else (some false))))
def laws_FnSecondThen.f (k : Nat) (l0 : List Int) : Option (Bool) := if (l0.length : Int) > 1048576 then (some true) else ((spec_DrawSecondThen.f k l0).bind fun bt387 => ((impl_SecondThen.f k bt387.1 bt387.2.1 bt387.2.2.1 bt387.2.2.2.1 bt387.2.2.2.2).bind fun t396 => ((spec_SecondThen.f k bt387.1 bt387.2.1 bt387.2.2.1 bt387.2.2.2.1 bt387.2.2.2.2).bind fun t397 => (if (t396 != t397) = true then (some false) else ((impl_NamedTriangle.f (⟨#[101, 118, 101, 114, 121]⟩ : ByteArray)).bind fun bt398 => ((impl_NamedTriangle.f (⟨#[115, 111, 109, 101]⟩ : ByteArray)).bind fun bt402 => ((impl_FirstThen.f k bt402.1 bt387.2.1 bt398.1 bt387.2.2.2.1 bt387.2.2.2.2).bind fun t406 => (if t406 = true then ((impl_SecondThen.f k bt402.1 bt387.2.1 bt398.1 bt387.2.2.2.1 bt387.2.2.2.2).bind fun t407 => (laws_FnSecondThen.j0 k bt387.2.1 bt387.2.2.2.1 bt387.2.2.2.2 bt398.1 bt402.1 (!t407))) else (laws_FnSecondThen.j0 k bt387.2.1 bt387.2.2.2.1 bt387.2.2.2.2 bt398.1 bt402.1 false)))))))))
theorem laws_FnSecondThen.mono_l : ∀ k, (∀ y0 y1 y2 y3 y4 y5, LeO (laws_FnSecondThen.j0 k y0 y1 y2 y3 y4 y5) (laws_FnSecondThen.j0 (k + 1) y0 y1 y2 y3 y4 y5))
  | 0 => fun _ _ _ _ _ _ r h => by simp [laws_FnSecondThen.j0] at h
  | k + 1 => by
    have ih0 := laws_FnSecondThen.mono_l k
    · intro y0 y1 y2 y3 y4 y5
      unfold laws_FnSecondThen.j0
      repeat' first
      | (with_reducible exact ih0 _ _ _ _ _ _)
      | (with_reducible exact impl_FirstThen.mono _ _ _ _ _ _)
      | (with_reducible exact impl_SecondThen.mono _ _ _ _ _ _)
      | (with_reducible exact spec_DrawSecondThen.mono _ _)
      | (with_reducible exact spec_SecondThen.mono _ _ _ _ _ _)
      | (with_reducible exact LeO.refl _)
      | (with_reducible exact LeO.none _)
      | (with_reducible refine LeO.ite ?_ ?_)
      | (with_reducible refine LeO.bind ?_ (fun _ => ?_))
      | exact ih0 _ _ _ _ _ _
      | exact impl_FirstThen.mono _ _ _ _ _ _
      | exact impl_SecondThen.mono _ _ _ _ _ _
      | exact spec_DrawSecondThen.mono _ _
      | exact spec_SecondThen.mono _ _ _ _ _ _
      | exact LeO.none _
      | refine LeO.ite ?_ ?_
      | refine LeO.bind ?_ (fun _ => ?_)
theorem laws_FnSecondThen.mono : ∀ a0 k, LeO (laws_FnSecondThen.f k a0) (laws_FnSecondThen.f (k + 1) a0) := by
  intro a0 k
  have ih0 := laws_FnSecondThen.mono_l k
  unfold laws_FnSecondThen.f
  repeat' first
      | (with_reducible exact ih0 _ _ _ _ _ _)
      | (with_reducible exact impl_FirstThen.mono _ _ _ _ _ _)
      | (with_reducible exact impl_SecondThen.mono _ _ _ _ _ _)
      | (with_reducible exact spec_DrawSecondThen.mono _ _)
      | (with_reducible exact spec_SecondThen.mono _ _ _ _ _ _)
      | (with_reducible exact LeO.refl _)
      | (with_reducible exact LeO.none _)
      | (with_reducible refine LeO.ite ?_ ?_)
      | (with_reducible refine LeO.bind ?_ (fun _ => ?_))
      | exact ih0 _ _ _ _ _ _
      | exact impl_FirstThen.mono _ _ _ _ _ _
      | exact impl_SecondThen.mono _ _ _ _ _ _
      | exact spec_DrawSecondThen.mono _ _
      | exact spec_SecondThen.mono _ _ _ _ _ _
      | exact LeO.none _
      | refine LeO.ite ?_ ?_
      | refine LeO.bind ?_ (fun _ => ?_)
set_option maxHeartbeats 8000000 in
set_option maxRecDepth 100000 in
theorem laws_FnSecondThen.calls (k : Nat) (A0 : Option Addr) (c0 : Nat) (l0 : List Int) (r : Bool) (w : World) (hr0 : Kd.C (Kd.int .u8) w A0 l0.length l0) (hc0 : l0.length ≤ c0) (h : laws_FnSecondThen.f k l0 = some r) :
    Calls Try.prog 15 #[.slice A0 l0.length c0] w fun e w' => e = .returned (.bool r) ∧ Below w.heap.size w w' := by
  have HR0 := Aside0.mk hr0
  have HC0 := Aside0.mk hc0
  clear hr0 hc0
  have HB := Aside0.mk (Below.refl w.heap.size w)
  have H : (if (l0.length : Int) > 1048576 then (some true) else ((spec_DrawSecondThen.f k l0).bind fun bt387 => ((impl_SecondThen.f k bt387.1 bt387.2.1 bt387.2.2.1 bt387.2.2.2.1 bt387.2.2.2.2).bind fun t396 => ((spec_SecondThen.f k bt387.1 bt387.2.1 bt387.2.2.1 bt387.2.2.2.1 bt387.2.2.2.2).bind fun t397 => (if (t396 != t397) = true then (some false) else ((impl_NamedTriangle.f (⟨#[101, 118, 101, 114, 121]⟩ : ByteArray)).bind fun bt398 => ((impl_NamedTriangle.f (⟨#[115, 111, 109, 101]⟩ : ByteArray)).bind fun bt402 => ((impl_FirstThen.f k bt402.1 bt387.2.1 bt398.1 bt387.2.2.2.1 bt387.2.2.2.2).bind fun t406 => (if t406 = true then ((impl_SecondThen.f k bt402.1 bt387.2.1 bt398.1 bt387.2.2.2.1 bt387.2.2.2.2).bind fun t407 => (laws_FnSecondThen.j0 k bt387.2.1 bt387.2.2.2.1 bt387.2.2.2.2 bt398.1 bt402.1 (!t407))) else (laws_FnSecondThen.j0 k bt387.2.1 bt387.2.2.2.1 bt387.2.2.2.2 bt398.1 bt402.1 false)))))))))) = some r := h
  clear h
  by_cases c2 : (l0.length : Int) > 1048576
  · rw [if_pos c2] at H
    have c2b0 : decide (1048576 < (l0.length : Int)) = true := decide_eq_true c2
    have c2b1 : decide (1048576 < l0.length) = true := decide_eq_true (by omega)
    clear c2
    obtain rfl := Option.some.inj H
    go_enter Try.func15, Try.ntmps15
    go_wp2
    go_ret
    exact ⟨by first | rfl | (simp [errW_none, errW_some] <;> rfl) | (simp [*, errW_none, errW_some] <;> rfl), by repeat (first | (with_reducible first | exact HB.out | apply below_alloc | apply pw_below_drewN | apply below_drew1) | exact HB.out)⟩
  · rw [if_neg c2] at H
    have c2b0 : decide (1048576 < (l0.length : Int)) = false := decide_eq_false c2
    have c2b1 : decide (1048576 < l0.length) = false := decide_eq_false (by omega)
    clear c2
    replace H := Option.bind_eq_some_iff.mp H
    obtain ⟨⟨t387, t388, t389, t390, t391⟩, A30, H⟩ := H
    replace H : ((impl_SecondThen.f k t387 t388 t389 t390 t391).bind fun t396 => ((spec_SecondThen.f k t387 t388 t389 t390 t391).bind fun t397 => (if (t396 != t397) = true then (some false) else ((impl_NamedTriangle.f (⟨#[101, 118, 101, 114, 121]⟩ : ByteArray)).bind fun bt398 => ((impl_NamedTriangle.f (⟨#[115, 111, 109, 101]⟩ : ByteArray)).bind fun bt402 => ((impl_FirstThen.f k bt402.1 t388 bt398.1 t390 t391).bind fun t406 => (if t406 = true then ((impl_SecondThen.f k bt402.1 t388 bt398.1 t390 t391).bind fun t407 => (laws_FnSecondThen.j0 k t388 t390 t391 bt398.1 bt402.1 (!t407))) else (laws_FnSecondThen.j0 k t388 t390 t391 bt398.1 bt402.1 false)))))))) = some r := H
    have A3 := Aside0.mk A30
    clear A30
    replace H := Option.bind_eq_some_iff.mp H
    obtain ⟨t396, A40, H⟩ := H
    replace H : ((spec_SecondThen.f k t387 t388 t389 t390 t391).bind fun t397 => (if (t396 != t397) = true then (some false) else ((impl_NamedTriangle.f (⟨#[101, 118, 101, 114, 121]⟩ : ByteArray)).bind fun bt398 => ((impl_NamedTriangle.f (⟨#[115, 111, 109, 101]⟩ : ByteArray)).bind fun bt402 => ((impl_FirstThen.f k bt402.1 t388 bt398.1 t390 t391).bind fun t406 => (if t406 = true then ((impl_SecondThen.f k bt402.1 t388 bt398.1 t390 t391).bind fun t407 => (laws_FnSecondThen.j0 k t388 t390 t391 bt398.1 bt402.1 (!t407))) else (laws_FnSecondThen.j0 k t388 t390 t391 bt398.1 bt402.1 false))))))) = some r := H
    have A4 := Aside0.mk A40
    clear A40
    replace H := Option.bind_eq_some_iff.mp H
    obtain ⟨t397, A50, H⟩ := H
    replace H : (if (t396 != t397) = true then (some false) else ((impl_NamedTriangle.f (⟨#[101, 118, 101, 114, 121]⟩ : ByteArray)).bind fun bt398 => ((impl_NamedTriangle.f (⟨#[115, 111, 109, 101]⟩ : ByteArray)).bind fun bt402 => ((impl_FirstThen.f k bt402.1 t388 bt398.1 t390 t391).bind fun t406 => (if t406 = true then ((impl_SecondThen.f k bt402.1 t388 bt398.1 t390 t391).bind fun t407 => (laws_FnSecondThen.j0 k t388 t390 t391 bt398.1 bt402.1 (!t407))) else (laws_FnSecondThen.j0 k t388 t390 t391 bt398.1 bt402.1 false)))))) = some r := H
    have A5 := Aside0.mk A50
    clear A50
    by_cases c6 : (t396 != t397) = true
    · rw [if_pos c6] at H
      have c6b0 : (t396 != t397) = true := c6
      (try (have c6b1 : decide (t396 = t397) = false := by simpa using c6))
      (try (have c6b2 : (t396 == t397) = false := by simpa using c6))
      (try (have c6b3 : ¬ (t396 = t397) := by simpa using c6))
      clear c6
      obtain rfl := Option.some.inj H
      go_enter Try.func15, Try.ntmps15
      go_wp2_with (first | ((with_reducible refine gate_callee (f := 42) rfl ?_); refine goesL_ (some 18) rfl rfl Try.func42 (by kernel_rfl) rfl #[.slice A0 l0.length c0] rfl (by (try simp only [List.map_toArray, List.map_cons, List.map_nil]); first | done | rfl | (simp only [List.length_drop, List.length_take]; rfl)) ?_; (with_reducible refine (spec_DrawSecondThen.calls k _ _ l0 t387 t388 t389 t390 t391 _ ?side1 ?side2 A3.out).mono ?_); (case side1 => repeat (first | exact HR0.out | (with_reducible refine Kd.C_alloc ?_ _) | (with_reducible refine Kd.C_drewN ?_ _) | (with_reducible refine Kd.C_drew ?_))); (case side2 => exact HC0.out); rintro e w7 ⟨v392, v394, rfl, ho0, ho1, hb⟩; refine ⟨_, rfl, ?_⟩; have n0_ := Aside0.mk (Kd.R_lower ho0 (below_size (by repeat (first | (with_reducible first | exact HB.out | apply below_alloc | apply pw_below_drewN | apply below_drew1) | exact HB.out)))); have n1_ := Aside0.mk (Kd.R_lower ho1 (below_size (by repeat (first | (with_reducible first | exact HB.out | apply below_alloc | apply pw_below_drewN | apply below_drew1) | exact HB.out)))); have n2_ := Aside0.mk (below_step (by repeat (first | (with_reducible first | exact HB.out | apply below_alloc | apply pw_below_drewN | apply below_drew1) | exact HB.out)) hb); clear HB; have HO393 := n0_; have HO395 := n1_; have HB := n2_; clear n0_ n1_ n2_; (try clear hb); (try clear hb2); (try clear hk); (try clear hi); (try clear ho0); (try clear ho1); obtain ⟨Ao8, co8, eo8⟩ := Kd.R_slice HO393.out; subst eo8; obtain ⟨Ao9, co9, eo9⟩ := Kd.R_slice HO395.out; subst eo9) | ((with_reducible refine gate_callee (f := 34) rfl ?_); refine goesL_ (some 29) rfl rfl Try.func34 (by kernel_rfl) rfl #[.slice Ao8 t387.length co8, .int .i64 t388, .slice Ao9 t389.length co9, .int .i64 t390, .int .i64 t391] rfl (by (try simp only [List.map_toArray, List.map_cons, List.map_nil]); first | done | rfl | (simp only [List.length_drop, List.length_take]; rfl)) ?_; (with_reducible refine (impl_SecondThen.calls k _ _ t387 t388 _ _ t389 t390 t391 t396 _ ?side1 ?side2 ?side3 ?side4 A4.out).mono ?_); (case side1 => repeat (first | exact (Kd.R_reads' HO393.out).2.2 | (with_reducible refine Kd.C_alloc ?_ _) | (with_reducible refine Kd.C_drewN ?_ _) | (with_reducible refine Kd.C_drew ?_))); (case side2 => exact (Kd.R_reads' HO393.out).2.1); (case side3 => repeat (first | exact (Kd.R_reads' HO395.out).2.2 | (with_reducible refine Kd.C_alloc ?_ _) | (with_reducible refine Kd.C_drewN ?_ _) | (with_reducible refine Kd.C_drew ?_))); (case side4 => exact (Kd.R_reads' HO395.out).2.1); rintro e w' ⟨rfl, ⟨nd, rfl⟩⟩; refine ⟨_, rfl, ?_⟩) | ((with_reducible refine gate_callee (f := 33) rfl ?_); refine goesL_ (some 36) rfl rfl Try.func33 (by kernel_rfl) rfl #[.slice Ao8 t387.length co8, .int .i64 t388, .slice Ao9 t389.length co9, .int .i64 t390, .int .i64 t391] rfl (by (try simp only [List.map_toArray, List.map_cons, List.map_nil]); first | done | rfl | (simp only [List.length_drop, List.length_take]; rfl)) ?_; (with_reducible refine (spec_SecondThen.calls k _ _ t387 t388 _ _ t389 t390 t391 t397 _ ?side1 ?side2 ?side3 ?side4 A5.out).mono ?_); (case side1 => repeat (first | exact (Kd.R_reads' HO393.out).2.2 | (with_reducible refine Kd.C_alloc ?_ _) | (with_reducible refine Kd.C_drewN ?_ _) | (with_reducible refine Kd.C_drew ?_))); (case side2 => exact (Kd.R_reads' HO393.out).2.1); (case side3 => repeat (first | exact (Kd.R_reads' HO395.out).2.2 | (with_reducible refine Kd.C_alloc ?_ _) | (with_reducible refine Kd.C_drewN ?_ _) | (with_reducible refine Kd.C_drew ?_))); (case side4 => exact (Kd.R_reads' HO395.out).2.1); rintro e w' ⟨rfl, ⟨nd, rfl⟩⟩; refine ⟨_, rfl, ?_⟩))
      go_ret
      exact ⟨by first | rfl | (simp [errW_none, errW_some] <;> rfl) | (simp [*, errW_none, errW_some] <;> rfl), by repeat (first | (with_reducible first | exact HB.out | apply below_alloc | apply pw_below_drewN | apply below_drew1) | exact HB.out)⟩
    · rw [if_neg c6] at H
      have c6b0 : (t396 != t397) = false := by simpa using c6
      (try (have c6b1 : decide (t396 = t397) = true := by simpa using c6))
      (try (have c6b2 : (t396 == t397) = true := by simpa using c6))
      clear c6
      replace H := Option.bind_eq_some_iff.mp H
      obtain ⟨⟨t398, t399⟩, A100, H⟩ := H
      replace H : ((impl_NamedTriangle.f (⟨#[115, 111, 109, 101]⟩ : ByteArray)).bind fun bt402 => ((impl_FirstThen.f k bt402.1 t388 t398 t390 t391).bind fun t406 => (if t406 = true then ((impl_SecondThen.f k bt402.1 t388 t398 t390 t391).bind fun t407 => (laws_FnSecondThen.j0 k t388 t390 t391 t398 bt402.1 (!t407))) else (laws_FnSecondThen.j0 k t388 t390 t391 t398 bt402.1 false)))) = some r := H
      have A10 := Aside0.mk A100
      clear A100
      replace H := Option.bind_eq_some_iff.mp H
      obtain ⟨⟨t402, t403⟩, A110, H⟩ := H
      replace H : ((impl_FirstThen.f k t402 t388 t398 t390 t391).bind fun t406 => (if t406 = true then ((impl_SecondThen.f k t402 t388 t398 t390 t391).bind fun t407 => (laws_FnSecondThen.j0 k t388 t390 t391 t398 t402 (!t407))) else (laws_FnSecondThen.j0 k t388 t390 t391 t398 t402 false))) = some r := H
      have A11 := Aside0.mk A110
      clear A110
      have HC12 := Aside0.mk H
      clear H
      go_enter Try.func15, Try.ntmps15
      go_upto_region 9 with (first | ((with_reducible refine gate_callee (f := 42) rfl ?_); refine goesL_ (some 18) rfl rfl Try.func42 (by kernel_rfl) rfl #[.slice A0 l0.length c0] rfl (by (try simp only [List.map_toArray, List.map_cons, List.map_nil]); first | done | rfl | (simp only [List.length_drop, List.length_take]; rfl)) ?_; (with_reducible refine (spec_DrawSecondThen.calls k _ _ l0 t387 t388 t389 t390 t391 _ ?side1 ?side2 A3.out).mono ?_); (case side1 => repeat (first | exact HR0.out | (with_reducible refine Kd.C_alloc ?_ _) | (with_reducible refine Kd.C_drewN ?_ _) | (with_reducible refine Kd.C_drew ?_))); (case side2 => exact HC0.out); rintro e w13 ⟨v392, v394, rfl, ho0, ho1, hb⟩; refine ⟨_, rfl, ?_⟩; have n0_ := Aside0.mk (Kd.R_lower ho0 (below_size (by repeat (first | (with_reducible first | exact HB.out | apply below_alloc | apply pw_below_drewN | apply below_drew1) | exact HB.out)))); have n1_ := Aside0.mk (Kd.R_lower ho1 (below_size (by repeat (first | (with_reducible first | exact HB.out | apply below_alloc | apply pw_below_drewN | apply below_drew1) | exact HB.out)))); have n2_ := Aside0.mk (below_step (by repeat (first | (with_reducible first | exact HB.out | apply below_alloc | apply pw_below_drewN | apply below_drew1) | exact HB.out)) hb); clear HB; have HO393 := n0_; have HO395 := n1_; have HB := n2_; clear n0_ n1_ n2_; (try clear hb); (try clear hb2); (try clear hk); (try clear hi); (try clear ho0); (try clear ho1); obtain ⟨Ao14, co14, eo14⟩ := Kd.R_slice HO393.out; subst eo14; obtain ⟨Ao15, co15, eo15⟩ := Kd.R_slice HO395.out; subst eo15) | ((with_reducible refine gate_callee (f := 34) rfl ?_); refine goesL_ (some 29) rfl rfl Try.func34 (by kernel_rfl) rfl #[.slice Ao14 t387.length co14, .int .i64 t388, .slice Ao15 t389.length co15, .int .i64 t390, .int .i64 t391] rfl (by (try simp only [List.map_toArray, List.map_cons, List.map_nil]); first | done | rfl | (simp only [List.length_drop, List.length_take]; rfl)) ?_; (with_reducible refine (impl_SecondThen.calls k _ _ t387 t388 _ _ t389 t390 t391 t396 _ ?side1 ?side2 ?side3 ?side4 A4.out).mono ?_); (case side1 => repeat (first | exact (Kd.R_reads' HO393.out).2.2 | (with_reducible refine Kd.C_alloc ?_ _) | (with_reducible refine Kd.C_drewN ?_ _) | (with_reducible refine Kd.C_drew ?_))); (case side2 => exact (Kd.R_reads' HO393.out).2.1); (case side3 => repeat (first | exact (Kd.R_reads' HO395.out).2.2 | (with_reducible refine Kd.C_alloc ?_ _) | (with_reducible refine Kd.C_drewN ?_ _) | (with_reducible refine Kd.C_drew ?_))); (case side4 => exact (Kd.R_reads' HO395.out).2.1); rintro e w' ⟨rfl, ⟨nd, rfl⟩⟩; refine ⟨_, rfl, ?_⟩) | ((with_reducible refine gate_callee (f := 33) rfl ?_); refine goesL_ (some 36) rfl rfl Try.func33 (by kernel_rfl) rfl #[.slice Ao14 t387.length co14, .int .i64 t388, .slice Ao15 t389.length co15, .int .i64 t390, .int .i64 t391] rfl (by (try simp only [List.map_toArray, List.map_cons, List.map_nil]); first | done | rfl | (simp only [List.length_drop, List.length_take]; rfl)) ?_; (with_reducible refine (spec_SecondThen.calls k _ _ t387 t388 _ _ t389 t390 t391 t397 _ ?side1 ?side2 ?side3 ?side4 A5.out).mono ?_); (case side1 => repeat (first | exact (Kd.R_reads' HO393.out).2.2 | (with_reducible refine Kd.C_alloc ?_ _) | (with_reducible refine Kd.C_drewN ?_ _) | (with_reducible refine Kd.C_drew ?_))); (case side2 => exact (Kd.R_reads' HO393.out).2.1); (case side3 => repeat (first | exact (Kd.R_reads' HO395.out).2.2 | (with_reducible refine Kd.C_alloc ?_ _) | (with_reducible refine Kd.C_drewN ?_ _) | (with_reducible refine Kd.C_drew ?_))); (case side4 => exact (Kd.R_reads' HO395.out).2.1); rintro e w' ⟨rfl, ⟨nd, rfl⟩⟩; refine ⟨_, rfl, ?_⟩) | ((with_reducible refine gate_callee (f := 43) rfl ?_); refine goesL_ (some 39) rfl rfl Try.func43 (by kernel_rfl) rfl #[.string (⟨#[101, 118, 101, 114, 121]⟩ : ByteArray)] rfl (by (try simp only [List.map_toArray, List.map_cons, List.map_nil]); first | done | rfl | (simp only [List.length_drop, List.length_take]; rfl)) ?_; (with_reducible refine (impl_NamedTriangle.calls (⟨#[101, 118, 101, 114, 121]⟩ : ByteArray) t398 t399 _ A10.out).mono ?_); rintro e w16 ⟨v400, rfl, ho0, hb⟩; refine ⟨_, rfl, ?_⟩; have n0_ := Aside0.mk (Kd.R_elder' (by (with_reducible repeat (first | apply Kd.R_alloc | apply Kd.R_drewN | apply Kd.R_drew)); exact HO393.out) (Kd.R_base ho0) hb); have n1_ := Aside0.mk (Kd.R_elder' (by (with_reducible repeat (first | apply Kd.R_alloc | apply Kd.R_drewN | apply Kd.R_drew)); exact HO395.out) (Kd.R_base ho0) hb); have n2_ := Aside0.mk (Kd.R_lower (Kd.R_new' (Kd.R_new' ho0 (Kd.R_lt (by (with_reducible repeat (first | apply Kd.R_alloc | apply Kd.R_drewN | apply Kd.R_drew)); exact HO393.out))) (Kd.R_lt (by (with_reducible repeat (first | apply Kd.R_alloc | apply Kd.R_drewN | apply Kd.R_drew)); exact HO395.out))) (below_size (by repeat (first | (with_reducible first | exact HB.out | apply below_alloc | apply pw_below_drewN | apply below_drew1) | exact HB.out)))); have n3_ := Aside0.mk (below_step (by repeat (first | (with_reducible first | exact HB.out | apply below_alloc | apply pw_below_drewN | apply below_drew1) | exact HB.out)) hb); clear HO393; clear HO395; clear HB; have HO393 := n0_; have HO395 := n1_; have HO401 := n2_; have HB := n3_; clear n0_ n1_ n2_ n3_; (try clear hb); (try clear hb2); (try clear hk); (try clear hi); (try clear ho0)) | ((with_reducible refine gate_callee (f := 43) rfl ?_); refine goesL_ (some 43) rfl rfl Try.func43 (by kernel_rfl) rfl #[.string (⟨#[115, 111, 109, 101]⟩ : ByteArray)] rfl (by (try simp only [List.map_toArray, List.map_cons, List.map_nil]); first | done | rfl | (simp only [List.length_drop, List.length_take]; rfl)) ?_; (with_reducible refine (impl_NamedTriangle.calls (⟨#[115, 111, 109, 101]⟩ : ByteArray) t402 t403 _ A11.out).mono ?_); rintro e w17 ⟨v404, rfl, ho0, hb⟩; refine ⟨_, rfl, ?_⟩; have n0_ := Aside0.mk (Kd.R_elder' (by (with_reducible repeat (first | apply Kd.R_alloc | apply Kd.R_drewN | apply Kd.R_drew)); exact HO393.out) (Kd.R_base ho0) hb); have n1_ := Aside0.mk (Kd.R_elder' (by (with_reducible repeat (first | apply Kd.R_alloc | apply Kd.R_drewN | apply Kd.R_drew)); exact HO395.out) (Kd.R_base ho0) hb); have n2_ := Aside0.mk (Kd.R_elder' (by (with_reducible repeat (first | apply Kd.R_alloc | apply Kd.R_drewN | apply Kd.R_drew)); exact HO401.out) (Kd.R_base ho0) hb); have n3_ := Aside0.mk (Kd.R_lower (Kd.R_new' (Kd.R_new' (Kd.R_new' ho0 (Kd.R_lt (by (with_reducible repeat (first | apply Kd.R_alloc | apply Kd.R_drewN | apply Kd.R_drew)); exact HO393.out))) (Kd.R_lt (by (with_reducible repeat (first | apply Kd.R_alloc | apply Kd.R_drewN | apply Kd.R_drew)); exact HO395.out))) (Kd.R_lt (by (with_reducible repeat (first | apply Kd.R_alloc | apply Kd.R_drewN | apply Kd.R_drew)); exact HO401.out))) (below_size (by repeat (first | (with_reducible first | exact HB.out | apply below_alloc | apply pw_below_drewN | apply below_drew1) | exact HB.out)))); have n4_ := Aside0.mk (below_step (by repeat (first | (with_reducible first | exact HB.out | apply below_alloc | apply pw_below_drewN | apply below_drew1) | exact HB.out)) hb); clear HO393; clear HO395; clear HO401; clear HB; have HO393 := n0_; have HO395 := n1_; have HO401 := n2_; have HO405 := n3_; have HB := n4_; clear n0_ n1_ n2_ n3_ n4_; (try clear hb); (try clear hb2); (try clear hk); (try clear hi); (try clear ho0)))
      (try simp only [Act.put, List.setIfInBounds_toArray, List.set_cons_zero, List.set_cons_succ])
      go_cut [60] (fun v60 wc => ∃ (kq : Nat) (x60_11 : Bool), v60 = .bool x60_11 ∧ Aside0 (laws_FnSecondThen.j0 kq t388 t390 t391 t398 t402 x60_11 = some r) ∧ Aside0 (kq ≤ k) ∧ Aside0 (Kd.R (Kd.int .i64) 3 wc w.heap.size (fun k_ => some k_ ≠ (v404 : Value).ownBlock) v400 t398) ∧ Aside0 (Kd.R (Kd.int .i64) 3 wc w.heap.size (fun k_ => some k_ ≠ (v400 : Value).ownBlock) v404 t402) ∧ Aside0 (Below w.heap.size w wc))
      case first =>
        have H := HC12.out
        clear HC12
        replace H := Option.bind_eq_some_iff.mp H
        obtain ⟨t406, A180, H⟩ := H
        replace H : (if t406 = true then ((impl_SecondThen.f k t402 t388 t398 t390 t391).bind fun t407 => (laws_FnSecondThen.j0 k t388 t390 t391 t398 t402 (!t407))) else (laws_FnSecondThen.j0 k t388 t390 t391 t398 t402 false)) = some r := H
        have A18 := Aside0.mk A180
        clear A180
        by_cases c19 : t406 = true
        · subst c19
          have H1 : ((impl_SecondThen.f k t402 t388 t398 t390 t391).bind fun t407 => (laws_FnSecondThen.j0 k t388 t390 t391 t398 t402 (!t407))) = some r := by rw [if_pos rfl] at H; exact H
          clear H
          have H := H1
          clear H1
          replace H := Option.bind_eq_some_iff.mp H
          obtain ⟨t407, A200, H⟩ := H
          replace H : (laws_FnSecondThen.j0 k t388 t390 t391 t398 t402 (!t407)) = some r := H
          have A20 := Aside0.mk A200
          clear A200
          have H' := Aside0.mk H
          clear H
          obtain ⟨Ao21, co21, eo21⟩ := Kd.R_slice HO405.out
          subst eo21
          obtain ⟨Ao22, co22, eo22⟩ := Kd.R_slice HO401.out
          subst eo22
          go_wp2_with (first | ((with_reducible refine gate_callee (f := 32) rfl ?_); refine goesL_ (some 51) rfl rfl Try.func32 (by kernel_rfl) rfl #[.slice Ao21 t402.length co21, .int .i64 t388, .slice Ao22 t398.length co22, .int .i64 t390, .int .i64 t391] rfl (by (try simp only [List.map_toArray, List.map_cons, List.map_nil]); first | done | rfl | (simp only [List.length_drop, List.length_take]; rfl)) ?_; (with_reducible refine (impl_FirstThen.calls k _ _ t402 t388 _ _ t398 t390 t391 true _ ?side1 ?side2 ?side3 ?side4 A18.out).mono ?_); (case side1 => repeat (first | exact (Kd.R_reads' HO405.out).2.2 | (with_reducible refine Kd.C_alloc ?_ _) | (with_reducible refine Kd.C_drewN ?_ _) | (with_reducible refine Kd.C_drew ?_))); (case side2 => exact (Kd.R_reads' HO405.out).2.1); (case side3 => repeat (first | exact (Kd.R_reads' HO401.out).2.2 | (with_reducible refine Kd.C_alloc ?_ _) | (with_reducible refine Kd.C_drewN ?_ _) | (with_reducible refine Kd.C_drew ?_))); (case side4 => exact (Kd.R_reads' HO401.out).2.1); rintro e w' ⟨rfl, ⟨nd, rfl⟩⟩; refine ⟨_, rfl, ?_⟩) | (go_at_call 34; (with_reducible refine (impl_SecondThen.calls k _ _ t402 t388 _ _ t398 t390 t391 t407 _ ?side1 ?side2 ?side3 ?side4 A20.out).mono ?_); (case side1 => repeat (first | exact (Kd.R_reads' HO405.out).2.2 | (with_reducible refine Kd.C_alloc ?_ _) | (with_reducible refine Kd.C_drewN ?_ _) | (with_reducible refine Kd.C_drew ?_))); (case side2 => exact (Kd.R_reads' HO405.out).2.1); (case side3 => repeat (first | exact (Kd.R_reads' HO401.out).2.2 | (with_reducible refine Kd.C_alloc ?_ _) | (with_reducible refine Kd.C_drewN ?_ _) | (with_reducible refine Kd.C_drew ?_))); (case side4 => exact (Kd.R_reads' HO401.out).2.1); rintro e w' ⟨rfl, ⟨nd, rfl⟩⟩))
          go_meet
          case rel => exact ⟨_, (!t407), (by first | rfl | (simp; done) | (simp [*]; done)), H', ⟨by first | omega | exact Nat.le_refl _⟩, ⟨by (with_reducible repeat (first | apply Kd.R_alloc | apply Kd.R_drewN | apply Kd.R_drew)); exact Kd.R_mono HO401.out (fun _ hk => hk.2)⟩, ⟨by (with_reducible repeat (first | apply Kd.R_alloc | apply Kd.R_drewN | apply Kd.R_drew)); exact Kd.R_mono HO405.out (fun _ hk => hk.2)⟩, ⟨by repeat (first | (with_reducible first | exact HB.out | apply below_alloc | apply pw_below_drewN | apply below_drew1) | exact HB.out)⟩⟩
        · replace c19 := Bool.eq_false_iff.mpr c19
          subst c19
          have H1 : (laws_FnSecondThen.j0 k t388 t390 t391 t398 t402 false) = some r := by rw [if_neg (show ¬ (false = true) by decide)] at H; exact H
          clear H
          have H := H1
          clear H1
          have H' := Aside0.mk H
          clear H
          obtain ⟨Ao23, co23, eo23⟩ := Kd.R_slice HO405.out
          subst eo23
          obtain ⟨Ao24, co24, eo24⟩ := Kd.R_slice HO401.out
          subst eo24
          go_wp2_with (first | ((with_reducible refine gate_callee (f := 32) rfl ?_); refine goesL_ (some 51) rfl rfl Try.func32 (by kernel_rfl) rfl #[.slice Ao23 t402.length co23, .int .i64 t388, .slice Ao24 t398.length co24, .int .i64 t390, .int .i64 t391] rfl (by (try simp only [List.map_toArray, List.map_cons, List.map_nil]); first | done | rfl | (simp only [List.length_drop, List.length_take]; rfl)) ?_; (with_reducible refine (impl_FirstThen.calls k _ _ t402 t388 _ _ t398 t390 t391 false _ ?side1 ?side2 ?side3 ?side4 A18.out).mono ?_); (case side1 => repeat (first | exact (Kd.R_reads' HO405.out).2.2 | (with_reducible refine Kd.C_alloc ?_ _) | (with_reducible refine Kd.C_drewN ?_ _) | (with_reducible refine Kd.C_drew ?_))); (case side2 => exact (Kd.R_reads' HO405.out).2.1); (case side3 => repeat (first | exact (Kd.R_reads' HO401.out).2.2 | (with_reducible refine Kd.C_alloc ?_ _) | (with_reducible refine Kd.C_drewN ?_ _) | (with_reducible refine Kd.C_drew ?_))); (case side4 => exact (Kd.R_reads' HO401.out).2.1); rintro e w' ⟨rfl, ⟨nd, rfl⟩⟩; refine ⟨_, rfl, ?_⟩))
          go_meet
          case rel => exact ⟨_, (false), (by first | rfl | (simp; done) | (simp [*]; done)), H', ⟨by first | omega | exact Nat.le_refl _⟩, ⟨by (with_reducible repeat (first | apply Kd.R_alloc | apply Kd.R_drewN | apply Kd.R_drew)); exact Kd.R_mono HO401.out (fun _ hk => hk.2)⟩, ⟨by (with_reducible repeat (first | apply Kd.R_alloc | apply Kd.R_drewN | apply Kd.R_drew)); exact Kd.R_mono HO405.out (fun _ hk => hk.2)⟩, ⟨by repeat (first | (with_reducible first | exact HB.out | apply below_alloc | apply pw_below_drewN | apply below_drew1) | exact HB.out)⟩⟩
      case rest =>
        clear HC12
        try clear c1
        try clear c2
        try clear c2b0
        try clear c2b1
        try clear p2
        try clear c3
        try clear c4
        try clear c6
        try clear c6b0
        try clear c6b1
        try clear c6b2
        try clear c15
        try clear c19
        obtain ⟨kq, x60_11, rfl, HA, HJ11, HO_9, HO_11, HB⟩ := hcut
        cases kq with
        | zero => exact absurd HA.out (by simp [laws_FnSecondThen.j0])
        | succ kj11 =>
          have H := HA.out
          clear HA
          simp only [laws_FnSecondThen.j0] at H
          by_cases c25 : x60_11 = true
          · subst c25
            have H1 : (some false) = some r := by rw [if_pos rfl] at H; exact H
            clear H
            have H := H1
            clear H1
            obtain rfl := Option.some.inj H
            go_wp2
            go_ret
            exact ⟨by first | rfl | (simp [errW_none, errW_some] <;> rfl) | (simp [*, errW_none, errW_some] <;> rfl), by repeat (first | (with_reducible first | exact HB.out | apply below_alloc | apply pw_below_drewN | apply below_drew1) | exact HB.out)⟩
          · replace c25 := Bool.eq_false_iff.mpr c25
            subst c25
            have H1 : ((impl_FirstThen.f kj11 t398 t388 t398 t390 t391).bind fun t408 => ((impl_SecondThen.f kj11 t398 t388 t398 t390 t391).bind fun t409 => (if (t408 == t409) = true then ((impl_FirstThen.f kj11 t402 t388 t402 t390 t391).bind fun t410 => ((impl_SecondThen.f kj11 t402 t388 t402 t390 t391).bind fun t411 => (if (t410 == t411) = true then ((laws_alive.f).bind fun t412 => (some t412)) else (some false)))) else (some false)))) = some r := by rw [if_neg (show ¬ (false = true) by decide)] at H; exact H
            clear H
            have H := H1
            clear H1
            replace H := Option.bind_eq_some_iff.mp H
            obtain ⟨t408, A260, H⟩ := H
            replace H : ((impl_SecondThen.f kj11 t398 t388 t398 t390 t391).bind fun t409 => (if (t408 == t409) = true then ((impl_FirstThen.f kj11 t402 t388 t402 t390 t391).bind fun t410 => ((impl_SecondThen.f kj11 t402 t388 t402 t390 t391).bind fun t411 => (if (t410 == t411) = true then ((laws_alive.f).bind fun t412 => (some t412)) else (some false)))) else (some false))) = some r := H
            have A26 := Aside0.mk A260
            clear A260
            replace H := Option.bind_eq_some_iff.mp H
            obtain ⟨t409, A270, H⟩ := H
            replace H : (if (t408 == t409) = true then ((impl_FirstThen.f kj11 t402 t388 t402 t390 t391).bind fun t410 => ((impl_SecondThen.f kj11 t402 t388 t402 t390 t391).bind fun t411 => (if (t410 == t411) = true then ((laws_alive.f).bind fun t412 => (some t412)) else (some false)))) else (some false)) = some r := H
            have A27 := Aside0.mk A270
            clear A270
            by_cases c28 : (t408 == t409) = true
            · rw [if_pos c28] at H
              have c28b0 : (t408 == t409) = true := c28
              (try (have c28b1 : decide (t408 = t409) = true := by simpa using c28))
              (try (have c28b2 : (t408 == t409) = true := by simpa using c28))
              clear c28
              replace H := Option.bind_eq_some_iff.mp H
              obtain ⟨t410, A290, H⟩ := H
              replace H : ((impl_SecondThen.f kj11 t402 t388 t402 t390 t391).bind fun t411 => (if (t410 == t411) = true then ((laws_alive.f).bind fun t412 => (some t412)) else (some false))) = some r := H
              have A29 := Aside0.mk A290
              clear A290
              replace H := Option.bind_eq_some_iff.mp H
              obtain ⟨t411, A300, H⟩ := H
              replace H : (if (t410 == t411) = true then ((laws_alive.f).bind fun t412 => (some t412)) else (some false)) = some r := H
              have A30 := Aside0.mk A300
              clear A300
              by_cases c31 : (t410 == t411) = true
              · rw [if_pos c31] at H
                have c31b0 : (t410 == t411) = true := c31
                (try (have c31b1 : decide (t410 = t411) = true := by simpa using c31))
                (try (have c31b2 : (t410 == t411) = true := by simpa using c31))
                clear c31
                replace H := Option.bind_eq_some_iff.mp H
                obtain ⟨t412, A320, H⟩ := H
                replace H : (some t412) = some r := H
                have A32 := Aside0.mk A320
                clear A320
                obtain rfl := Option.some.inj H
                obtain ⟨Ao33, co33, eo33⟩ := Kd.R_slice HO_9.out
                subst eo33
                go_wp2_with (first | ((with_reducible refine gate_callee (f := 32) rfl ?_); refine goesL_ (some 66) rfl rfl Try.func32 (by kernel_rfl) rfl #[.slice Ao33 t398.length co33, .int .i64 t388, .slice Ao33 t398.length co33, .int .i64 t390, .int .i64 t391] rfl (by (try simp only [List.map_toArray, List.map_cons, List.map_nil]); first | done | rfl | (simp only [List.length_drop, List.length_take]; rfl)) ?_; (with_reducible refine (impl_FirstThen.calls kj11 _ _ t398 t388 _ _ t398 t390 t391 t408 _ ?side1 ?side2 ?side3 ?side4 A26.out).mono ?_); (case side1 => repeat (first | exact (Kd.R_reads' HO_9.out).2.2 | (with_reducible refine Kd.C_alloc ?_ _) | (with_reducible refine Kd.C_drewN ?_ _) | (with_reducible refine Kd.C_drew ?_))); (case side2 => exact (Kd.R_reads' HO_9.out).2.1); (case side3 => repeat (first | exact (Kd.R_reads' HO_9.out).2.2 | (with_reducible refine Kd.C_alloc ?_ _) | (with_reducible refine Kd.C_drewN ?_ _) | (with_reducible refine Kd.C_drew ?_))); (case side4 => exact (Kd.R_reads' HO_9.out).2.1); rintro e w' ⟨rfl, ⟨nd, rfl⟩⟩; refine ⟨_, rfl, ?_⟩) | ((with_reducible refine gate_callee (f := 34) rfl ?_); refine goesL_ (some 72) rfl rfl Try.func34 (by kernel_rfl) rfl #[.slice Ao33 t398.length co33, .int .i64 t388, .slice Ao33 t398.length co33, .int .i64 t390, .int .i64 t391] rfl (by (try simp only [List.map_toArray, List.map_cons, List.map_nil]); first | done | rfl | (simp only [List.length_drop, List.length_take]; rfl)) ?_; (with_reducible refine (impl_SecondThen.calls kj11 _ _ t398 t388 _ _ t398 t390 t391 t409 _ ?side1 ?side2 ?side3 ?side4 A27.out).mono ?_); (case side1 => repeat (first | exact (Kd.R_reads' HO_9.out).2.2 | (with_reducible refine Kd.C_alloc ?_ _) | (with_reducible refine Kd.C_drewN ?_ _) | (with_reducible refine Kd.C_drew ?_))); (case side2 => exact (Kd.R_reads' HO_9.out).2.1); (case side3 => repeat (first | exact (Kd.R_reads' HO_9.out).2.2 | (with_reducible refine Kd.C_alloc ?_ _) | (with_reducible refine Kd.C_drewN ?_ _) | (with_reducible refine Kd.C_drew ?_))); (case side4 => exact (Kd.R_reads' HO_9.out).2.1); rintro e w' ⟨rfl, ⟨nd, rfl⟩⟩; refine ⟨_, rfl, ?_⟩; obtain ⟨Ao34, co34, eo34⟩ := Kd.R_slice HO_11.out; subst eo34) | (go_at_call 32; (with_reducible refine (impl_FirstThen.calls kj11 _ _ t402 t388 _ _ t402 t390 t391 t410 _ ?side1 ?side2 ?side3 ?side4 A29.out).mono ?_); (case side1 => repeat (first | exact (Kd.R_reads' HO_11.out).2.2 | (with_reducible refine Kd.C_alloc ?_ _) | (with_reducible refine Kd.C_drewN ?_ _) | (with_reducible refine Kd.C_drew ?_))); (case side2 => exact (Kd.R_reads' HO_11.out).2.1); (case side3 => repeat (first | exact (Kd.R_reads' HO_11.out).2.2 | (with_reducible refine Kd.C_alloc ?_ _) | (with_reducible refine Kd.C_drewN ?_ _) | (with_reducible refine Kd.C_drew ?_))); (case side4 => exact (Kd.R_reads' HO_11.out).2.1); rintro e w' ⟨rfl, ⟨nd, rfl⟩⟩) | (go_at_call 34; (with_reducible refine (impl_SecondThen.calls kj11 _ _ t402 t388 _ _ t402 t390 t391 t411 _ ?side1 ?side2 ?side3 ?side4 A30.out).mono ?_); (case side1 => repeat (first | exact (Kd.R_reads' HO_11.out).2.2 | (with_reducible refine Kd.C_alloc ?_ _) | (with_reducible refine Kd.C_drewN ?_ _) | (with_reducible refine Kd.C_drew ?_))); (case side2 => exact (Kd.R_reads' HO_11.out).2.1); (case side3 => repeat (first | exact (Kd.R_reads' HO_11.out).2.2 | (with_reducible refine Kd.C_alloc ?_ _) | (with_reducible refine Kd.C_drewN ?_ _) | (with_reducible refine Kd.C_drew ?_))); (case side4 => exact (Kd.R_reads' HO_11.out).2.1); rintro e w' ⟨rfl, ⟨nd, rfl⟩⟩) | (go_at_call 24; (with_reducible refine (laws_alive.calls  t412 _ A32.out).mono ?_); rintro e w' ⟨rfl, ⟨nd, rfl⟩⟩))
                go_ret
                exact ⟨by first | rfl | (simp [errW_none, errW_some] <;> rfl) | (simp [*, errW_none, errW_some] <;> rfl), by repeat (first | (with_reducible first | exact HB.out | apply below_alloc | apply pw_below_drewN | apply below_drew1) | exact HB.out)⟩
              · rw [if_neg c31] at H
                have c31b0 : (t410 == t411) = false := by simpa using c31
                (try (have c31b1 : decide (t410 = t411) = false := by simpa using c31))
                (try (have c31b2 : (t410 == t411) = false := by simpa using c31))
                (try (have c31b3 : ¬ (t410 = t411) := by simpa using c31))
                clear c31
                obtain rfl := Option.some.inj H
                obtain ⟨Ao35, co35, eo35⟩ := Kd.R_slice HO_9.out
                subst eo35
                go_wp2_with (first | ((with_reducible refine gate_callee (f := 32) rfl ?_); refine goesL_ (some 66) rfl rfl Try.func32 (by kernel_rfl) rfl #[.slice Ao35 t398.length co35, .int .i64 t388, .slice Ao35 t398.length co35, .int .i64 t390, .int .i64 t391] rfl (by (try simp only [List.map_toArray, List.map_cons, List.map_nil]); first | done | rfl | (simp only [List.length_drop, List.length_take]; rfl)) ?_; (with_reducible refine (impl_FirstThen.calls kj11 _ _ t398 t388 _ _ t398 t390 t391 t408 _ ?side1 ?side2 ?side3 ?side4 A26.out).mono ?_); (case side1 => repeat (first | exact (Kd.R_reads' HO_9.out).2.2 | (with_reducible refine Kd.C_alloc ?_ _) | (with_reducible refine Kd.C_drewN ?_ _) | (with_reducible refine Kd.C_drew ?_))); (case side2 => exact (Kd.R_reads' HO_9.out).2.1); (case side3 => repeat (first | exact (Kd.R_reads' HO_9.out).2.2 | (with_reducible refine Kd.C_alloc ?_ _) | (with_reducible refine Kd.C_drewN ?_ _) | (with_reducible refine Kd.C_drew ?_))); (case side4 => exact (Kd.R_reads' HO_9.out).2.1); rintro e w' ⟨rfl, ⟨nd, rfl⟩⟩; refine ⟨_, rfl, ?_⟩) | ((with_reducible refine gate_callee (f := 34) rfl ?_); refine goesL_ (some 72) rfl rfl Try.func34 (by kernel_rfl) rfl #[.slice Ao35 t398.length co35, .int .i64 t388, .slice Ao35 t398.length co35, .int .i64 t390, .int .i64 t391] rfl (by (try simp only [List.map_toArray, List.map_cons, List.map_nil]); first | done | rfl | (simp only [List.length_drop, List.length_take]; rfl)) ?_; (with_reducible refine (impl_SecondThen.calls kj11 _ _ t398 t388 _ _ t398 t390 t391 t409 _ ?side1 ?side2 ?side3 ?side4 A27.out).mono ?_); (case side1 => repeat (first | exact (Kd.R_reads' HO_9.out).2.2 | (with_reducible refine Kd.C_alloc ?_ _) | (with_reducible refine Kd.C_drewN ?_ _) | (with_reducible refine Kd.C_drew ?_))); (case side2 => exact (Kd.R_reads' HO_9.out).2.1); (case side3 => repeat (first | exact (Kd.R_reads' HO_9.out).2.2 | (with_reducible refine Kd.C_alloc ?_ _) | (with_reducible refine Kd.C_drewN ?_ _) | (with_reducible refine Kd.C_drew ?_))); (case side4 => exact (Kd.R_reads' HO_9.out).2.1); rintro e w' ⟨rfl, ⟨nd, rfl⟩⟩; refine ⟨_, rfl, ?_⟩; obtain ⟨Ao36, co36, eo36⟩ := Kd.R_slice HO_11.out; subst eo36) | (go_at_call 32; (with_reducible refine (impl_FirstThen.calls kj11 _ _ t402 t388 _ _ t402 t390 t391 t410 _ ?side1 ?side2 ?side3 ?side4 A29.out).mono ?_); (case side1 => repeat (first | exact (Kd.R_reads' HO_11.out).2.2 | (with_reducible refine Kd.C_alloc ?_ _) | (with_reducible refine Kd.C_drewN ?_ _) | (with_reducible refine Kd.C_drew ?_))); (case side2 => exact (Kd.R_reads' HO_11.out).2.1); (case side3 => repeat (first | exact (Kd.R_reads' HO_11.out).2.2 | (with_reducible refine Kd.C_alloc ?_ _) | (with_reducible refine Kd.C_drewN ?_ _) | (with_reducible refine Kd.C_drew ?_))); (case side4 => exact (Kd.R_reads' HO_11.out).2.1); rintro e w' ⟨rfl, ⟨nd, rfl⟩⟩) | (go_at_call 34; (with_reducible refine (impl_SecondThen.calls kj11 _ _ t402 t388 _ _ t402 t390 t391 t411 _ ?side1 ?side2 ?side3 ?side4 A30.out).mono ?_); (case side1 => repeat (first | exact (Kd.R_reads' HO_11.out).2.2 | (with_reducible refine Kd.C_alloc ?_ _) | (with_reducible refine Kd.C_drewN ?_ _) | (with_reducible refine Kd.C_drew ?_))); (case side2 => exact (Kd.R_reads' HO_11.out).2.1); (case side3 => repeat (first | exact (Kd.R_reads' HO_11.out).2.2 | (with_reducible refine Kd.C_alloc ?_ _) | (with_reducible refine Kd.C_drewN ?_ _) | (with_reducible refine Kd.C_drew ?_))); (case side4 => exact (Kd.R_reads' HO_11.out).2.1); rintro e w' ⟨rfl, ⟨nd, rfl⟩⟩))
                go_ret
                exact ⟨by first | rfl | (simp [errW_none, errW_some] <;> rfl) | (simp [*, errW_none, errW_some] <;> rfl), by repeat (first | (with_reducible first | exact HB.out | apply below_alloc | apply pw_below_drewN | apply below_drew1) | exact HB.out)⟩
            · rw [if_neg c28] at H
              have c28b0 : (t408 == t409) = false := by simpa using c28
              (try (have c28b1 : decide (t408 = t409) = false := by simpa using c28))
              (try (have c28b2 : (t408 == t409) = false := by simpa using c28))
              (try (have c28b3 : ¬ (t408 = t409) := by simpa using c28))
              clear c28
              obtain rfl := Option.some.inj H
              obtain ⟨Ao37, co37, eo37⟩ := Kd.R_slice HO_9.out
              subst eo37
              go_wp2_with (first | ((with_reducible refine gate_callee (f := 32) rfl ?_); refine goesL_ (some 66) rfl rfl Try.func32 (by kernel_rfl) rfl #[.slice Ao37 t398.length co37, .int .i64 t388, .slice Ao37 t398.length co37, .int .i64 t390, .int .i64 t391] rfl (by (try simp only [List.map_toArray, List.map_cons, List.map_nil]); first | done | rfl | (simp only [List.length_drop, List.length_take]; rfl)) ?_; (with_reducible refine (impl_FirstThen.calls kj11 _ _ t398 t388 _ _ t398 t390 t391 t408 _ ?side1 ?side2 ?side3 ?side4 A26.out).mono ?_); (case side1 => repeat (first | exact (Kd.R_reads' HO_9.out).2.2 | (with_reducible refine Kd.C_alloc ?_ _) | (with_reducible refine Kd.C_drewN ?_ _) | (with_reducible refine Kd.C_drew ?_))); (case side2 => exact (Kd.R_reads' HO_9.out).2.1); (case side3 => repeat (first | exact (Kd.R_reads' HO_9.out).2.2 | (with_reducible refine Kd.C_alloc ?_ _) | (with_reducible refine Kd.C_drewN ?_ _) | (with_reducible refine Kd.C_drew ?_))); (case side4 => exact (Kd.R_reads' HO_9.out).2.1); rintro e w' ⟨rfl, ⟨nd, rfl⟩⟩; refine ⟨_, rfl, ?_⟩) | ((with_reducible refine gate_callee (f := 34) rfl ?_); refine goesL_ (some 72) rfl rfl Try.func34 (by kernel_rfl) rfl #[.slice Ao37 t398.length co37, .int .i64 t388, .slice Ao37 t398.length co37, .int .i64 t390, .int .i64 t391] rfl (by (try simp only [List.map_toArray, List.map_cons, List.map_nil]); first | done | rfl | (simp only [List.length_drop, List.length_take]; rfl)) ?_; (with_reducible refine (impl_SecondThen.calls kj11 _ _ t398 t388 _ _ t398 t390 t391 t409 _ ?side1 ?side2 ?side3 ?side4 A27.out).mono ?_); (case side1 => repeat (first | exact (Kd.R_reads' HO_9.out).2.2 | (with_reducible refine Kd.C_alloc ?_ _) | (with_reducible refine Kd.C_drewN ?_ _) | (with_reducible refine Kd.C_drew ?_))); (case side2 => exact (Kd.R_reads' HO_9.out).2.1); (case side3 => repeat (first | exact (Kd.R_reads' HO_9.out).2.2 | (with_reducible refine Kd.C_alloc ?_ _) | (with_reducible refine Kd.C_drewN ?_ _) | (with_reducible refine Kd.C_drew ?_))); (case side4 => exact (Kd.R_reads' HO_9.out).2.1); rintro e w' ⟨rfl, ⟨nd, rfl⟩⟩; refine ⟨_, rfl, ?_⟩))
              go_ret
              exact ⟨by first | rfl | (simp [errW_none, errW_some] <;> rfl) | (simp [*, errW_none, errW_some] <;> rfl), by repeat (first | (with_reducible first | exact HB.out | apply below_alloc | apply pw_below_drewN | apply below_drew1) | exact HB.out)⟩

/-- THE ONE PURE STATEMENT of laws_FnSecondThen: yours. -/
def laws_FnSecondThen.Pure : Prop := ∀ (l0 : List Int), l0.length ≤ maxLen → l0.length * 1 ≤ 140737488351232 → (∀ x ∈ l0, (Lit.int .u8 x).wf = true) → ∃ k, laws_FnSecondThen.f k l0 = some true
theorem laws_FnSecondThen.walk (P : laws_FnSecondThen.Pure) (a0 : Option Addr) (len0 cap0 : Nat) (z0 : List Int) (w : World) (w0 : (a0 = none ∧ len0 = 0 ∧ cap0 = 0 ∧ z0 = []) ∨ ∃ x, a0 = some x ∧ len0 ≤ cap0 ∧ cap0 ≤ maxLen ∧ z0.length = cap0 ∧ (∀ i, i < z0.length → w.cell? (x.add i) = some (.int .u8 (z0.getD i 0))) ∧ ∀ n ∈ z0, (Lit.int .u8 n).wf = true) (y0 : len0 * 1 ≤ 140737488351232) :
    Calls Try.prog 15 #[.slice a0 len0 cap0] w fun e w' => e = .returned (.bool true) ∧ Below w.heap.size w w' := by
  obtain ⟨l0, rfl, hr0, hm0, hw0, hc0⟩ := ReadsInt.ofRowC w0
  obtain ⟨k, h⟩ := P l0 hm0 y0 hw0
  refine (laws_FnSecondThen.calls k _ _ l0 true w (Kd.C_of_reads (d := (0 : Int)) (h1 := fun _ => rfl) hr0) hc0 h).mono ?_
  rintro e w' ⟨rfl, hd⟩
  exact ⟨rfl, hd⟩

end Go.Proofs.Ytmohhjbcdfhopaa.PFnSecondThen
