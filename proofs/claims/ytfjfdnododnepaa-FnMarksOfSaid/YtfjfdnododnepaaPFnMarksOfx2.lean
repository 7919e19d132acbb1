-- Written by a program of this session (wip/patch_print.py, over the kit's print) and not by hand; Lean checks every word.
import Derived.Test.YtfjfdnododnepaaPFnMarksOfx0
import Derived.Test.YtfjfdnododnepaaPFnMarksOfx1
namespace Go.Proofs.Ytfjfdnododnepaa.PFnMarksOf
open Go.RowKit Go.Proofs.YtfjfdnododnepaaW.PrintWords Go.Proofs.YtfjfdnododnepaaW.PrintLast Go.Proofs.YtfjfdnododnepaaW.PrintMore
attribute [local go_sem] max2_int min2_int max_two min_two max_three min_three max_four min_four   -- for this text's walks alone
set_option linter.unusedVariables false
set_option linter.unusedSimpArgs false

/-! ### impl_namedTriangle: function 73 -/
theorem impl_namedTriangle.tl (b : ByteArray) : b.toList = b.data.toList := ByteArray.toList_eq b
theorem impl_namedTriangle.end_ {x : Ending} {b c : Bool} (h : x = .returned (.bool b)) (e : b = c) : x = .returned (.bool c) := by rw [h, e]
set_option maxHeartbeats 8000000 in
set_option maxRecDepth 100000 in
theorem impl_namedTriangle.in1 (a s : Nat) (w : World) (hs : s ≤ a) (ha : a ≤ 5) :
    Calls Try.prog 86 #[.int .i64 a, .int .i64 s] w fun e w' => e = .returned (.bool (decide (s = a))) ∧ Drawn0 w w' := by
  have g0 : (0 : Int) ≤ (a : Int) := by omega
  have g1 : (a : Int) ≤ 5 := by omega
  have g2 : (0 : Int) ≤ (s : Int) := by omega
  have g3 : (s : Int) ≤ 5 := by omega
  clear hs ha
  go_enter Try.func86, Try.ntmps86
  go_wp2
  go_ret
  exact ⟨impl_namedTriangle.end_ rfl (by rw [Bool.eq_iff_iff]; first | (simp; done) | (simp; omega) | skip), Drawn0.refl _⟩
set_option maxHeartbeats 8000000 in
set_option maxRecDepth 100000 in
theorem impl_namedTriangle.in2 (a s : Nat) (w : World) (hs : s ≤ a) (ha : a ≤ 5) :
    Calls Try.prog 87 #[.int .i64 a, .int .i64 s] w fun e w' => e = .returned (.bool (decide (0 < s))) ∧ Drawn0 w w' := by
  have g0 : (0 : Int) ≤ (a : Int) := by omega
  have g1 : (a : Int) ≤ 5 := by omega
  have g2 : (0 : Int) ≤ (s : Int) := by omega
  have g3 : (s : Int) ≤ 5 := by omega
  clear hs ha
  go_enter Try.func87, Try.ntmps87
  go_wp2
  go_ret
  exact ⟨impl_namedTriangle.end_ rfl (by rw [Bool.eq_iff_iff]; first | (simp; done) | (simp; omega) | skip), Drawn0.refl _⟩
set_option maxHeartbeats 8000000 in
set_option maxRecDepth 100000 in
theorem impl_namedTriangle.in3 (a s : Nat) (w : World) (hs : s ≤ a) (ha : a ≤ 5) :
    Calls Try.prog 88 #[.int .i64 a, .int .i64 s] w fun e w' => e = .returned (.bool (decide (s = 0))) ∧ Drawn0 w w' := by
  have g0 : (0 : Int) ≤ (a : Int) := by omega
  have g1 : (a : Int) ≤ 5 := by omega
  have g2 : (0 : Int) ≤ (s : Int) := by omega
  have g3 : (s : Int) ≤ 5 := by omega
  clear hs ha
  go_enter Try.func88, Try.ntmps88
  go_wp2
  go_ret
  exact ⟨impl_namedTriangle.end_ rfl (by rw [Bool.eq_iff_iff]; first | (simp; done) | (simp; omega) | skip), Drawn0.refl _⟩
set_option maxHeartbeats 8000000 in
set_option maxRecDepth 100000 in
theorem impl_namedTriangle.in4 (a s : Nat) (w : World) (hs : s ≤ a) (ha : a ≤ 5) :
    Calls Try.prog 89 #[.int .i64 a, .int .i64 s] w fun e w' => e = .returned (.bool (decide (a < 2 * s))) ∧ Drawn0 w w' := by
  have g0 : (0 : Int) ≤ (a : Int) := by omega
  have g1 : (a : Int) ≤ 5 := by omega
  have g2 : (0 : Int) ≤ (s : Int) := by omega
  have g3 : (s : Int) ≤ 5 := by omega
  clear hs ha
  go_enter Try.func89, Try.ntmps89
  go_wp2
  go_ret
  exact ⟨impl_namedTriangle.end_ rfl (by rw [Bool.eq_iff_iff]; first | (simp; done) | (simp; omega) | skip), Drawn0.refl _⟩
set_option maxHeartbeats 8000000 in
set_option maxRecDepth 100000 in
theorem impl_namedTriangle.in5 (a s : Nat) (w : World) (hs : s ≤ a) (ha : a ≤ 5) :
    Calls Try.prog 90 #[.int .i64 a, .int .i64 s] w fun e w' => e = .returned (.bool (decide (s % 2 = 0))) ∧ Drawn0 w w' := by
  have g0 : (0 : Int) ≤ (a : Int) := by omega
  have g1 : (a : Int) ≤ 5 := by omega
  have g2 : (0 : Int) ≤ (s : Int) := by omega
  have g3 : (s : Int) ≤ 5 := by omega
  clear hs ha
  go_enter Try.func90, Try.ntmps90
  go_wp2
  go_ret
  exact ⟨impl_namedTriangle.end_ rfl (by rw [Bool.eq_iff_iff]; first | (simp; done) | (simp; omega) | skip), Drawn0.refl _⟩
set_option maxHeartbeats 8000000 in
set_option maxRecDepth 100000 in
theorem impl_namedTriangle.in6 (g : Nat) (n : Int) (a s : Nat) (w : World) (hg : w.cell? ⟨g, 0, none⟩ = some (.int .i64 n)) (hn0 : -1000 ≤ n) (hn1 : n ≤ 1000) (hs : s ≤ a) (ha : a ≤ 5) :
    Calls Try.prog 92 #[.int .i64 a, .int .i64 s, .pointer (some ⟨g, 0, none⟩)] w fun e w' => e = .returned (.bool (decide (n ≤ (s : Int)))) ∧ Drawn0 w w' := by
  have g0 : (0 : Int) ≤ (a : Int) := by omega
  have g1 : (a : Int) ≤ 5 := by omega
  have g2 : (0 : Int) ≤ (s : Int) := by omega
  have g3 : (s : Int) ≤ 5 := by omega
  clear hs ha
  go_enter Try.func92, Try.ntmps92
  go_wp2
  go_ret
  exact ⟨impl_namedTriangle.end_ rfl (by rw [Bool.eq_iff_iff]; first | (simp; done) | (simp; omega) | skip), Drawn0.refl _⟩
set_option maxHeartbeats 8000000 in
set_option maxRecDepth 100000 in
theorem impl_namedTriangle.in7 (g : Nat) (n : Int) (a s : Nat) (w : World) (hg : w.cell? ⟨g, 0, none⟩ = some (.int .i64 n)) (hn0 : -1000 ≤ n) (hn1 : n ≤ 1000) (hs : s ≤ a) (ha : a ≤ 5) :
    Calls Try.prog 93 #[.int .i64 a, .int .i64 s, .pointer (some ⟨g, 0, none⟩)] w fun e w' => e = .returned (.bool (decide ((s : Int) = n))) ∧ Drawn0 w w' := by
  have g0 : (0 : Int) ≤ (a : Int) := by omega
  have g1 : (a : Int) ≤ 5 := by omega
  have g2 : (0 : Int) ≤ (s : Int) := by omega
  have g3 : (s : Int) ≤ 5 := by omega
  clear hs ha
  go_enter Try.func93, Try.ntmps93
  go_wp2
  go_ret
  exact ⟨impl_namedTriangle.end_ rfl (by rw [Bool.eq_iff_iff]; first | (simp; done) | (simp; omega) | skip), Drawn0.refl _⟩
set_option maxHeartbeats 8000000 in
set_option maxRecDepth 100000 in
theorem impl_namedTriangle.in8 (g : Nat) (n : Int) (a s : Nat) (w : World) (hg : w.cell? ⟨g, 0, none⟩ = some (.int .i64 n)) (hn0 : -1000 ≤ n) (hn1 : n ≤ 1000) (hs : s ≤ a) (ha : a ≤ 5) :
    Calls Try.prog 94 #[.int .i64 a, .int .i64 s, .pointer (some ⟨g, 0, none⟩)] w fun e w' => e = .returned (.bool (decide ((a : Int) - (s : Int) = n))) ∧ Drawn0 w w' := by
  have g0 : (0 : Int) ≤ (a : Int) := by omega
  have g1 : (a : Int) ≤ 5 := by omega
  have g2 : (0 : Int) ≤ (s : Int) := by omega
  have g3 : (s : Int) ≤ 5 := by omega
  clear hs ha
  go_enter Try.func94, Try.ntmps94
  go_wp2
  go_ret
  exact ⟨impl_namedTriangle.end_ rfl (by rw [Bool.eq_iff_iff]; first | (simp; done) | (simp; omega) | skip), Drawn0.refl _⟩
def impl_namedTriangle.p1 (a s : Nat) : Bool := decide (s = a)
def impl_namedTriangle.p2 (a s : Nat) : Bool := decide (0 < s)
def impl_namedTriangle.p3 (a s : Nat) : Bool := decide (s = 0)
def impl_namedTriangle.p4 (a s : Nat) : Bool := decide (a < 2 * s)
def impl_namedTriangle.p5 (a s : Nat) : Bool := decide (s % 2 = 0)
def impl_namedTriangle.p6 (n : Int) (a s : Nat) : Bool := decide (n ≤ (s : Int))
def impl_namedTriangle.p7 (n : Int) (a s : Nat) : Bool := decide ((s : Int) = n)
def impl_namedTriangle.p8 (n : Int) (a s : Nat) : Bool := decide ((a : Int) - (s : Int) = n)
def impl_namedTriangle.plain (x : ByteArray) : List Int × Bool := if x.toList = ([101, 118, 101, 114, 121] : List UInt8) then (impl_triangleBy.M impl_namedTriangle.p1, true) else if x.toList = ([115, 111, 109, 101] : List UInt8) then (impl_triangleBy.M impl_namedTriangle.p2, true) else if x.toList = ([110, 111] : List UInt8) then (impl_triangleBy.M impl_namedTriangle.p3, true) else if x.toList = ([109, 111, 115, 116] : List UInt8) then (impl_triangleBy.M impl_namedTriangle.p4, true) else if x.toList = ([101, 118, 101, 110] : List UInt8) then (impl_triangleBy.M impl_namedTriangle.p5, true) else ([], false)
def impl_namedTriangle.pick (x : ByteArray) (n1 : Int) (b1 : Bool) (n2 : Int) (b2 : Bool) (n3 : Int) (b3 : Bool) : List Int × Bool := if b3 = true then (impl_triangleBy.M (impl_namedTriangle.p8 n3), true) else if b2 = true then (impl_triangleBy.M (impl_namedTriangle.p7 n2), true) else if b1 = true then (impl_triangleBy.M (impl_namedTriangle.p6 n1), true) else impl_namedTriangle.plain x
def impl_namedTriangle.f (x : ByteArray) : Option (List Int × Bool) := (impl_countIn.f x (⟨#[97, 116, 108, 101, 97, 115, 116]⟩ : ByteArray) 1 5).bind fun q6 => (impl_countIn.f x (⟨#[106, 117, 115, 116]⟩ : ByteArray) 0 5).bind fun q7 => (impl_countIn.f x (⟨#[97, 108, 108, 98, 117, 116]⟩ : ByteArray) 0 5).bind fun q8 => if -1000 ≤ q6.1 ∧ q6.1 ≤ 1000 ∧ -1000 ≤ q7.1 ∧ q7.1 ≤ 1000 ∧ -1000 ≤ q8.1 ∧ q8.1 ≤ 1000 then some (impl_namedTriangle.pick x q6.1 q6.2 q7.1 q7.2 q8.1 q8.2) else none
theorem impl_namedTriangle.tri1 (w : World) : Calls Try.prog 95 #[.func (.func 86) #[] #[]] w fun e w' => ∃ v0_ : Value, e = .returned (v0_) ∧ Kd.R (Kd.int .i64) 3 w' w.heap.size (fun _ => True) v0_ (impl_triangleBy.M impl_namedTriangle.p1) ∧ Below w.heap.size w w' :=
  impl_triangleBy.calls 86 #[] impl_namedTriangle.p1 w (fun args wx => enters_ Try.func86 (by kernel_rfl) rfl args wx) (fun wx _ a s hs ha => impl_namedTriangle.in1 a s wx hs ha)
theorem impl_namedTriangle.tri2 (w : World) : Calls Try.prog 95 #[.func (.func 87) #[] #[]] w fun e w' => ∃ v0_ : Value, e = .returned (v0_) ∧ Kd.R (Kd.int .i64) 3 w' w.heap.size (fun _ => True) v0_ (impl_triangleBy.M impl_namedTriangle.p2) ∧ Below w.heap.size w w' :=
  impl_triangleBy.calls 87 #[] impl_namedTriangle.p2 w (fun args wx => enters_ Try.func87 (by kernel_rfl) rfl args wx) (fun wx _ a s hs ha => impl_namedTriangle.in2 a s wx hs ha)
theorem impl_namedTriangle.tri3 (w : World) : Calls Try.prog 95 #[.func (.func 88) #[] #[]] w fun e w' => ∃ v0_ : Value, e = .returned (v0_) ∧ Kd.R (Kd.int .i64) 3 w' w.heap.size (fun _ => True) v0_ (impl_triangleBy.M impl_namedTriangle.p3) ∧ Below w.heap.size w w' :=
  impl_triangleBy.calls 88 #[] impl_namedTriangle.p3 w (fun args wx => enters_ Try.func88 (by kernel_rfl) rfl args wx) (fun wx _ a s hs ha => impl_namedTriangle.in3 a s wx hs ha)
theorem impl_namedTriangle.tri4 (w : World) : Calls Try.prog 95 #[.func (.func 89) #[] #[]] w fun e w' => ∃ v0_ : Value, e = .returned (v0_) ∧ Kd.R (Kd.int .i64) 3 w' w.heap.size (fun _ => True) v0_ (impl_triangleBy.M impl_namedTriangle.p4) ∧ Below w.heap.size w w' :=
  impl_triangleBy.calls 89 #[] impl_namedTriangle.p4 w (fun args wx => enters_ Try.func89 (by kernel_rfl) rfl args wx) (fun wx _ a s hs ha => impl_namedTriangle.in4 a s wx hs ha)
theorem impl_namedTriangle.tri5 (w : World) : Calls Try.prog 95 #[.func (.func 90) #[] #[]] w fun e w' => ∃ v0_ : Value, e = .returned (v0_) ∧ Kd.R (Kd.int .i64) 3 w' w.heap.size (fun _ => True) v0_ (impl_triangleBy.M impl_namedTriangle.p5) ∧ Below w.heap.size w w' :=
  impl_triangleBy.calls 90 #[] impl_namedTriangle.p5 w (fun args wx => enters_ Try.func90 (by kernel_rfl) rfl args wx) (fun wx _ a s hs ha => impl_namedTriangle.in5 a s wx hs ha)
theorem impl_namedTriangle.tri6 (g : Nat) (n : Int) (hn0 : -1000 ≤ n) (hn1 : n ≤ 1000) (w : World) (hg : w.cell? ⟨g, 0, none⟩ = some (.int .i64 n)) (hlt : g < w.heap.size) : Calls Try.prog 95 #[.func (.func 92) #[] #[.pointer (some ⟨g, 0, none⟩)]] w fun e w' => ∃ v0_ : Value, e = .returned (v0_) ∧ Kd.R (Kd.int .i64) 3 w' w.heap.size (fun _ => True) v0_ (impl_triangleBy.M (impl_namedTriangle.p6 n)) ∧ Below w.heap.size w w' :=
  impl_triangleBy.calls 92 #[.pointer (some ⟨g, 0, none⟩)] (impl_namedTriangle.p6 n) w (fun args wx => enters_ Try.func92 (by kernel_rfl) rfl args wx) (fun wx hx a s hs ha => impl_namedTriangle.in6 g n a s wx ((hx.cell (p := ⟨g, 0, none⟩) hlt).trans hg) hn0 hn1 hs ha)
theorem impl_namedTriangle.tri7 (g : Nat) (n : Int) (hn0 : -1000 ≤ n) (hn1 : n ≤ 1000) (w : World) (hg : w.cell? ⟨g, 0, none⟩ = some (.int .i64 n)) (hlt : g < w.heap.size) : Calls Try.prog 95 #[.func (.func 93) #[] #[.pointer (some ⟨g, 0, none⟩)]] w fun e w' => ∃ v0_ : Value, e = .returned (v0_) ∧ Kd.R (Kd.int .i64) 3 w' w.heap.size (fun _ => True) v0_ (impl_triangleBy.M (impl_namedTriangle.p7 n)) ∧ Below w.heap.size w w' :=
  impl_triangleBy.calls 93 #[.pointer (some ⟨g, 0, none⟩)] (impl_namedTriangle.p7 n) w (fun args wx => enters_ Try.func93 (by kernel_rfl) rfl args wx) (fun wx hx a s hs ha => impl_namedTriangle.in7 g n a s wx ((hx.cell (p := ⟨g, 0, none⟩) hlt).trans hg) hn0 hn1 hs ha)
theorem impl_namedTriangle.tri8 (g : Nat) (n : Int) (hn0 : -1000 ≤ n) (hn1 : n ≤ 1000) (w : World) (hg : w.cell? ⟨g, 0, none⟩ = some (.int .i64 n)) (hlt : g < w.heap.size) : Calls Try.prog 95 #[.func (.func 94) #[] #[.pointer (some ⟨g, 0, none⟩)]] w fun e w' => ∃ v0_ : Value, e = .returned (v0_) ∧ Kd.R (Kd.int .i64) 3 w' w.heap.size (fun _ => True) v0_ (impl_triangleBy.M (impl_namedTriangle.p8 n)) ∧ Below w.heap.size w w' :=
  impl_triangleBy.calls 94 #[.pointer (some ⟨g, 0, none⟩)] (impl_namedTriangle.p8 n) w (fun args wx => enters_ Try.func94 (by kernel_rfl) rfl args wx) (fun wx hx a s hs ha => impl_namedTriangle.in8 g n a s wx ((hx.cell (p := ⟨g, 0, none⟩) hlt).trans hg) hn0 hn1 hs ha)
theorem impl_namedTriangle.notNil (f : Fn) (a b : Array Value) (w : World) : (Go.binOp .eql 43 (.func f a b) .nilFunc).run Try.prog w = Result.ok (.bool false) w := by kernel_rfl
theorem impl_namedTriangle.isNil (w : World) : (Go.binOp .eql 43 .nilFunc .nilFunc).run Try.prog w = Result.ok (.bool true) w := by kernel_rfl
theorem impl_namedTriangle.keep {w W : World} {n : Int} (h : Below (w.alloc (.cells #[.int .i64 n] 3)).heap.size (w.alloc (.cells #[.int .i64 n] 3)) W) : W.cell? ⟨w.heap.size, 0, none⟩ = some (.int .i64 n) := by
  rw [h.cell (p := ⟨w.heap.size, 0, none⟩) (by simp), World.cell?_alloc_at _ _ _ _ rfl]; rfl
theorem impl_namedTriangle.keeplt {w W : World} {o : Obj} (h : Below (w.alloc o).heap.size (w.alloc o) W) : w.heap.size < W.heap.size := by
  have := h.size; simp at this; omega
set_option maxHeartbeats 8000000 in
set_option maxRecDepth 100000 in
theorem impl_namedTriangle.way1 (x : ByteArray) (n1 n2 n3 : Int) (hx : x.toList = ([101, 118, 101, 114, 121] : List UInt8)) (h1 : impl_countIn.f x (⟨#[97, 116, 108, 101, 97, 115, 116]⟩ : ByteArray) 1 5 = some (n1, false)) (h2 : impl_countIn.f x (⟨#[106, 117, 115, 116]⟩ : ByteArray) 0 5 = some (n2, false)) (h3 : impl_countIn.f x (⟨#[97, 108, 108, 98, 117, 116]⟩ : ByteArray) 0 5 = some (n3, false)) (l1 : -1000 ≤ n1) (m1 : n1 ≤ 1000) (l2 : -1000 ≤ n2) (m2 : n2 ≤ 1000) (l3 : -1000 ≤ n3) (m3 : n3 ≤ 1000) (w : World) :
    Calls Try.prog 73 #[.string x] w fun e w' => ∃ v0_ : Value, e = .returned (.tuple #[v0_, .bool true]) ∧ Kd.R (Kd.int .i64) 3 w' w.heap.size (fun _ => True) v0_ (impl_triangleBy.M impl_namedTriangle.p1) ∧ Below w.heap.size w w' := by
  have A1 := Aside0.mk h1
  have A2 := Aside0.mk h2
  have A3 := Aside0.mk h3
  have L1 := Aside0.mk (And.intro l1 m1)
  have L2 := Aside0.mk (And.intro l2 m2)
  have L3 := Aside0.mk (And.intro l3 m3)
  clear h1 h2 h3 l1 m1 l2 m2 l3 m3
  have hmf : ∀ (fn : Fn) (first cap : Array Value) (w : World), (Instr.makeFunc fn first cap).run Try.prog w = .ok (.func fn first cap) w := fun _ _ _ _ => rfl
  have hnf := impl_namedTriangle.notNil
  have hnn := impl_namedTriangle.isNil
  go_enter Try.func73, Try.ntmps73
  go_wp2_with (first | (go_at_call 91; (with_reducible refine (impl_countIn.calls x (⟨#[97, 116, 108, 101, 97, 115, 116]⟩ : ByteArray) 1 5 n1 false _ A1.out).mono ?_); rintro e w1 ⟨rfl, hd1⟩) | (go_at_call 91; (with_reducible refine (impl_countIn.calls x (⟨#[106, 117, 115, 116]⟩ : ByteArray) 0 5 n2 false _ A2.out).mono ?_); rintro e w2 ⟨rfl, hd2⟩) | (go_at_call 91; (with_reducible refine (impl_countIn.calls x (⟨#[97, 108, 108, 98, 117, 116]⟩ : ByteArray) 0 5 n3 false _ A3.out).mono ?_); rintro e w3 ⟨rfl, hd3⟩) | (go_at_call 95; (with_reducible refine (impl_namedTriangle.tri1 _).mono ?_); rintro e w4 ⟨v0_, rfl, hR, hB⟩))
  go_ret2
  exact ⟨_, rfl, Kd.R_lower hR (below_size (below_alloc (below_step (below_alloc (below_step (below_alloc hd1.below _) hd2.below) _) hd3.below) _)), below_step (below_alloc (below_step (below_alloc (below_step (below_alloc hd1.below _) hd2.below) _) hd3.below) _) hB⟩
set_option maxHeartbeats 8000000 in
set_option maxRecDepth 100000 in
theorem impl_namedTriangle.way2 (x : ByteArray) (n1 n2 n3 : Int) (hx : x.toList = ([115, 111, 109, 101] : List UInt8)) (h1 : impl_countIn.f x (⟨#[97, 116, 108, 101, 97, 115, 116]⟩ : ByteArray) 1 5 = some (n1, false)) (h2 : impl_countIn.f x (⟨#[106, 117, 115, 116]⟩ : ByteArray) 0 5 = some (n2, false)) (h3 : impl_countIn.f x (⟨#[97, 108, 108, 98, 117, 116]⟩ : ByteArray) 0 5 = some (n3, false)) (l1 : -1000 ≤ n1) (m1 : n1 ≤ 1000) (l2 : -1000 ≤ n2) (m2 : n2 ≤ 1000) (l3 : -1000 ≤ n3) (m3 : n3 ≤ 1000) (w : World) :
    Calls Try.prog 73 #[.string x] w fun e w' => ∃ v0_ : Value, e = .returned (.tuple #[v0_, .bool true]) ∧ Kd.R (Kd.int .i64) 3 w' w.heap.size (fun _ => True) v0_ (impl_triangleBy.M impl_namedTriangle.p2) ∧ Below w.heap.size w w' := by
  have A1 := Aside0.mk h1
  have A2 := Aside0.mk h2
  have A3 := Aside0.mk h3
  have L1 := Aside0.mk (And.intro l1 m1)
  have L2 := Aside0.mk (And.intro l2 m2)
  have L3 := Aside0.mk (And.intro l3 m3)
  clear h1 h2 h3 l1 m1 l2 m2 l3 m3
  have hmf : ∀ (fn : Fn) (first cap : Array Value) (w : World), (Instr.makeFunc fn first cap).run Try.prog w = .ok (.func fn first cap) w := fun _ _ _ _ => rfl
  have hnf := impl_namedTriangle.notNil
  have hnn := impl_namedTriangle.isNil
  go_enter Try.func73, Try.ntmps73
  go_wp2_with (first | (go_at_call 91; (with_reducible refine (impl_countIn.calls x (⟨#[97, 116, 108, 101, 97, 115, 116]⟩ : ByteArray) 1 5 n1 false _ A1.out).mono ?_); rintro e w1 ⟨rfl, hd1⟩) | (go_at_call 91; (with_reducible refine (impl_countIn.calls x (⟨#[106, 117, 115, 116]⟩ : ByteArray) 0 5 n2 false _ A2.out).mono ?_); rintro e w2 ⟨rfl, hd2⟩) | (go_at_call 91; (with_reducible refine (impl_countIn.calls x (⟨#[97, 108, 108, 98, 117, 116]⟩ : ByteArray) 0 5 n3 false _ A3.out).mono ?_); rintro e w3 ⟨rfl, hd3⟩) | (go_at_call 95; (with_reducible refine (impl_namedTriangle.tri2 _).mono ?_); rintro e w4 ⟨v0_, rfl, hR, hB⟩))
  go_ret2
  exact ⟨_, rfl, Kd.R_lower hR (below_size (below_alloc (below_step (below_alloc (below_step (below_alloc hd1.below _) hd2.below) _) hd3.below) _)), below_step (below_alloc (below_step (below_alloc (below_step (below_alloc hd1.below _) hd2.below) _) hd3.below) _) hB⟩
set_option maxHeartbeats 8000000 in
set_option maxRecDepth 100000 in
theorem impl_namedTriangle.way3 (x : ByteArray) (n1 n2 n3 : Int) (hx : x.toList = ([110, 111] : List UInt8)) (h1 : impl_countIn.f x (⟨#[97, 116, 108, 101, 97, 115, 116]⟩ : ByteArray) 1 5 = some (n1, false)) (h2 : impl_countIn.f x (⟨#[106, 117, 115, 116]⟩ : ByteArray) 0 5 = some (n2, false)) (h3 : impl_countIn.f x (⟨#[97, 108, 108, 98, 117, 116]⟩ : ByteArray) 0 5 = some (n3, false)) (l1 : -1000 ≤ n1) (m1 : n1 ≤ 1000) (l2 : -1000 ≤ n2) (m2 : n2 ≤ 1000) (l3 : -1000 ≤ n3) (m3 : n3 ≤ 1000) (w : World) :
    Calls Try.prog 73 #[.string x] w fun e w' => ∃ v0_ : Value, e = .returned (.tuple #[v0_, .bool true]) ∧ Kd.R (Kd.int .i64) 3 w' w.heap.size (fun _ => True) v0_ (impl_triangleBy.M impl_namedTriangle.p3) ∧ Below w.heap.size w w' := by
  have A1 := Aside0.mk h1
  have A2 := Aside0.mk h2
  have A3 := Aside0.mk h3
  have L1 := Aside0.mk (And.intro l1 m1)
  have L2 := Aside0.mk (And.intro l2 m2)
  have L3 := Aside0.mk (And.intro l3 m3)
  clear h1 h2 h3 l1 m1 l2 m2 l3 m3
  have hmf : ∀ (fn : Fn) (first cap : Array Value) (w : World), (Instr.makeFunc fn first cap).run Try.prog w = .ok (.func fn first cap) w := fun _ _ _ _ => rfl
  have hnf := impl_namedTriangle.notNil
  have hnn := impl_namedTriangle.isNil
  go_enter Try.func73, Try.ntmps73
  go_wp2_with (first | (go_at_call 91; (with_reducible refine (impl_countIn.calls x (⟨#[97, 116, 108, 101, 97, 115, 116]⟩ : ByteArray) 1 5 n1 false _ A1.out).mono ?_); rintro e w1 ⟨rfl, hd1⟩) | (go_at_call 91; (with_reducible refine (impl_countIn.calls x (⟨#[106, 117, 115, 116]⟩ : ByteArray) 0 5 n2 false _ A2.out).mono ?_); rintro e w2 ⟨rfl, hd2⟩) | (go_at_call 91; (with_reducible refine (impl_countIn.calls x (⟨#[97, 108, 108, 98, 117, 116]⟩ : ByteArray) 0 5 n3 false _ A3.out).mono ?_); rintro e w3 ⟨rfl, hd3⟩) | (go_at_call 95; (with_reducible refine (impl_namedTriangle.tri3 _).mono ?_); rintro e w4 ⟨v0_, rfl, hR, hB⟩))
  go_ret2
  exact ⟨_, rfl, Kd.R_lower hR (below_size (below_alloc (below_step (below_alloc (below_step (below_alloc hd1.below _) hd2.below) _) hd3.below) _)), below_step (below_alloc (below_step (below_alloc (below_step (below_alloc hd1.below _) hd2.below) _) hd3.below) _) hB⟩
set_option maxHeartbeats 8000000 in
set_option maxRecDepth 100000 in
theorem impl_namedTriangle.way4 (x : ByteArray) (n1 n2 n3 : Int) (hx : x.toList = ([109, 111, 115, 116] : List UInt8)) (h1 : impl_countIn.f x (⟨#[97, 116, 108, 101, 97, 115, 116]⟩ : ByteArray) 1 5 = some (n1, false)) (h2 : impl_countIn.f x (⟨#[106, 117, 115, 116]⟩ : ByteArray) 0 5 = some (n2, false)) (h3 : impl_countIn.f x (⟨#[97, 108, 108, 98, 117, 116]⟩ : ByteArray) 0 5 = some (n3, false)) (l1 : -1000 ≤ n1) (m1 : n1 ≤ 1000) (l2 : -1000 ≤ n2) (m2 : n2 ≤ 1000) (l3 : -1000 ≤ n3) (m3 : n3 ≤ 1000) (w : World) :
    Calls Try.prog 73 #[.string x] w fun e w' => ∃ v0_ : Value, e = .returned (.tuple #[v0_, .bool true]) ∧ Kd.R (Kd.int .i64) 3 w' w.heap.size (fun _ => True) v0_ (impl_triangleBy.M impl_namedTriangle.p4) ∧ Below w.heap.size w w' := by
  have A1 := Aside0.mk h1
  have A2 := Aside0.mk h2
  have A3 := Aside0.mk h3
  have L1 := Aside0.mk (And.intro l1 m1)
  have L2 := Aside0.mk (And.intro l2 m2)
  have L3 := Aside0.mk (And.intro l3 m3)
  clear h1 h2 h3 l1 m1 l2 m2 l3 m3
  have hmf : ∀ (fn : Fn) (first cap : Array Value) (w : World), (Instr.makeFunc fn first cap).run Try.prog w = .ok (.func fn first cap) w := fun _ _ _ _ => rfl
  have hnf := impl_namedTriangle.notNil
  have hnn := impl_namedTriangle.isNil
  go_enter Try.func73, Try.ntmps73
  go_wp2_with (first | (go_at_call 91; (with_reducible refine (impl_countIn.calls x (⟨#[97, 116, 108, 101, 97, 115, 116]⟩ : ByteArray) 1 5 n1 false _ A1.out).mono ?_); rintro e w1 ⟨rfl, hd1⟩) | (go_at_call 91; (with_reducible refine (impl_countIn.calls x (⟨#[106, 117, 115, 116]⟩ : ByteArray) 0 5 n2 false _ A2.out).mono ?_); rintro e w2 ⟨rfl, hd2⟩) | (go_at_call 91; (with_reducible refine (impl_countIn.calls x (⟨#[97, 108, 108, 98, 117, 116]⟩ : ByteArray) 0 5 n3 false _ A3.out).mono ?_); rintro e w3 ⟨rfl, hd3⟩) | (go_at_call 95; (with_reducible refine (impl_namedTriangle.tri4 _).mono ?_); rintro e w4 ⟨v0_, rfl, hR, hB⟩))
  go_ret2
  exact ⟨_, rfl, Kd.R_lower hR (below_size (below_alloc (below_step (below_alloc (below_step (below_alloc hd1.below _) hd2.below) _) hd3.below) _)), below_step (below_alloc (below_step (below_alloc (below_step (below_alloc hd1.below _) hd2.below) _) hd3.below) _) hB⟩
set_option maxHeartbeats 8000000 in
set_option maxRecDepth 100000 in
theorem impl_namedTriangle.way5 (x : ByteArray) (n1 n2 n3 : Int) (hx : x.toList = ([101, 118, 101, 110] : List UInt8)) (h1 : impl_countIn.f x (⟨#[97, 116, 108, 101, 97, 115, 116]⟩ : ByteArray) 1 5 = some (n1, false)) (h2 : impl_countIn.f x (⟨#[106, 117, 115, 116]⟩ : ByteArray) 0 5 = some (n2, false)) (h3 : impl_countIn.f x (⟨#[97, 108, 108, 98, 117, 116]⟩ : ByteArray) 0 5 = some (n3, false)) (l1 : -1000 ≤ n1) (m1 : n1 ≤ 1000) (l2 : -1000 ≤ n2) (m2 : n2 ≤ 1000) (l3 : -1000 ≤ n3) (m3 : n3 ≤ 1000) (w : World) :
    Calls Try.prog 73 #[.string x] w fun e w' => ∃ v0_ : Value, e = .returned (.tuple #[v0_, .bool true]) ∧ Kd.R (Kd.int .i64) 3 w' w.heap.size (fun _ => True) v0_ (impl_triangleBy.M impl_namedTriangle.p5) ∧ Below w.heap.size w w' := by
  have A1 := Aside0.mk h1
  have A2 := Aside0.mk h2
  have A3 := Aside0.mk h3
  have L1 := Aside0.mk (And.intro l1 m1)
  have L2 := Aside0.mk (And.intro l2 m2)
  have L3 := Aside0.mk (And.intro l3 m3)
  clear h1 h2 h3 l1 m1 l2 m2 l3 m3
  have hmf : ∀ (fn : Fn) (first cap : Array Value) (w : World), (Instr.makeFunc fn first cap).run Try.prog w = .ok (.func fn first cap) w := fun _ _ _ _ => rfl
  have hnf := impl_namedTriangle.notNil
  have hnn := impl_namedTriangle.isNil
  go_enter Try.func73, Try.ntmps73
  go_wp2_with (first | (go_at_call 91; (with_reducible refine (impl_countIn.calls x (⟨#[97, 116, 108, 101, 97, 115, 116]⟩ : ByteArray) 1 5 n1 false _ A1.out).mono ?_); rintro e w1 ⟨rfl, hd1⟩) | (go_at_call 91; (with_reducible refine (impl_countIn.calls x (⟨#[106, 117, 115, 116]⟩ : ByteArray) 0 5 n2 false _ A2.out).mono ?_); rintro e w2 ⟨rfl, hd2⟩) | (go_at_call 91; (with_reducible refine (impl_countIn.calls x (⟨#[97, 108, 108, 98, 117, 116]⟩ : ByteArray) 0 5 n3 false _ A3.out).mono ?_); rintro e w3 ⟨rfl, hd3⟩) | (go_at_call 95; (with_reducible refine (impl_namedTriangle.tri5 _).mono ?_); rintro e w4 ⟨v0_, rfl, hR, hB⟩))
  go_ret2
  exact ⟨_, rfl, Kd.R_lower hR (below_size (below_alloc (below_step (below_alloc (below_step (below_alloc hd1.below _) hd2.below) _) hd3.below) _)), below_step (below_alloc (below_step (below_alloc (below_step (below_alloc hd1.below _) hd2.below) _) hd3.below) _) hB⟩
set_option maxHeartbeats 8000000 in
set_option maxRecDepth 100000 in
theorem impl_namedTriangle.way_false_false_false (x : ByteArray) (n1 n2 n3 : Int) (g1 : (x.toList == ([101, 118, 101, 114, 121] : List UInt8)) = false) (g2 : (x.toList == ([115, 111, 109, 101] : List UInt8)) = false) (g3 : (x.toList == ([110, 111] : List UInt8)) = false) (g4 : (x.toList == ([109, 111, 115, 116] : List UInt8)) = false) (g5 : (x.toList == ([101, 118, 101, 110] : List UInt8)) = false) (h1 : impl_countIn.f x (⟨#[97, 116, 108, 101, 97, 115, 116]⟩ : ByteArray) 1 5 = some (n1, false)) (h2 : impl_countIn.f x (⟨#[106, 117, 115, 116]⟩ : ByteArray) 0 5 = some (n2, false)) (h3 : impl_countIn.f x (⟨#[97, 108, 108, 98, 117, 116]⟩ : ByteArray) 0 5 = some (n3, false)) (l1 : -1000 ≤ n1) (m1 : n1 ≤ 1000) (l2 : -1000 ≤ n2) (m2 : n2 ≤ 1000) (l3 : -1000 ≤ n3) (m3 : n3 ≤ 1000) (w : World) :
    Calls Try.prog 73 #[.string x] w fun e w' => ∃ v0_ : Value, e = .returned (.tuple #[v0_, .bool false]) ∧ Kd.R (Kd.int .i64) 3 w' w.heap.size (fun _ => True) v0_ [] ∧ Below w.heap.size w w' := by
  have A1 := Aside0.mk h1
  have A2 := Aside0.mk h2
  have A3 := Aside0.mk h3
  have L1 := Aside0.mk (And.intro l1 m1)
  have L2 := Aside0.mk (And.intro l2 m2)
  have L3 := Aside0.mk (And.intro l3 m3)
  clear h1 h2 h3 l1 m1 l2 m2 l3 m3
  have hmf : ∀ (fn : Fn) (first cap : Array Value) (w : World), (Instr.makeFunc fn first cap).run Try.prog w = .ok (.func fn first cap) w := fun _ _ _ _ => rfl
  have hnf := impl_namedTriangle.notNil
  have hnn := impl_namedTriangle.isNil
  go_enter Try.func73, Try.ntmps73
  go_wp2_with (first | (go_at_call 91; (with_reducible refine (impl_countIn.calls x (⟨#[97, 116, 108, 101, 97, 115, 116]⟩ : ByteArray) 1 5 n1 false _ A1.out).mono ?_); rintro e w1 ⟨rfl, hd1⟩) | (go_at_call 91; (with_reducible refine (impl_countIn.calls x (⟨#[106, 117, 115, 116]⟩ : ByteArray) 0 5 n2 false _ A2.out).mono ?_); rintro e w2 ⟨rfl, hd2⟩) | (go_at_call 91; (with_reducible refine (impl_countIn.calls x (⟨#[97, 108, 108, 98, 117, 116]⟩ : ByteArray) 0 5 n3 false _ A3.out).mono ?_); rintro e w3 ⟨rfl, hd3⟩))
  go_ret2
  exact ⟨_, rfl, Kd.R_nil _ _ _ _ _, below_alloc (below_step (below_alloc (below_step (below_alloc hd1.below _) hd2.below) _) hd3.below) _⟩
set_option maxHeartbeats 8000000 in
set_option maxRecDepth 100000 in
theorem impl_namedTriangle.way_false_false_true (x : ByteArray) (n1 n2 n3 : Int) (g1 : (x.toList == ([101, 118, 101, 114, 121] : List UInt8)) = false) (g2 : (x.toList == ([115, 111, 109, 101] : List UInt8)) = false) (g3 : (x.toList == ([110, 111] : List UInt8)) = false) (g4 : (x.toList == ([109, 111, 115, 116] : List UInt8)) = false) (g5 : (x.toList == ([101, 118, 101, 110] : List UInt8)) = false) (h1 : impl_countIn.f x (⟨#[97, 116, 108, 101, 97, 115, 116]⟩ : ByteArray) 1 5 = some (n1, false)) (h2 : impl_countIn.f x (⟨#[106, 117, 115, 116]⟩ : ByteArray) 0 5 = some (n2, false)) (h3 : impl_countIn.f x (⟨#[97, 108, 108, 98, 117, 116]⟩ : ByteArray) 0 5 = some (n3, true)) (l1 : -1000 ≤ n1) (m1 : n1 ≤ 1000) (l2 : -1000 ≤ n2) (m2 : n2 ≤ 1000) (l3 : -1000 ≤ n3) (m3 : n3 ≤ 1000) (w : World) :
    Calls Try.prog 73 #[.string x] w fun e w' => ∃ v0_ : Value, e = .returned (.tuple #[v0_, .bool true]) ∧ Kd.R (Kd.int .i64) 3 w' w.heap.size (fun _ => True) v0_ (impl_triangleBy.M (impl_namedTriangle.p8 n3)) ∧ Below w.heap.size w w' := by
  have A1 := Aside0.mk h1
  have A2 := Aside0.mk h2
  have A3 := Aside0.mk h3
  have L1 := Aside0.mk (And.intro l1 m1)
  have L2 := Aside0.mk (And.intro l2 m2)
  have L3 := Aside0.mk (And.intro l3 m3)
  clear h1 h2 h3 l1 m1 l2 m2 l3 m3
  have hmf : ∀ (fn : Fn) (first cap : Array Value) (w : World), (Instr.makeFunc fn first cap).run Try.prog w = .ok (.func fn first cap) w := fun _ _ _ _ => rfl
  have hnf := impl_namedTriangle.notNil
  have hnn := impl_namedTriangle.isNil
  go_enter Try.func73, Try.ntmps73
  go_wp2_with (first | (go_at_call 91; (with_reducible refine (impl_countIn.calls x (⟨#[97, 116, 108, 101, 97, 115, 116]⟩ : ByteArray) 1 5 n1 false _ A1.out).mono ?_); rintro e w1 ⟨rfl, hd1⟩) | (go_at_call 91; (with_reducible refine (impl_countIn.calls x (⟨#[106, 117, 115, 116]⟩ : ByteArray) 0 5 n2 false _ A2.out).mono ?_); rintro e w2 ⟨rfl, hd2⟩) | (go_at_call 91; (with_reducible refine (impl_countIn.calls x (⟨#[97, 108, 108, 98, 117, 116]⟩ : ByteArray) 0 5 n3 true _ A3.out).mono ?_); rintro e w3 ⟨rfl, hd3⟩) | (go_at_call 95; refine (impl_namedTriangle.tri8 w3.heap.size n3 L3.out.1 L3.out.2 _ (impl_namedTriangle.keep (w := w3) (Below.refl _ _)) (impl_namedTriangle.keeplt (w := w3) (Below.refl _ _))).mono ?_; rintro e w4 ⟨v0_, rfl, hR, hB⟩))
  go_ret2
  exact ⟨_, rfl, Kd.R_lower hR (below_size (below_alloc (below_step (below_alloc (below_step (below_alloc hd1.below _) hd2.below) _) hd3.below) _)), below_step (below_alloc (below_step (below_alloc (below_step (below_alloc hd1.below _) hd2.below) _) hd3.below) _) hB⟩
set_option maxHeartbeats 8000000 in
set_option maxRecDepth 100000 in
theorem impl_namedTriangle.way_false_true_false (x : ByteArray) (n1 n2 n3 : Int) (g1 : (x.toList == ([101, 118, 101, 114, 121] : List UInt8)) = false) (g2 : (x.toList == ([115, 111, 109, 101] : List UInt8)) = false) (g3 : (x.toList == ([110, 111] : List UInt8)) = false) (g4 : (x.toList == ([109, 111, 115, 116] : List UInt8)) = false) (g5 : (x.toList == ([101, 118, 101, 110] : List UInt8)) = false) (h1 : impl_countIn.f x (⟨#[97, 116, 108, 101, 97, 115, 116]⟩ : ByteArray) 1 5 = some (n1, false)) (h2 : impl_countIn.f x (⟨#[106, 117, 115, 116]⟩ : ByteArray) 0 5 = some (n2, true)) (h3 : impl_countIn.f x (⟨#[97, 108, 108, 98, 117, 116]⟩ : ByteArray) 0 5 = some (n3, false)) (l1 : -1000 ≤ n1) (m1 : n1 ≤ 1000) (l2 : -1000 ≤ n2) (m2 : n2 ≤ 1000) (l3 : -1000 ≤ n3) (m3 : n3 ≤ 1000) (w : World) :
    Calls Try.prog 73 #[.string x] w fun e w' => ∃ v0_ : Value, e = .returned (.tuple #[v0_, .bool true]) ∧ Kd.R (Kd.int .i64) 3 w' w.heap.size (fun _ => True) v0_ (impl_triangleBy.M (impl_namedTriangle.p7 n2)) ∧ Below w.heap.size w w' := by
  have A1 := Aside0.mk h1
  have A2 := Aside0.mk h2
  have A3 := Aside0.mk h3
  have L1 := Aside0.mk (And.intro l1 m1)
  have L2 := Aside0.mk (And.intro l2 m2)
  have L3 := Aside0.mk (And.intro l3 m3)
  clear h1 h2 h3 l1 m1 l2 m2 l3 m3
  have hmf : ∀ (fn : Fn) (first cap : Array Value) (w : World), (Instr.makeFunc fn first cap).run Try.prog w = .ok (.func fn first cap) w := fun _ _ _ _ => rfl
  have hnf := impl_namedTriangle.notNil
  have hnn := impl_namedTriangle.isNil
  go_enter Try.func73, Try.ntmps73
  go_wp2_with (first | (go_at_call 91; (with_reducible refine (impl_countIn.calls x (⟨#[97, 116, 108, 101, 97, 115, 116]⟩ : ByteArray) 1 5 n1 false _ A1.out).mono ?_); rintro e w1 ⟨rfl, hd1⟩) | (go_at_call 91; (with_reducible refine (impl_countIn.calls x (⟨#[106, 117, 115, 116]⟩ : ByteArray) 0 5 n2 true _ A2.out).mono ?_); rintro e w2 ⟨rfl, hd2⟩) | (go_at_call 91; (with_reducible refine (impl_countIn.calls x (⟨#[97, 108, 108, 98, 117, 116]⟩ : ByteArray) 0 5 n3 false _ A3.out).mono ?_); rintro e w3 ⟨rfl, hd3⟩) | (go_at_call 95; refine (impl_namedTriangle.tri7 w2.heap.size n2 L2.out.1 L2.out.2 _ (impl_namedTriangle.keep (w := w2) (below_alloc hd3.below _)) (impl_namedTriangle.keeplt (w := w2) (below_alloc hd3.below _))).mono ?_; rintro e w4 ⟨v0_, rfl, hR, hB⟩))
  go_ret2
  exact ⟨_, rfl, Kd.R_lower hR (below_size (below_alloc (below_step (below_alloc (below_step (below_alloc hd1.below _) hd2.below) _) hd3.below) _)), below_step (below_alloc (below_step (below_alloc (below_step (below_alloc hd1.below _) hd2.below) _) hd3.below) _) hB⟩
set_option maxHeartbeats 8000000 in
set_option maxRecDepth 100000 in
theorem impl_namedTriangle.way_false_true_true (x : ByteArray) (n1 n2 n3 : Int) (g1 : (x.toList == ([101, 118, 101, 114, 121] : List UInt8)) = false) (g2 : (x.toList == ([115, 111, 109, 101] : List UInt8)) = false) (g3 : (x.toList == ([110, 111] : List UInt8)) = false) (g4 : (x.toList == ([109, 111, 115, 116] : List UInt8)) = false) (g5 : (x.toList == ([101, 118, 101, 110] : List UInt8)) = false) (h1 : impl_countIn.f x (⟨#[97, 116, 108, 101, 97, 115, 116]⟩ : ByteArray) 1 5 = some (n1, false)) (h2 : impl_countIn.f x (⟨#[106, 117, 115, 116]⟩ : ByteArray) 0 5 = some (n2, true)) (h3 : impl_countIn.f x (⟨#[97, 108, 108, 98, 117, 116]⟩ : ByteArray) 0 5 = some (n3, true)) (l1 : -1000 ≤ n1) (m1 : n1 ≤ 1000) (l2 : -1000 ≤ n2) (m2 : n2 ≤ 1000) (l3 : -1000 ≤ n3) (m3 : n3 ≤ 1000) (w : World) :
    Calls Try.prog 73 #[.string x] w fun e w' => ∃ v0_ : Value, e = .returned (.tuple #[v0_, .bool true]) ∧ Kd.R (Kd.int .i64) 3 w' w.heap.size (fun _ => True) v0_ (impl_triangleBy.M (impl_namedTriangle.p8 n3)) ∧ Below w.heap.size w w' := by
  have A1 := Aside0.mk h1
  have A2 := Aside0.mk h2
  have A3 := Aside0.mk h3
  have L1 := Aside0.mk (And.intro l1 m1)
  have L2 := Aside0.mk (And.intro l2 m2)
  have L3 := Aside0.mk (And.intro l3 m3)
  clear h1 h2 h3 l1 m1 l2 m2 l3 m3
  have hmf : ∀ (fn : Fn) (first cap : Array Value) (w : World), (Instr.makeFunc fn first cap).run Try.prog w = .ok (.func fn first cap) w := fun _ _ _ _ => rfl
  have hnf := impl_namedTriangle.notNil
  have hnn := impl_namedTriangle.isNil
  go_enter Try.func73, Try.ntmps73
  go_wp2_with (first | (go_at_call 91; (with_reducible refine (impl_countIn.calls x (⟨#[97, 116, 108, 101, 97, 115, 116]⟩ : ByteArray) 1 5 n1 false _ A1.out).mono ?_); rintro e w1 ⟨rfl, hd1⟩) | (go_at_call 91; (with_reducible refine (impl_countIn.calls x (⟨#[106, 117, 115, 116]⟩ : ByteArray) 0 5 n2 true _ A2.out).mono ?_); rintro e w2 ⟨rfl, hd2⟩) | (go_at_call 91; (with_reducible refine (impl_countIn.calls x (⟨#[97, 108, 108, 98, 117, 116]⟩ : ByteArray) 0 5 n3 true _ A3.out).mono ?_); rintro e w3 ⟨rfl, hd3⟩) | (go_at_call 95; refine (impl_namedTriangle.tri8 w3.heap.size n3 L3.out.1 L3.out.2 _ (impl_namedTriangle.keep (w := w3) (Below.refl _ _)) (impl_namedTriangle.keeplt (w := w3) (Below.refl _ _))).mono ?_; rintro e w4 ⟨v0_, rfl, hR, hB⟩))
  go_ret2
  exact ⟨_, rfl, Kd.R_lower hR (below_size (below_alloc (below_step (below_alloc (below_step (below_alloc hd1.below _) hd2.below) _) hd3.below) _)), below_step (below_alloc (below_step (below_alloc (below_step (below_alloc hd1.below _) hd2.below) _) hd3.below) _) hB⟩
set_option maxHeartbeats 8000000 in
set_option maxRecDepth 100000 in
theorem impl_namedTriangle.way_true_false_false (x : ByteArray) (n1 n2 n3 : Int) (g1 : (x.toList == ([101, 118, 101, 114, 121] : List UInt8)) = false) (g2 : (x.toList == ([115, 111, 109, 101] : List UInt8)) = false) (g3 : (x.toList == ([110, 111] : List UInt8)) = false) (g4 : (x.toList == ([109, 111, 115, 116] : List UInt8)) = false) (g5 : (x.toList == ([101, 118, 101, 110] : List UInt8)) = false) (h1 : impl_countIn.f x (⟨#[97, 116, 108, 101, 97, 115, 116]⟩ : ByteArray) 1 5 = some (n1, true)) (h2 : impl_countIn.f x (⟨#[106, 117, 115, 116]⟩ : ByteArray) 0 5 = some (n2, false)) (h3 : impl_countIn.f x (⟨#[97, 108, 108, 98, 117, 116]⟩ : ByteArray) 0 5 = some (n3, false)) (l1 : -1000 ≤ n1) (m1 : n1 ≤ 1000) (l2 : -1000 ≤ n2) (m2 : n2 ≤ 1000) (l3 : -1000 ≤ n3) (m3 : n3 ≤ 1000) (w : World) :
    Calls Try.prog 73 #[.string x] w fun e w' => ∃ v0_ : Value, e = .returned (.tuple #[v0_, .bool true]) ∧ Kd.R (Kd.int .i64) 3 w' w.heap.size (fun _ => True) v0_ (impl_triangleBy.M (impl_namedTriangle.p6 n1)) ∧ Below w.heap.size w w' := by
  have A1 := Aside0.mk h1
  have A2 := Aside0.mk h2
  have A3 := Aside0.mk h3
  have L1 := Aside0.mk (And.intro l1 m1)
  have L2 := Aside0.mk (And.intro l2 m2)
  have L3 := Aside0.mk (And.intro l3 m3)
  clear h1 h2 h3 l1 m1 l2 m2 l3 m3
  have hmf : ∀ (fn : Fn) (first cap : Array Value) (w : World), (Instr.makeFunc fn first cap).run Try.prog w = .ok (.func fn first cap) w := fun _ _ _ _ => rfl
  have hnf := impl_namedTriangle.notNil
  have hnn := impl_namedTriangle.isNil
  go_enter Try.func73, Try.ntmps73
  go_wp2_with (first | (go_at_call 91; (with_reducible refine (impl_countIn.calls x (⟨#[97, 116, 108, 101, 97, 115, 116]⟩ : ByteArray) 1 5 n1 true _ A1.out).mono ?_); rintro e w1 ⟨rfl, hd1⟩) | (go_at_call 91; (with_reducible refine (impl_countIn.calls x (⟨#[106, 117, 115, 116]⟩ : ByteArray) 0 5 n2 false _ A2.out).mono ?_); rintro e w2 ⟨rfl, hd2⟩) | (go_at_call 91; (with_reducible refine (impl_countIn.calls x (⟨#[97, 108, 108, 98, 117, 116]⟩ : ByteArray) 0 5 n3 false _ A3.out).mono ?_); rintro e w3 ⟨rfl, hd3⟩) | (go_at_call 95; refine (impl_namedTriangle.tri6 w1.heap.size n1 L1.out.1 L1.out.2 _ (impl_namedTriangle.keep (w := w1) (below_alloc (below_step (below_alloc hd2.below _) hd3.below) _)) (impl_namedTriangle.keeplt (w := w1) (below_alloc (below_step (below_alloc hd2.below _) hd3.below) _))).mono ?_; rintro e w4 ⟨v0_, rfl, hR, hB⟩))
  go_ret2
  exact ⟨_, rfl, Kd.R_lower hR (below_size (below_alloc (below_step (below_alloc (below_step (below_alloc hd1.below _) hd2.below) _) hd3.below) _)), below_step (below_alloc (below_step (below_alloc (below_step (below_alloc hd1.below _) hd2.below) _) hd3.below) _) hB⟩
set_option maxHeartbeats 8000000 in
set_option maxRecDepth 100000 in
theorem impl_namedTriangle.way_true_false_true (x : ByteArray) (n1 n2 n3 : Int) (g1 : (x.toList == ([101, 118, 101, 114, 121] : List UInt8)) = false) (g2 : (x.toList == ([115, 111, 109, 101] : List UInt8)) = false) (g3 : (x.toList == ([110, 111] : List UInt8)) = false) (g4 : (x.toList == ([109, 111, 115, 116] : List UInt8)) = false) (g5 : (x.toList == ([101, 118, 101, 110] : List UInt8)) = false) (h1 : impl_countIn.f x (⟨#[97, 116, 108, 101, 97, 115, 116]⟩ : ByteArray) 1 5 = some (n1, true)) (h2 : impl_countIn.f x (⟨#[106, 117, 115, 116]⟩ : ByteArray) 0 5 = some (n2, false)) (h3 : impl_countIn.f x (⟨#[97, 108, 108, 98, 117, 116]⟩ : ByteArray) 0 5 = some (n3, true)) (l1 : -1000 ≤ n1) (m1 : n1 ≤ 1000) (l2 : -1000 ≤ n2) (m2 : n2 ≤ 1000) (l3 : -1000 ≤ n3) (m3 : n3 ≤ 1000) (w : World) :
    Calls Try.prog 73 #[.string x] w fun e w' => ∃ v0_ : Value, e = .returned (.tuple #[v0_, .bool true]) ∧ Kd.R (Kd.int .i64) 3 w' w.heap.size (fun _ => True) v0_ (impl_triangleBy.M (impl_namedTriangle.p8 n3)) ∧ Below w.heap.size w w' := by
  have A1 := Aside0.mk h1
  have A2 := Aside0.mk h2
  have A3 := Aside0.mk h3
  have L1 := Aside0.mk (And.intro l1 m1)
  have L2 := Aside0.mk (And.intro l2 m2)
  have L3 := Aside0.mk (And.intro l3 m3)
  clear h1 h2 h3 l1 m1 l2 m2 l3 m3
  have hmf : ∀ (fn : Fn) (first cap : Array Value) (w : World), (Instr.makeFunc fn first cap).run Try.prog w = .ok (.func fn first cap) w := fun _ _ _ _ => rfl
  have hnf := impl_namedTriangle.notNil
  have hnn := impl_namedTriangle.isNil
  go_enter Try.func73, Try.ntmps73
  go_wp2_with (first | (go_at_call 91; (with_reducible refine (impl_countIn.calls x (⟨#[97, 116, 108, 101, 97, 115, 116]⟩ : ByteArray) 1 5 n1 true _ A1.out).mono ?_); rintro e w1 ⟨rfl, hd1⟩) | (go_at_call 91; (with_reducible refine (impl_countIn.calls x (⟨#[106, 117, 115, 116]⟩ : ByteArray) 0 5 n2 false _ A2.out).mono ?_); rintro e w2 ⟨rfl, hd2⟩) | (go_at_call 91; (with_reducible refine (impl_countIn.calls x (⟨#[97, 108, 108, 98, 117, 116]⟩ : ByteArray) 0 5 n3 true _ A3.out).mono ?_); rintro e w3 ⟨rfl, hd3⟩) | (go_at_call 95; refine (impl_namedTriangle.tri8 w3.heap.size n3 L3.out.1 L3.out.2 _ (impl_namedTriangle.keep (w := w3) (Below.refl _ _)) (impl_namedTriangle.keeplt (w := w3) (Below.refl _ _))).mono ?_; rintro e w4 ⟨v0_, rfl, hR, hB⟩))
  go_ret2
  exact ⟨_, rfl, Kd.R_lower hR (below_size (below_alloc (below_step (below_alloc (below_step (below_alloc hd1.below _) hd2.below) _) hd3.below) _)), below_step (below_alloc (below_step (below_alloc (below_step (below_alloc hd1.below _) hd2.below) _) hd3.below) _) hB⟩
set_option maxHeartbeats 8000000 in
set_option maxRecDepth 100000 in
theorem impl_namedTriangle.way_true_true_false (x : ByteArray) (n1 n2 n3 : Int) (g1 : (x.toList == ([101, 118, 101, 114, 121] : List UInt8)) = false) (g2 : (x.toList == ([115, 111, 109, 101] : List UInt8)) = false) (g3 : (x.toList == ([110, 111] : List UInt8)) = false) (g4 : (x.toList == ([109, 111, 115, 116] : List UInt8)) = false) (g5 : (x.toList == ([101, 118, 101, 110] : List UInt8)) = false) (h1 : impl_countIn.f x (⟨#[97, 116, 108, 101, 97, 115, 116]⟩ : ByteArray) 1 5 = some (n1, true)) (h2 : impl_countIn.f x (⟨#[106, 117, 115, 116]⟩ : ByteArray) 0 5 = some (n2, true)) (h3 : impl_countIn.f x (⟨#[97, 108, 108, 98, 117, 116]⟩ : ByteArray) 0 5 = some (n3, false)) (l1 : -1000 ≤ n1) (m1 : n1 ≤ 1000) (l2 : -1000 ≤ n2) (m2 : n2 ≤ 1000) (l3 : -1000 ≤ n3) (m3 : n3 ≤ 1000) (w : World) :
    Calls Try.prog 73 #[.string x] w fun e w' => ∃ v0_ : Value, e = .returned (.tuple #[v0_, .bool true]) ∧ Kd.R (Kd.int .i64) 3 w' w.heap.size (fun _ => True) v0_ (impl_triangleBy.M (impl_namedTriangle.p7 n2)) ∧ Below w.heap.size w w' := by
  have A1 := Aside0.mk h1
  have A2 := Aside0.mk h2
  have A3 := Aside0.mk h3
  have L1 := Aside0.mk (And.intro l1 m1)
  have L2 := Aside0.mk (And.intro l2 m2)
  have L3 := Aside0.mk (And.intro l3 m3)
  clear h1 h2 h3 l1 m1 l2 m2 l3 m3
  have hmf : ∀ (fn : Fn) (first cap : Array Value) (w : World), (Instr.makeFunc fn first cap).run Try.prog w = .ok (.func fn first cap) w := fun _ _ _ _ => rfl
  have hnf := impl_namedTriangle.notNil
  have hnn := impl_namedTriangle.isNil
  go_enter Try.func73, Try.ntmps73
  go_wp2_with (first | (go_at_call 91; (with_reducible refine (impl_countIn.calls x (⟨#[97, 116, 108, 101, 97, 115, 116]⟩ : ByteArray) 1 5 n1 true _ A1.out).mono ?_); rintro e w1 ⟨rfl, hd1⟩) | (go_at_call 91; (with_reducible refine (impl_countIn.calls x (⟨#[106, 117, 115, 116]⟩ : ByteArray) 0 5 n2 true _ A2.out).mono ?_); rintro e w2 ⟨rfl, hd2⟩) | (go_at_call 91; (with_reducible refine (impl_countIn.calls x (⟨#[97, 108, 108, 98, 117, 116]⟩ : ByteArray) 0 5 n3 false _ A3.out).mono ?_); rintro e w3 ⟨rfl, hd3⟩) | (go_at_call 95; refine (impl_namedTriangle.tri7 w2.heap.size n2 L2.out.1 L2.out.2 _ (impl_namedTriangle.keep (w := w2) (below_alloc hd3.below _)) (impl_namedTriangle.keeplt (w := w2) (below_alloc hd3.below _))).mono ?_; rintro e w4 ⟨v0_, rfl, hR, hB⟩))
  go_ret2
  exact ⟨_, rfl, Kd.R_lower hR (below_size (below_alloc (below_step (below_alloc (below_step (below_alloc hd1.below _) hd2.below) _) hd3.below) _)), below_step (below_alloc (below_step (below_alloc (below_step (below_alloc hd1.below _) hd2.below) _) hd3.below) _) hB⟩
set_option maxHeartbeats 8000000 in
set_option maxRecDepth 100000 in
theorem impl_namedTriangle.way_true_true_true (x : ByteArray) (n1 n2 n3 : Int) (g1 : (x.toList == ([101, 118, 101, 114, 121] : List UInt8)) = false) (g2 : (x.toList == ([115, 111, 109, 101] : List UInt8)) = false) (g3 : (x.toList == ([110, 111] : List UInt8)) = false) (g4 : (x.toList == ([109, 111, 115, 116] : List UInt8)) = false) (g5 : (x.toList == ([101, 118, 101, 110] : List UInt8)) = false) (h1 : impl_countIn.f x (⟨#[97, 116, 108, 101, 97, 115, 116]⟩ : ByteArray) 1 5 = some (n1, true)) (h2 : impl_countIn.f x (⟨#[106, 117, 115, 116]⟩ : ByteArray) 0 5 = some (n2, true)) (h3 : impl_countIn.f x (⟨#[97, 108, 108, 98, 117, 116]⟩ : ByteArray) 0 5 = some (n3, true)) (l1 : -1000 ≤ n1) (m1 : n1 ≤ 1000) (l2 : -1000 ≤ n2) (m2 : n2 ≤ 1000) (l3 : -1000 ≤ n3) (m3 : n3 ≤ 1000) (w : World) :
    Calls Try.prog 73 #[.string x] w fun e w' => ∃ v0_ : Value, e = .returned (.tuple #[v0_, .bool true]) ∧ Kd.R (Kd.int .i64) 3 w' w.heap.size (fun _ => True) v0_ (impl_triangleBy.M (impl_namedTriangle.p8 n3)) ∧ Below w.heap.size w w' := by
  have A1 := Aside0.mk h1
  have A2 := Aside0.mk h2
  have A3 := Aside0.mk h3
  have L1 := Aside0.mk (And.intro l1 m1)
  have L2 := Aside0.mk (And.intro l2 m2)
  have L3 := Aside0.mk (And.intro l3 m3)
  clear h1 h2 h3 l1 m1 l2 m2 l3 m3
  have hmf : ∀ (fn : Fn) (first cap : Array Value) (w : World), (Instr.makeFunc fn first cap).run Try.prog w = .ok (.func fn first cap) w := fun _ _ _ _ => rfl
  have hnf := impl_namedTriangle.notNil
  have hnn := impl_namedTriangle.isNil
  go_enter Try.func73, Try.ntmps73
  go_wp2_with (first | (go_at_call 91; (with_reducible refine (impl_countIn.calls x (⟨#[97, 116, 108, 101, 97, 115, 116]⟩ : ByteArray) 1 5 n1 true _ A1.out).mono ?_); rintro e w1 ⟨rfl, hd1⟩) | (go_at_call 91; (with_reducible refine (impl_countIn.calls x (⟨#[106, 117, 115, 116]⟩ : ByteArray) 0 5 n2 true _ A2.out).mono ?_); rintro e w2 ⟨rfl, hd2⟩) | (go_at_call 91; (with_reducible refine (impl_countIn.calls x (⟨#[97, 108, 108, 98, 117, 116]⟩ : ByteArray) 0 5 n3 true _ A3.out).mono ?_); rintro e w3 ⟨rfl, hd3⟩) | (go_at_call 95; refine (impl_namedTriangle.tri8 w3.heap.size n3 L3.out.1 L3.out.2 _ (impl_namedTriangle.keep (w := w3) (Below.refl _ _)) (impl_namedTriangle.keeplt (w := w3) (Below.refl _ _))).mono ?_; rintro e w4 ⟨v0_, rfl, hR, hB⟩))
  go_ret2
  exact ⟨_, rfl, Kd.R_lower hR (below_size (below_alloc (below_step (below_alloc (below_step (below_alloc hd1.below _) hd2.below) _) hd3.below) _)), below_step (below_alloc (below_step (below_alloc (below_step (below_alloc hd1.below _) hd2.below) _) hd3.below) _) hB⟩
theorem impl_namedTriangle.of_list {x : ByteArray} {l : List UInt8} (h : x.toList = l) : x = ⟨l.toArray⟩ := by
  rw [impl_namedTriangle.tl] at h
  obtain ⟨d⟩ := x
  simp only at h
  rw [← h]
theorem impl_namedTriangle.c1_1 : impl_countIn.f (⟨#[101, 118, 101, 114, 121]⟩ : ByteArray) (⟨#[97, 116, 108, 101, 97, 115, 116]⟩ : ByteArray) 1 5 = some (0, false) := by decide +kernel
theorem impl_namedTriangle.c1_2 : impl_countIn.f (⟨#[101, 118, 101, 114, 121]⟩ : ByteArray) (⟨#[106, 117, 115, 116]⟩ : ByteArray) 0 5 = some (0, false) := by decide +kernel
theorem impl_namedTriangle.c1_3 : impl_countIn.f (⟨#[101, 118, 101, 114, 121]⟩ : ByteArray) (⟨#[97, 108, 108, 98, 117, 116]⟩ : ByteArray) 0 5 = some (0, false) := by decide +kernel
theorem impl_namedTriangle.c2_1 : impl_countIn.f (⟨#[115, 111, 109, 101]⟩ : ByteArray) (⟨#[97, 116, 108, 101, 97, 115, 116]⟩ : ByteArray) 1 5 = some (0, false) := by decide +kernel
theorem impl_namedTriangle.c2_2 : impl_countIn.f (⟨#[115, 111, 109, 101]⟩ : ByteArray) (⟨#[106, 117, 115, 116]⟩ : ByteArray) 0 5 = some (0, false) := by decide +kernel
theorem impl_namedTriangle.c2_3 : impl_countIn.f (⟨#[115, 111, 109, 101]⟩ : ByteArray) (⟨#[97, 108, 108, 98, 117, 116]⟩ : ByteArray) 0 5 = some (0, false) := by decide +kernel
theorem impl_namedTriangle.c3_1 : impl_countIn.f (⟨#[110, 111]⟩ : ByteArray) (⟨#[97, 116, 108, 101, 97, 115, 116]⟩ : ByteArray) 1 5 = some (0, false) := by decide +kernel
theorem impl_namedTriangle.c3_2 : impl_countIn.f (⟨#[110, 111]⟩ : ByteArray) (⟨#[106, 117, 115, 116]⟩ : ByteArray) 0 5 = some (0, false) := by decide +kernel
theorem impl_namedTriangle.c3_3 : impl_countIn.f (⟨#[110, 111]⟩ : ByteArray) (⟨#[97, 108, 108, 98, 117, 116]⟩ : ByteArray) 0 5 = some (0, false) := by decide +kernel
theorem impl_namedTriangle.c4_1 : impl_countIn.f (⟨#[109, 111, 115, 116]⟩ : ByteArray) (⟨#[97, 116, 108, 101, 97, 115, 116]⟩ : ByteArray) 1 5 = some (0, false) := by decide +kernel
theorem impl_namedTriangle.c4_2 : impl_countIn.f (⟨#[109, 111, 115, 116]⟩ : ByteArray) (⟨#[106, 117, 115, 116]⟩ : ByteArray) 0 5 = some (0, false) := by decide +kernel
theorem impl_namedTriangle.c4_3 : impl_countIn.f (⟨#[109, 111, 115, 116]⟩ : ByteArray) (⟨#[97, 108, 108, 98, 117, 116]⟩ : ByteArray) 0 5 = some (0, false) := by decide +kernel
theorem impl_namedTriangle.c5_1 : impl_countIn.f (⟨#[101, 118, 101, 110]⟩ : ByteArray) (⟨#[97, 116, 108, 101, 97, 115, 116]⟩ : ByteArray) 1 5 = some (0, false) := by decide +kernel
theorem impl_namedTriangle.c5_2 : impl_countIn.f (⟨#[101, 118, 101, 110]⟩ : ByteArray) (⟨#[106, 117, 115, 116]⟩ : ByteArray) 0 5 = some (0, false) := by decide +kernel
theorem impl_namedTriangle.c5_3 : impl_countIn.f (⟨#[101, 118, 101, 110]⟩ : ByteArray) (⟨#[97, 108, 108, 98, 117, 116]⟩ : ByteArray) 0 5 = some (0, false) := by decide +kernel
theorem impl_namedTriangle.calls (a0 : ByteArray) (r1 : List Int) (r2 : Bool) (w : World) (h : impl_namedTriangle.f a0 = some (r1, r2)) :
    Calls Try.prog 73 #[.string a0] w fun e w' => ∃ v0_ : Value, e = .returned (.tuple #[v0_, .bool r2]) ∧ Kd.R (Kd.int .i64) 3 w' w.heap.size (fun _ => True) v0_ r1 ∧ Below w.heap.size w w' := by
  unfold impl_namedTriangle.f at h
  obtain ⟨⟨n1, b1⟩, h1, h⟩ := Option.bind_eq_some_iff.mp h
  obtain ⟨⟨n2, b2⟩, h2, h⟩ := Option.bind_eq_some_iff.mp h
  obtain ⟨⟨n3, b3⟩, h3, h⟩ := Option.bind_eq_some_iff.mp h
  dsimp only at h
  by_cases l : -1000 ≤ n1 ∧ n1 ≤ 1000 ∧ -1000 ≤ n2 ∧ n2 ≤ 1000 ∧ -1000 ≤ n3 ∧ n3 ≤ 1000
  rotate_left
  · rw [if_neg l] at h; exact absurd h (by simp)
  rw [if_pos l] at h
  replace h := Option.some.inj h
  by_cases e1 : a0.toList = ([101, 118, 101, 114, 121] : List UInt8)
  · obtain rfl := impl_namedTriangle.of_list e1
    rw [impl_namedTriangle.c1_1] at h1
    rw [impl_namedTriangle.c1_2] at h2
    rw [impl_namedTriangle.c1_3] at h3
    simp only [Option.some.injEq, Prod.mk.injEq] at h1 h2 h3
    obtain ⟨rfl, rfl⟩ := h1
    obtain ⟨rfl, rfl⟩ := h2
    obtain ⟨rfl, rfl⟩ := h3
    have hr : (r1, r2) = (impl_triangleBy.M impl_namedTriangle.p1, true) := by
      rw [← h]; unfold impl_namedTriangle.pick impl_namedTriangle.plain; rw [if_neg (by simp), if_neg (by simp), if_neg (by simp)];  rw [if_pos e1]
    simp only [Prod.mk.injEq] at hr
    obtain ⟨rfl, rfl⟩ := hr
    exact impl_namedTriangle.way1 _ 0 0 0 e1 impl_namedTriangle.c1_1 impl_namedTriangle.c1_2 impl_namedTriangle.c1_3 (by omega) (by omega) (by omega) (by omega) (by omega) (by omega) w
  by_cases e2 : a0.toList = ([115, 111, 109, 101] : List UInt8)
  · obtain rfl := impl_namedTriangle.of_list e2
    rw [impl_namedTriangle.c2_1] at h1
    rw [impl_namedTriangle.c2_2] at h2
    rw [impl_namedTriangle.c2_3] at h3
    simp only [Option.some.injEq, Prod.mk.injEq] at h1 h2 h3
    obtain ⟨rfl, rfl⟩ := h1
    obtain ⟨rfl, rfl⟩ := h2
    obtain ⟨rfl, rfl⟩ := h3
    have hr : (r1, r2) = (impl_triangleBy.M impl_namedTriangle.p2, true) := by
      rw [← h]; unfold impl_namedTriangle.pick impl_namedTriangle.plain; rw [if_neg (by simp), if_neg (by simp), if_neg (by simp)]; rw [if_neg e1]; rw [if_pos e2]
    simp only [Prod.mk.injEq] at hr
    obtain ⟨rfl, rfl⟩ := hr
    exact impl_namedTriangle.way2 _ 0 0 0 e2 impl_namedTriangle.c2_1 impl_namedTriangle.c2_2 impl_namedTriangle.c2_3 (by omega) (by omega) (by omega) (by omega) (by omega) (by omega) w
  by_cases e3 : a0.toList = ([110, 111] : List UInt8)
  · obtain rfl := impl_namedTriangle.of_list e3
    rw [impl_namedTriangle.c3_1] at h1
    rw [impl_namedTriangle.c3_2] at h2
    rw [impl_namedTriangle.c3_3] at h3
    simp only [Option.some.injEq, Prod.mk.injEq] at h1 h2 h3
    obtain ⟨rfl, rfl⟩ := h1
    obtain ⟨rfl, rfl⟩ := h2
    obtain ⟨rfl, rfl⟩ := h3
    have hr : (r1, r2) = (impl_triangleBy.M impl_namedTriangle.p3, true) := by
      rw [← h]; unfold impl_namedTriangle.pick impl_namedTriangle.plain; rw [if_neg (by simp), if_neg (by simp), if_neg (by simp)]; rw [if_neg e1]; rw [if_neg e2]; rw [if_pos e3]
    simp only [Prod.mk.injEq] at hr
    obtain ⟨rfl, rfl⟩ := hr
    exact impl_namedTriangle.way3 _ 0 0 0 e3 impl_namedTriangle.c3_1 impl_namedTriangle.c3_2 impl_namedTriangle.c3_3 (by omega) (by omega) (by omega) (by omega) (by omega) (by omega) w
  by_cases e4 : a0.toList = ([109, 111, 115, 116] : List UInt8)
  · obtain rfl := impl_namedTriangle.of_list e4
    rw [impl_namedTriangle.c4_1] at h1
    rw [impl_namedTriangle.c4_2] at h2
    rw [impl_namedTriangle.c4_3] at h3
    simp only [Option.some.injEq, Prod.mk.injEq] at h1 h2 h3
    obtain ⟨rfl, rfl⟩ := h1
    obtain ⟨rfl, rfl⟩ := h2
    obtain ⟨rfl, rfl⟩ := h3
    have hr : (r1, r2) = (impl_triangleBy.M impl_namedTriangle.p4, true) := by
      rw [← h]; unfold impl_namedTriangle.pick impl_namedTriangle.plain; rw [if_neg (by simp), if_neg (by simp), if_neg (by simp)]; rw [if_neg e1]; rw [if_neg e2]; rw [if_neg e3]; rw [if_pos e4]
    simp only [Prod.mk.injEq] at hr
    obtain ⟨rfl, rfl⟩ := hr
    exact impl_namedTriangle.way4 _ 0 0 0 e4 impl_namedTriangle.c4_1 impl_namedTriangle.c4_2 impl_namedTriangle.c4_3 (by omega) (by omega) (by omega) (by omega) (by omega) (by omega) w
  by_cases e5 : a0.toList = ([101, 118, 101, 110] : List UInt8)
  · obtain rfl := impl_namedTriangle.of_list e5
    rw [impl_namedTriangle.c5_1] at h1
    rw [impl_namedTriangle.c5_2] at h2
    rw [impl_namedTriangle.c5_3] at h3
    simp only [Option.some.injEq, Prod.mk.injEq] at h1 h2 h3
    obtain ⟨rfl, rfl⟩ := h1
    obtain ⟨rfl, rfl⟩ := h2
    obtain ⟨rfl, rfl⟩ := h3
    have hr : (r1, r2) = (impl_triangleBy.M impl_namedTriangle.p5, true) := by
      rw [← h]; unfold impl_namedTriangle.pick impl_namedTriangle.plain; rw [if_neg (by simp), if_neg (by simp), if_neg (by simp)]; rw [if_neg e1]; rw [if_neg e2]; rw [if_neg e3]; rw [if_neg e4]; rw [if_pos e5]
    simp only [Prod.mk.injEq] at hr
    obtain ⟨rfl, rfl⟩ := hr
    exact impl_namedTriangle.way5 _ 0 0 0 e5 impl_namedTriangle.c5_1 impl_namedTriangle.c5_2 impl_namedTriangle.c5_3 (by omega) (by omega) (by omega) (by omega) (by omega) (by omega) w
  cases b1 <;> cases b2 <;> cases b3
  · have hr : (r1, r2) = (([] : List Int), false) := by
      rw [← h]; unfold impl_namedTriangle.pick; rw [if_neg (by simp)]; rw [if_neg (by simp)]; rw [if_neg (by simp)]; unfold impl_namedTriangle.plain; rw [if_neg e1, if_neg e2, if_neg e3, if_neg e4, if_neg e5]
    simp only [Prod.mk.injEq] at hr
    obtain ⟨rfl, rfl⟩ := hr
    exact impl_namedTriangle.way_false_false_false a0 n1 n2 n3 (beq_eq_false_iff_ne.mpr e1) (beq_eq_false_iff_ne.mpr e2) (beq_eq_false_iff_ne.mpr e3) (beq_eq_false_iff_ne.mpr e4) (beq_eq_false_iff_ne.mpr e5) h1 h2 h3 l.1 l.2.1 l.2.2.1 l.2.2.2.1 l.2.2.2.2.1 l.2.2.2.2.2 w
  · have hr : (r1, r2) = (impl_triangleBy.M (impl_namedTriangle.p8 n3), true) := by
      rw [← h]; unfold impl_namedTriangle.pick; rw [if_pos rfl]
    simp only [Prod.mk.injEq] at hr
    obtain ⟨rfl, rfl⟩ := hr
    exact impl_namedTriangle.way_false_false_true a0 n1 n2 n3 (beq_eq_false_iff_ne.mpr e1) (beq_eq_false_iff_ne.mpr e2) (beq_eq_false_iff_ne.mpr e3) (beq_eq_false_iff_ne.mpr e4) (beq_eq_false_iff_ne.mpr e5) h1 h2 h3 l.1 l.2.1 l.2.2.1 l.2.2.2.1 l.2.2.2.2.1 l.2.2.2.2.2 w
  · have hr : (r1, r2) = (impl_triangleBy.M (impl_namedTriangle.p7 n2), true) := by
      rw [← h]; unfold impl_namedTriangle.pick; rw [if_neg (by simp)]; rw [if_pos rfl]
    simp only [Prod.mk.injEq] at hr
    obtain ⟨rfl, rfl⟩ := hr
    exact impl_namedTriangle.way_false_true_false a0 n1 n2 n3 (beq_eq_false_iff_ne.mpr e1) (beq_eq_false_iff_ne.mpr e2) (beq_eq_false_iff_ne.mpr e3) (beq_eq_false_iff_ne.mpr e4) (beq_eq_false_iff_ne.mpr e5) h1 h2 h3 l.1 l.2.1 l.2.2.1 l.2.2.2.1 l.2.2.2.2.1 l.2.2.2.2.2 w
  · have hr : (r1, r2) = (impl_triangleBy.M (impl_namedTriangle.p8 n3), true) := by
      rw [← h]; unfold impl_namedTriangle.pick; rw [if_pos rfl]
    simp only [Prod.mk.injEq] at hr
    obtain ⟨rfl, rfl⟩ := hr
    exact impl_namedTriangle.way_false_true_true a0 n1 n2 n3 (beq_eq_false_iff_ne.mpr e1) (beq_eq_false_iff_ne.mpr e2) (beq_eq_false_iff_ne.mpr e3) (beq_eq_false_iff_ne.mpr e4) (beq_eq_false_iff_ne.mpr e5) h1 h2 h3 l.1 l.2.1 l.2.2.1 l.2.2.2.1 l.2.2.2.2.1 l.2.2.2.2.2 w
  · have hr : (r1, r2) = (impl_triangleBy.M (impl_namedTriangle.p6 n1), true) := by
      rw [← h]; unfold impl_namedTriangle.pick; rw [if_neg (by simp)]; rw [if_neg (by simp)]; rw [if_pos rfl]
    simp only [Prod.mk.injEq] at hr
    obtain ⟨rfl, rfl⟩ := hr
    exact impl_namedTriangle.way_true_false_false a0 n1 n2 n3 (beq_eq_false_iff_ne.mpr e1) (beq_eq_false_iff_ne.mpr e2) (beq_eq_false_iff_ne.mpr e3) (beq_eq_false_iff_ne.mpr e4) (beq_eq_false_iff_ne.mpr e5) h1 h2 h3 l.1 l.2.1 l.2.2.1 l.2.2.2.1 l.2.2.2.2.1 l.2.2.2.2.2 w
  · have hr : (r1, r2) = (impl_triangleBy.M (impl_namedTriangle.p8 n3), true) := by
      rw [← h]; unfold impl_namedTriangle.pick; rw [if_pos rfl]
    simp only [Prod.mk.injEq] at hr
    obtain ⟨rfl, rfl⟩ := hr
    exact impl_namedTriangle.way_true_false_true a0 n1 n2 n3 (beq_eq_false_iff_ne.mpr e1) (beq_eq_false_iff_ne.mpr e2) (beq_eq_false_iff_ne.mpr e3) (beq_eq_false_iff_ne.mpr e4) (beq_eq_false_iff_ne.mpr e5) h1 h2 h3 l.1 l.2.1 l.2.2.1 l.2.2.2.1 l.2.2.2.2.1 l.2.2.2.2.2 w
  · have hr : (r1, r2) = (impl_triangleBy.M (impl_namedTriangle.p7 n2), true) := by
      rw [← h]; unfold impl_namedTriangle.pick; rw [if_neg (by simp)]; rw [if_pos rfl]
    simp only [Prod.mk.injEq] at hr
    obtain ⟨rfl, rfl⟩ := hr
    exact impl_namedTriangle.way_true_true_false a0 n1 n2 n3 (beq_eq_false_iff_ne.mpr e1) (beq_eq_false_iff_ne.mpr e2) (beq_eq_false_iff_ne.mpr e3) (beq_eq_false_iff_ne.mpr e4) (beq_eq_false_iff_ne.mpr e5) h1 h2 h3 l.1 l.2.1 l.2.2.1 l.2.2.2.1 l.2.2.2.2.1 l.2.2.2.2.2 w
  · have hr : (r1, r2) = (impl_triangleBy.M (impl_namedTriangle.p8 n3), true) := by
      rw [← h]; unfold impl_namedTriangle.pick; rw [if_pos rfl]
    simp only [Prod.mk.injEq] at hr
    obtain ⟨rfl, rfl⟩ := hr
    exact impl_namedTriangle.way_true_true_true a0 n1 n2 n3 (beq_eq_false_iff_ne.mpr e1) (beq_eq_false_iff_ne.mpr e2) (beq_eq_false_iff_ne.mpr e3) (beq_eq_false_iff_ne.mpr e4) (beq_eq_false_iff_ne.mpr e5) h1 h2 h3 l.1 l.2.1 l.2.2.1 l.2.2.2.1 l.2.2.2.2.1 l.2.2.2.2.2 w



/-! ### impl_sentenceReader_set: function 74 -/
/-- a set from a place on, and where it ends -/
def pset : Nat → ByteArray → Nat → Option (PT × Nat)
  | 0, _, _ => none
  | n + 1, s, a =>
    if 97 ≤ (nxt s a).1 ∧ (nxt s a).1 ≤ 100 then some (.leaf (nxt s a).1 a, a + 1)
    else if (nxt s a).1 = 33 then (match pset n s (a + 1) with | none => none | some (p, e) => some (.one 33 p, e))
    else if (nxt s a).1 = 40 then ptwo (pset n s) [38, 124] 41 s (a + 1)
    else none
theorem nxt_pos {s : ByteArray} {a : Nat} (ha : a ≤ s.size) (h : (nxt s a).1 ≠ 0) : a < s.size ∧ (nxt s a).2 = a + 1 := by
  by_cases c : a < s.size
  · exact ⟨c, by rw [nxt_lt c]⟩
  · rw [nxt_end c] at h; exact absurd rfl h
theorem ptwo_place {par : Nat → Option (PT × Nat)} {s : ByteArray} (hpar : ∀ a p a', a ≤ s.size → par a = some (p, a') → a < a' ∧ a' ≤ s.size) {signs : List UInt8} {en : Int} {a : Nat} {p : PT} {a' : Nat} (ha : a ≤ s.size) (h : ptwo par signs en s a = some (p, a')) : a < a' ∧ a' ≤ s.size := by
  unfold ptwo at h
  cases h1 : par a with
  | none => rw [h1] at h; cases h
  | some r =>
    obtain ⟨x, a1⟩ := r
    rw [h1] at h
    obtain ⟨k1, k2⟩ := hpar a x a1 ha h1
    have k3 := nxt_le s a1 k2
    simp only at h
    split at h
    · cases h
    · cases h2 : par (nxt s a1).2 with
      | none => rw [h2] at h; cases h
      | some r =>
        obtain ⟨y, a3⟩ := r
        rw [h2] at h
        obtain ⟨k4, k5⟩ := hpar _ y a3 k3.2 h2
        have k6 := nxt_le s a3 k5
        simp only at h
        split at h
        · injection h with h
          injection h with _ h
          omega
        · cases h
theorem pset_place (s : ByteArray) : ∀ n a p a', a ≤ s.size → pset n s a = some (p, a') → a < a' ∧ a' ≤ s.size
  | 0, a, p, a', _, h => by cases h
  | n + 1, a, p, a', ha, h => by
    unfold pset at h
    split at h
    · rename_i c
      obtain ⟨k1, k2⟩ := nxt_pos ha (show (nxt s a).1 ≠ 0 by omega)
      injection h with h
      injection h with _ h
      omega
    · split at h
      · rename_i c
        obtain ⟨k1, k2⟩ := nxt_pos ha (show (nxt s a).1 ≠ 0 by omega)
        cases h1 : pset n s (a + 1) with
        | none => rw [h1] at h; cases h
        | some r =>
          obtain ⟨x, e⟩ := r
          rw [h1] at h
          have := pset_place s n (a + 1) x e k1 h1
          injection h with h
          injection h with _ h
          omega
      · split at h
        · rename_i c
          obtain ⟨k1, k2⟩ := nxt_pos ha (show (nxt s a).1 ≠ 0 by omega)
          have := ptwo_place (pset_place s n) k1 h
          omega
        · cases h
set_option maxHeartbeats 8000000 in
set_option maxRecDepth 100000 in
theorem impl_sentenceReader_set.calls (g : Nat) (s : ByteArray) (hs : s.size ≤ 9223372036854775806) : ∀ (n a : Nat) (w : World), a ≤ s.size → s.size < a + n → RD g s a w →
    Calls Try.prog 74 #[.pointer (some ⟨g, 0, none⟩)] w (PostP g s w (pset n s a)) := by
  intro n
  induction n with
  | zero => intro a w ha hn; exact absurd hn (by omega)
  | succ n ih =>
    intro a w ha hn h
    have HG := Aside0.mk h.lt
    have HS0 := Aside0.mk h
    have HN := impl_sentenceReader_next.calls g s a w hs ha h
    have hz := nxt_range s a
    unfold pset
    by_cases c1 : 97 ≤ (nxt s a).1 ∧ (nxt s a).1 ≤ 100
    · rw [if_pos c1]
      obtain ⟨k1, k2⟩ := nxt_pos ha (show (nxt s a).1 ≠ 0 by omega)
      rw [k2] at HN
      have e2 : wrap64 ((a : Int) + 1 - 1) = (a : Int) := by unfold wrap64; omega
      have e2' : IntKind.i64.wrap ((a : Int) + 1 - 1) = (a : Int) := by rw [IntKind.wrap_i64]; omega
      have e3 : wrap64 (a : Int) = (a : Int) := by unfold wrap64; omega
      have e3' : IntKind.i64.wrap (a : Int) = (a : Int) := by rw [IntKind.wrap_i64]; omega
      obtain ⟨z, hz0⟩ : ∃ z, (nxt s a).1 = z := ⟨_, rfl⟩
      rw [hz0] at HN c1 ⊢
      rcases (show z = 97 ∨ z = 98 ∨ z = 99 ∨ z = 100 by omega) with rfl | rfl | rfl | rfl
      all_goals
        replace HN := Aside0.mk HN
        clear hz0 hz c1 k1 k2 ih h hn ha hs
        go_enter Try.func74, Try.ntmps74
        go_wp2_with (first | (go_at_call 70; (with_reducible refine HN.out.mono ?_); rintro e w1 ⟨rfl, hs1, hf1⟩; have hc1 : w1.cell? ⟨g, 1, none⟩ = some (.int .i64 ((a : Int) + 1)) := hs1.c1.trans rfl; have HS1 := Aside0.mk hs1; have HF1 := Aside0.mk hf1; clear hs1 hf1))
        go_ret
        exact PostP.leaf _ a _ _ HG.out HF1.out HS1.out (by first | rfl | (simp; done)) (by first | rfl | (simp; done) | (simp [*]; done))
    · rw [if_neg c1]
      by_cases c2 : (nxt s a).1 = 33
      · rw [if_pos c2]
        obtain ⟨k1, k2⟩ := nxt_pos ha (show (nxt s a).1 ≠ 0 by omega)
        rw [k2, c2] at HN
        have HA := fun wx hx => ih (a + 1) wx k1 (by omega) hx
        cases hp : pset n s (a + 1) with
        | none =>
          rw [hp] at HA
          replace HN := Aside0.mk HN
          replace HA := Aside0.mk HA
          clear hz c1 k1 k2 ih h hn ha hs hp c2
          go_enter Try.func74, Try.ntmps74
          go_wp2_with (first | (go_at_call 70; (with_reducible refine HN.out.mono ?_); rintro e w1 ⟨rfl, hs1, hf1⟩; have HS1 := Aside0.mk hs1; have HF1 := Aside0.mk hf1; clear hs1 hf1) | (go_at_call 74; (with_reducible refine (HA.out _ HS1.out).mono ?_); rintro e w2 ⟨hf2, rfl⟩; have HF2 := Aside0.mk hf2; clear hf2))
          go_ret
          exact PostP.nil (HF1.out.trans HF2.out)
        | some r =>
          obtain ⟨p, e⟩ := r
          rw [hp] at HA
          replace HN := Aside0.mk HN
          replace HA := Aside0.mk HA
          clear hz c1 k1 k2 ih h hn ha hs hp c2
          go_enter Try.func74, Try.ntmps74
          go_wp2_with (first | (go_at_call 70; (with_reducible refine HN.out.mono ?_); rintro e w1 ⟨rfl, hs1, hf1⟩; have HS1 := Aside0.mk hs1; have HF1 := Aside0.mk hf1; clear hs1 hf1) | (go_at_call 74; (with_reducible refine (HA.out _ HS1.out).mono ?_); rintro e w2 ⟨hf2, b1, rfl, hs2, ht2, hl2⟩; have HF2 := Aside0.mk hf2; have HS2 := Aside0.mk hs2; have HT2 := Aside0.mk ht2; clear hf2 hs2 ht2 hl2))
          go_ret
          exact PostP.one _ _ HG.out (HF1.out.trans HF2.out) HS2.out HT2.out (by first | rfl | (simp; done))
      · rw [if_neg c2]
        by_cases c3 : (nxt s a).1 = 40
        · rw [if_pos c3]
          obtain ⟨k1, k2⟩ := nxt_pos ha (show (nxt s a).1 ≠ 0 by omega)
          rw [k2, c3] at HN
          have HT := fun wx hx => impl_sentenceReader_two.calls 74 (fun args wx => enters_ Try.func74 (by kernel_rfl) rfl args wx) g s hs (pset n s) ⟨#[38, 124]⟩ 41 n (pset_place s n) (fun a wx ha hn hx => ih a wx ha hn hx) (a + 1) wx k1 (by omega) hx
          have hmf : ∀ (fn : Fn) (first cap : Array Value) (w : World), (Instr.makeFunc fn first cap).run Try.prog w = .ok (.func fn first cap) w := fun _ _ _ _ => rfl
          replace HN := Aside0.mk HN
          replace HT := Aside0.mk HT
          clear hz c1 k1 k2 ih h hn ha hs c2 c3
          cases hp : ptwo (pset n s) [38, 124] 41 s (a + 1) with
          | none =>
            have HT : Aside0 (∀ wx, RD g s (a + 1) wx → Calls Try.prog 71 _ wx (PostP g s wx none)) := ⟨fun wx hx => by have := HT.out wx hx; rw [show (⟨#[38, 124]⟩ : ByteArray).data.toList = [38, 124] from rfl, hp] at this; exact this⟩
            clear hp
            go_enter Try.func74, Try.ntmps74
            go_wp2_with (first | (go_at_call 70; (with_reducible refine HN.out.mono ?_); rintro e w1 ⟨rfl, hs1, hf1⟩; have HS1 := Aside0.mk hs1; have HF1 := Aside0.mk hf1; clear hs1 hf1) | (go_at_call 71; (with_reducible refine (HT.out _ HS1.out).mono ?_); rintro e w2 ⟨hf2, rfl⟩; have HF2 := Aside0.mk hf2; clear hf2))
            go_ret
            exact PostP.nil (HF1.out.trans HF2.out)
          | some r =>
            obtain ⟨p, e⟩ := r
            have HT : Aside0 (∀ wx, RD g s (a + 1) wx → Calls Try.prog 71 _ wx (PostP g s wx (some (p, e)))) := ⟨fun wx hx => by have := HT.out wx hx; rw [show (⟨#[38, 124]⟩ : ByteArray).data.toList = [38, 124] from rfl, hp] at this; exact this⟩
            clear hp
            go_enter Try.func74, Try.ntmps74
            go_wp2_with (first | (go_at_call 70; (with_reducible refine HN.out.mono ?_); rintro e w1 ⟨rfl, hs1, hf1⟩; have HS1 := Aside0.mk hs1; have HF1 := Aside0.mk hf1; clear hs1 hf1) | (go_at_call 71; (with_reducible refine (HT.out _ HS1.out).mono ?_); rintro e w2 ⟨hf2, b1, rfl, hs2, ht2, hl2⟩; have HF2 := Aside0.mk hf2; have HS2 := Aside0.mk hs2; have HT2 := Aside0.mk ht2; have HL2 := Aside0.mk hl2; clear hf2 hs2 ht2 hl2))
            go_ret
            exact PostP.step HF1.out (And.intro HF2.out ⟨b1, rfl, HS2.out, HT2.out, HL2.out⟩)
        · rw [if_neg c3]
          obtain ⟨z, hz0⟩ : ∃ z, (nxt s a).1 = z := ⟨_, rfl⟩
          rw [hz0] at HN c1 c2 c3
          have d1 : (z == 97) = false := by rw [beq_eq_false_iff_ne]; omega
          have d2 : (z == 98) = false := by rw [beq_eq_false_iff_ne]; omega
          have d3 : (z == 99) = false := by rw [beq_eq_false_iff_ne]; omega
          have d4 : (z == 100) = false := by rw [beq_eq_false_iff_ne]; omega
          have d5 : (z == 33) = false := by rw [beq_eq_false_iff_ne]; omega
          have d6 : (z == 40) = false := by rw [beq_eq_false_iff_ne]; omega
          replace HN := Aside0.mk HN
          clear hz0 hz c1 c2 c3 ih h hn ha hs
          go_enter Try.func74, Try.ntmps74
          go_wp2_with (first | (go_at_call 70; (with_reducible refine HN.out.mono ?_); rintro e w1 ⟨rfl, hs1, hf1⟩; have HF1 := Aside0.mk hf1; clear hs1 hf1))
          go_ret
          exact PostP.nil HF1.out

end Go.Proofs.Ytfjfdnododnepaa.PFnMarksOf
