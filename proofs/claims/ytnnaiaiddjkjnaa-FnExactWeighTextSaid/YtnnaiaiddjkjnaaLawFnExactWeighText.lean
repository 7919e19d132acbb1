/- For every sentence the program's WeighText returns what the reference's returns; no condition: each of its three numbers may be any int. -/
import Derived.Test.YtnnaiaiddjkjnaaRows
import Derived.Test.YtnnaiaiddjkjnaaPFnExactWeighTextx2
import Derived.WalkKit
import Derived.ProofKit
import Derived.OpenShut
import Derived.ShutString
import Derived.ChangeOld
import Derived.Below
import Derived.SizedLaws
import Derived.Lib.SmallJoins
namespace Go.Proofs.Ytnnaiaiddjkjnaa.Pure
open Go.RowKit Go.Proofs.Ytnnaiaiddjkjnaa.PFnExactWeighText Go.Proofs.YtnnaiaiddjkjnaaW.PrintWords Go.Proofs.YtnnaiaiddjkjnaaW.PrintLast
set_option linter.unusedVariables false
set_option linter.unusedSimpArgs false
/-! pack arith: numbers that do not wrap, and steps of 'from some number of rounds on' -/
theorem w64 {n : Int} (h0 : -9223372036854775808 ≤ n) (h1 : n ≤ 9223372036854775807) : wrap64 n = n := by unfold wrap64; omega
theorem ev_pos {α : Type} {c : Prop} [Decidable c] {a b : Nat → Option α} {r : α} (h : c) (H : Ev a r) : Ev (fun k => if c then a k else b k) r :=
  Ev.congr (fun _ => if_pos h) H
theorem ev_neg {α : Type} {c : Prop} [Decidable c] {a b : Nat → Option α} {r : α} (h : ¬ c) (H : Ev b r) : Ev (fun k => if c then a k else b k) r :=
  Ev.congr (fun _ => if_neg h) H
theorem ev_now {α : Type} {a r : α} (h : a = r) : Ev (fun _ => some a) r := h ▸ Ev.now a
theorem ev_of {α : Type} {o : Option α} {r : α} (h : o = some r) : Ev (fun _ => o) r := ⟨0, fun _ _ => h⟩
theorem ev_bind {α β : Type} {o : Option α} {f : Nat → α → Option β} {a : α} {r : β} (h : o = some a) (k : Ev (fun n => f n a) r) : Ev (fun n => o.bind (f n)) r :=
  Ev.congr (fun n => by rw [h]; rfl) k
theorem ev_eq {α : Type} {g : Nat → Option α} {r r' : α} (h : r = r') (k : Ev g r) : Ev g r' := h ▸ k

/-! pack weigh: texts of sentences -/
theorem tl (b : ByteArray) : b.toList = b.data.toList := ByteArray.toList_eq b
def wS (f : Nat) : List UInt8 := ([[97, 108, 108, 32], [115, 111, 109, 101, 32], [110, 111, 116, 32, 102, 101, 119, 101, 114, 32], [109, 111, 114, 101, 32], [109, 111, 115, 116, 32], [97, 116, 32, 109, 111, 115, 116, 32, 104, 97, 108, 102, 32]] : List (List UInt8)).getD f []
def wM (f : Nat) : List UInt8 := if f = 2 ∨ f = 3 then [32, 116, 104, 97, 110, 32] else [32, 97, 114, 101, 32]
def wT (o : Nat) : List UInt8 := ([[97], [110, 111, 110, 45, 97], [98], [110, 111, 110, 45, 98]] : List (List UInt8)).getD o []
def wL (f o t : Nat) : List UInt8 := wS f ++ wT o ++ wM f ++ wT t
def wB (f o t : Nat) : ByteArray := ⟨(wL f o t).toArray⟩
theorem wB_l (f o t : Nat) : (wB f o t).toList = wL f o t := by rw [tl]; simp [wB]
/-- number i's form and terms, and its text -/
def iL (i : Nat) : List UInt8 := wL (i / 16) (i / 4 % 4) (i % 4)
def fnd (P : Nat → Bool) : Nat → Nat → Option Nat
  | 0, _ => none
  | d + 1, i => if P i then some i else fnd P d (i + 1)
def res : Option Nat → Int × Int × Int × Bool
  | none => (0, 0, 0, false)
  | some i => (((i / 16 : Nat) : Int), ((i / 4 % 4 : Nat) : Int), ((i % 4 : Nat) : Int), true)
def isT (x : ByteArray) (i : Nat) : Bool := iL i == x.toList
theorem iL_inj_all : ∀ i j : Fin 96, iL i.val = iL j.val → i = j := by decide +kernel
theorem iL_last_all : ∀ i : Fin 96, (iL i.val).getLast? ≠ some 32 := by decide +kernel
theorem iL_len_all : ∀ i : Fin 96, 0 < (iL i.val).length ∧ (iL i.val).length ≤ 100 := by decide +kernel
theorem fnd_some (P : Nat → Bool) (d : Nat) : ∀ i j, fnd P d i = some j → P j = true ∧ i ≤ j ∧ j < i + d := by
  induction d with
  | zero => intro i j h; simp [fnd] at h
  | succ d ih =>
    intro i j h
    unfold fnd at h
    by_cases c : P i = true
    · rw [if_pos c] at h; obtain rfl := Option.some.inj h; exact ⟨c, by omega, by omega⟩
    · rw [if_neg c] at h; obtain ⟨h1, h2, h3⟩ := ih _ _ h; exact ⟨h1, by omega, by omega⟩
theorem fnd_none (P : Nat → Bool) (d : Nat) : ∀ i, (∀ j, i ≤ j → j < i + d → P j = false) → fnd P d i = none := by
  induction d with
  | zero => intro i _; rfl
  | succ d ih =>
    intro i h
    unfold fnd
    rw [if_neg (by rw [h i (by omega) (by omega)]; simp)]
    exact ih _ (fun j h1 h2 => h j (by omega) (by omega))
theorem fnd_at (P : Nat → Bool) (d : Nat) : ∀ i j, i ≤ j → j < i + d → P j = true → (∀ m, i ≤ m → m < i + d → P m = true → m = j) → fnd P d i = some j := by
  induction d with
  | zero => intro i j h1 h2; omega
  | succ d ih =>
    intro i j h1 h2 hj hu
    unfold fnd
    by_cases c : P i = true
    · rw [if_pos c, hu i (by omega) (by omega) c]
    · rw [if_neg c]
      have : i ≠ j := fun e => c (by rw [e]; exact hj)
      exact ih _ _ (by omega) (by omega) hj (fun m a b => hu m (by omega) (by omega))
/-- what is read of a text -/
def rdW (x : ByteArray) : Option Nat := fnd (isT x) 96 0
theorem rdW_text {i : Nat} (hi : i < 96) {x : ByteArray} (hx : x.toList = iL i) : rdW x = some i := by
  refine fnd_at _ _ _ _ (by omega) (by omega) (by unfold isT; rw [hx]; simp) (fun m _ hm h => ?_)
  unfold isT at h
  rw [hx, beq_iff_eq] at h
  have := iL_inj_all ⟨m, by omega⟩ ⟨i, hi⟩ h
  simpa using this
theorem rdW_some {x : ByteArray} {i : Nat} (h : rdW x = some i) : i < 96 ∧ x.toList = iL i := by
  obtain ⟨h1, _, h3⟩ := fnd_some _ _ _ _ h
  unfold isT at h1
  exact ⟨by omega, (beq_iff_eq.mp h1).symm⟩
theorem rdW_space {x : ByteArray} {s : List UInt8} (hx : x.toList = s ++ [32]) : rdW x = none := by
  refine fnd_none _ _ _ (fun j _ hj => ?_)
  unfold isT
  rw [hx, beq_eq_false_iff_ne]
  intro e
  exact iL_last_all ⟨j, by omega⟩ (by simp only; rw [e]; simp)
theorem idx_of {f o t : Nat} (hf : f < 6) (ho : o < 4) (ht : t < 4) : ∃ i, i < 96 ∧ i / 16 = f ∧ i / 4 % 4 = o ∧ i % 4 = t := ⟨16 * f + 4 * o + t, by omega, by omega, by omega, by omega⟩

/-! pack weigh_i -/
theorem iwt_all : ∀ f : Fin 6, ∀ o t : Fin 4, impl_weighText.f (f.val : Int) (o.val : Int) (t.val : Int) = some (wB f.val o.val t.val) := by decide +kernel
theorem iwt {f o t : Nat} (hf : f < 6) (ho : o < 4) (ht : t < 4) : impl_weighText.f (f : Int) (o : Int) (t : Int) = some (wB f o t) := iwt_all ⟨f, hf⟩ ⟨o, ho⟩ ⟨t, ht⟩

/-! pack weigh_s -/
theorem swt_all : ∀ f : Fin 6, ∀ o t : Fin 4, spec_WeighText.f (f.val : Int) (o.val : Int) (t.val : Int) = some (wB f.val o.val t.val) := by decide +kernel
theorem swt {f o t : Nat} (hf : f < 6) (ho : o < 4) (ht : t < 4) : spec_WeighText.f (f : Int) (o : Int) (t : Int) = some (wB f o t) := swt_all ⟨f, hf⟩ ⟨o, ho⟩ ⟨t, ht⟩

/-! pack wok: which sentences are right -/
def wOk (f o t : Int) : Bool := decide (0 ≤ f ∧ f ≤ 5 ∧ 0 ≤ o ∧ o ≤ 3 ∧ 0 ≤ t ∧ t ≤ 3)
theorem wOk_nat {f o t : Int} (h : wOk f o t = true) : ∃ x y z : Nat, x < 6 ∧ y < 4 ∧ z < 4 ∧ f = x ∧ o = y ∧ t = z := by
  have h := of_decide_eq_true h
  exact ⟨f.toNat, o.toNat, t.toNat, by omega, by omega, by omega, by omega, by omega, by omega⟩
theorem iWeigh (f o t : Int) : impl_isWeigh.f f o t = some (wOk f o t) := by
  unfold impl_isWeigh.f wOk
  simp only [ge_iff_le]
  by_cases h1 : 0 ≤ f <;> by_cases h2 : f ≤ 5 <;> by_cases h3 : 0 ≤ o <;> by_cases h4 : o ≤ 3 <;> by_cases h5 : 0 ≤ t <;> by_cases h6 : t ≤ 3 <;> simp [h1, h2, h3, h4, h5, h6]

theorem sWeigh (f o t : Int) : spec_WeighOk.f f o t = some (wOk f o t) := by
  unfold spec_WeighOk.f spec_l1In.f wOk
  simp only [ge_iff_le]
  by_cases h1 : 0 ≤ f <;> by_cases h2 : f ≤ 5 <;> by_cases h3 : 0 ≤ o <;> by_cases h4 : o ≤ 3 <;> by_cases h5 : 0 ≤ t <;> by_cases h6 : t ≤ 3 <;> simp [h1, h2, h3, h4, h5, h6]
def wX (f o t : Int) : ByteArray := if wOk f o t then wB f.toNat o.toNat t.toNat else ⟨#[]⟩
theorem sWT (f o t : Int) : spec_WeighText.f f o t = some (wX f o t) := by
  unfold wX
  cases h : wOk f o t with
  | true =>
    obtain ⟨x, y, z, hx, hy, hz, rfl, rfl, rfl⟩ := wOk_nat h
    exact swt hx hy hz
  | false =>
    unfold spec_WeighText.f
    rw [sWeigh, h]; rfl

theorem iWT (f o t : Int) : impl_WeighText.f f o t = some (wX f o t) := by
  unfold wX impl_WeighText.f
  rw [iWeigh]
  cases h : wOk f o t with
  | true =>
    obtain ⟨x, y, z, hx, hy, hz, rfl, rfl, rfl⟩ := wOk_nat h
    have := iwt hx hy hz
    simp only [Option.bind_some, if_true, Int.toNat_natCast]
    rw [this]; rfl
  | false => rfl

theorem FnExactWeighText (f o t : Int) : laws_FnExactWeighText.f f o t = some true := by
  unfold laws_FnExactWeighText.f laws_toSay.f
  simp only [Option.bind_some]
  rw [sWT, iWT]
  simp
end Go.Proofs.Ytnnaiaiddjkjnaa.Pure
namespace Go.Proofs.Ytnnaiaiddjkjnaa.fnExactWeighText
open Go.ChangeShapes Go.WideShapes Go.ChangeAt Go.RowKit
theorem own : ownKnob Try.prog.godebug = none := by kernel_rfl
theorem laidOut : laidOutB Try.prog = true := by kernel_rfl
theorem cellsSay : Try.prog.cellsOf 23 = 3 := by kernel_rfl
set_option maxRecDepth 100000 in
theorem lifted (os : Os) (started : os.Started) (H : Type) (enc : TypeId × Value → H) :
    ReturnsInHanded {} Try.checked os 3 .any (Rows.fnExactWeighTextSpec.pre6 enc Try.prog Try.f3 Rows.fnExactWeighTextRow.domain false) (Rows.fnExactWeighTextSpec.post enc Try.prog Try.f3 false true false false) := by
  refine returnsInHanded_of_change_sized (C := Try.checked) own started (by kernel_rfl) Try.func3
    (ChangeSpec.witness6 (enc := enc) (C := Try.checked) false ⟨#[], #[.agg #[.int .i64 0, .int .i64 0, .int .i64 0]], []⟩ 8 (by kernel_rfl) (by kernel_rfl) (by kernel_rfl) (by kernel_rfl)) ?_
  intro W base args ds gs before hval0 hW _ _ _
  have hval : ∀ (j : Nat) t v, Try.f3.params[j]? = some t → args[j]? = some v → Value.okWide Try.prog W .any base t v := hval0
  have hW' := hW
  obtain ⟨p, q, hA0, hV, rfl, hfz, hnd⟩ := hW
  have hA : DataW.TrodAll enc Try.prog W 0 (fun _ => true) true Try.f3.params.toList args.toList ds p := hA0
  rw [Try.params3] at hA hval
  obtain ⟨v0, vs0, d0, ds0, p0, q0, hargs, rfl, rfl, h0, r0⟩ := trodAll_cons hA
  obtain ⟨rfl, rfl, rfl⟩ := trodAll_nil r0
  obtain rfl : args = #[v0] := by cases args; simp_all
  obtain ⟨rfl, rfl⟩ := trodVars_none hV
  have k0 := h0
  have lt0 : ∀ x ∈ p0, x.block < W.heap.size := by obtain ⟨m, hm⟩ := k0; exact DataW.trod_lt m _ _ _ hm
  obtain ⟨c0, c1, c2, y0, y1, y2, m, rfl, hd0, hp0, hy0, hy1, hy2⟩ := Joins.open_agg3 Try.underlying23 (by kernel_rfl) cellsSay (hval 0 23 v0 rfl rfl) h0
  obtain ⟨a0, e0, _, w0⟩ := DataW.trod_int Try.underlying3 hy0
  obtain ⟨a1, e1, _, w1⟩ := DataW.trod_int Try.underlying3 hy1
  obtain ⟨a2, e2, _, w2⟩ := DataW.trod_int Try.underlying3 hy2
  simp at e0 e1 e2
  subst e0 e1 e2
  clear hA0 hval0
  refine (PFnExactWeighText.laws_FnExactWeighText.calls a0 a1 a2 true W (Pure.FnExactWeighText a0 a1 a2)).mono fun e W' ⟨he, bel⟩ => ?_
  subst he
  exact ⟨_, rfl, _, _, _, [], _, [], hW', trodAll_mk1 (shut_bool Try.underlying4 _), (trodAll_cons_mk (Below.trod laidOut (by kernel_rfl) (of_decide_eq_true (by kernel_rfl)) k0 bel lt0) trodAll_mk0), rfl, bel.frame _, fun h => by cases h⟩
theorem over : Rows.fnExactWeighTextRow.holds Try.pinned (OpenSpec.ofChange Rows.fnExactWeighTextSpec) :=
  OpenClaim.holds_of_wide 3 Try.f3 rfl rfl rfl rfl rfl rfl rfl ⟨rfl, rfl, rfl, rfl, rfl⟩ rfl rfl rfl rfl rfl (by kernel_rfl) Try.func3 (by kernel_rfl)
    (of_decide_eq_true (by kernel_rfl)) (by unfold Func.isWrapper; first | (rw [if_pos (by decide +kernel)]; kernel_rfl) | (rw [if_neg (by decide +kernel)]; exact ⟨rfl, rfl⟩))
    (fun os started H enc _ => lifted os started H enc)
theorem proved : Rows.FnExactWeighTextSaid := over
end Go.Proofs.Ytnnaiaiddjkjnaa.fnExactWeighText
namespace Go.Proofs.Ytnnaiaiddjkjnaa
/-- The row, under a short name, for the claim. -/
theorem fnExactWeighText_holds : Rows.FnExactWeighTextSaid := fnExactWeighText.proved
end Go.Proofs.Ytnnaiaiddjkjnaa
