/- For all arguments the program's WhoDo returns what the reference's returns and leaves its arguments alone; no condition. -/
import Derived.Test.YtmohhjbcdfhopaaPFnExactWhoDox2
namespace Go.Proofs.Ytmohhjbcdfhopaa.Pure
open Go.RowKit Go.Proofs.Ytmohhjbcdfhopaa.PFnExactWhoDo Go.Proofs.YtmohhjbcdfhopaaW.PrintWords Go.Proofs.YtmohhjbcdfhopaaW.PrintLast
set_option linter.unusedVariables false
set_option linter.unusedSimpArgs false

/-! pack arith: numbers that do not wrap, and steps of 'from some number of rounds on' -/
theorem w64 {n : Int} (h0 : -9223372036854775808 ≤ n) (h1 : n ≤ 9223372036854775807) : wrap64 n = n := by unfold wrap64; omega
theorem ev_pos {α : Type} {c : Prop} [Decidable c] {a b : Nat → Option α} {r : α} (h : c) (H : Ev a r) : Ev (fun k => if c then a k else b k) r :=
  Ev.congr (fun _ => if_pos h) H
theorem ev_neg {α : Type} {c : Prop} [Decidable c] {a b : Nat → Option α} {r : α} (h : ¬ c) (H : Ev b r) : Ev (fun k => if c then a k else b k) r :=
  Ev.congr (fun _ => if_neg h) H
theorem ev_now {α : Type} {a r : α} (h : a = r) : Ev (fun _ => some a) r := h ▸ Ev.now a
theorem ev_of {α : Type} {o : Option α} {r : α} (h : o = some r) : Ev (fun _ => o) r := ⟨0, fun _ _ => h⟩
theorem ev_bind {α β : Type} {o : Option α} {f : Nat → α → Option β} {a : α} {r : β} (h : o = some a) (k : Ev (fun n => f n a) r) : Ev (fun n => o.bind (f n)) r :=
  Ev.congr (fun n => by rw [h]; rfl) k
theorem ev_eq {α : Type} {g : Nat → Option α} {r r' : α} (h : r = r') (k : Ev g r) : Ev g r' := h ▸ k

/-! pack pairs: relations of three things as numbers -/
theorem rel_cases {P : Int → Prop} (h : ∀ r : Fin 512, P (r.val : Int)) {x : Int} (h0 : 0 ≤ x) (h1 : x < 512) : P x := by
  obtain ⟨n, rfl⟩ : ∃ n : Nat, x = n := ⟨x.toNat, by omega⟩
  exact h ⟨n, by omega⟩
theorem set_cases {P : Int → Prop} (h : ∀ r : Fin 8, P (r.val : Int)) {x : Int} (h0 : 0 ≤ x) (h1 : x < 8) : P x := by
  obtain ⟨n, rfl⟩ : ∃ n : Nat, x = n := ⟨x.toNat, by omega⟩
  exact h ⟨n, by omega⟩
def sz (n : Nat) : Nat := n % 2 + n / 2 % 2 + n / 4 % 2
def rowN (rel x : Nat) : Nat := rel / 8 ^ x % 8
def b1 (b : Bool) : Nat := if b then 1 else 0
/-- the other way round, a relation's nine pairs -/
def turnN (r : Nat) : Nat := r % 2 + 8 * (r / 2 % 2) + 64 * (r / 4 % 2) + 2 * (r / 8 % 2) + 16 * (r / 16 % 2) + 128 * (r / 32 % 2) + 4 * (r / 64 % 2) + 32 * (r / 128 % 2) + 256 * (r / 256 % 2)

/-! pack ints: the laws' copies and comparisons of rows of numbers -/
theorem rd_getD (l : List Int) (i : Nat) : rd l (i : Int) = l.getD i 0 := by simp [rd]
theorem getD_drop (l : List Int) (i : Nat) (h : i < l.length) : l.drop i = l.getD i 0 :: l.drop (i + 1) := by
  rw [List.drop_eq_getElem_cons h, List.getD_eq_getElem?_getD, List.getElem?_eq_getElem h]; rfl
theorem eqInt_loop (l m : List Int) (hl : l.length ≤ 100000000) (hm : m.length = l.length) (d : Nat) : ∀ i : Nat, i + d = l.length → 
    Ev (fun k => laws_eqIntS.l0 k l m i) (l.drop i == m.drop i) := by
  induction d with
  | zero =>
    intro i hi
    refine Ev.step (fun _ => laws_eqIntS.l0.eq_2 _ _ _ _) (ev_neg (by omega) (ev_now ?_))
    rw [List.drop_of_length_le (by omega), List.drop_of_length_le (by omega)]; rfl
  | succ d ih =>
    intro i hi
    refine Ev.step (fun _ => laws_eqIntS.l0.eq_2 _ _ _ _) (ev_pos (by omega) (ev_pos (by omega) (ev_pos (by omega) ?_)))
    rw [getD_drop l i (by omega), getD_drop m i (by omega)]
    simp only [rd_getD]
    by_cases h : l.getD i 0 = m.getD i 0
    · refine ev_pos h ?_
      rw [w64 (by omega) (by omega)]
      refine ev_eq ?_ (ih (i + 1) (by omega))
      rw [h]; simp
    · refine ev_neg h (ev_now ?_)
      simp only [List.cons_beq_cons]
      rw [beq_false_of_ne h]; rfl
theorem eqInt_ev (l m : List Int) (hl : l.length ≤ 100000000) : Ev (fun k => laws_eqIntS.f k l m) (l == m) := by
  unfold laws_eqIntS.f
  by_cases h : l.length = m.length
  · refine ev_pos (by omega) ?_
    exact ev_eq (by simp) (eqInt_loop l m hl h.symm l.length 0 (by omega))
  · refine ev_neg (by omega) (ev_now ?_)
    symm
    rw [beq_eq_false_iff_ne]
    intro e; exact h (by rw [e])
theorem toInt_loop (l : List Int) (hl : l.length ≤ 100000000) (d : Nat) : ∀ (i : Nat) (m : List Int), i + d = l.length → m.length = l.length → m.take i = l.take i →
    Ev (fun k => laws_toIntS.l0 k l m i) l := by
  induction d with
  | zero =>
    intro i m hi hm ht
    refine Ev.step (fun _ => laws_toIntS.l0.eq_2 _ _ _ _) (ev_neg (by omega) (ev_now ?_))
    rw [List.take_of_length_le (by omega), List.take_of_length_le (by omega)] at ht; exact ht
  | succ d ih =>
    intro i m hi hm ht
    refine Ev.step (fun _ => laws_toIntS.l0.eq_2 _ _ _ _) (ev_pos (by omega) (ev_pos (by omega) (ev_pos (by omega) ?_)))
    rw [w64 (by omega) (by omega)]
    refine ih (i + 1) _ (by omega) (by simp [hm]) ?_
    simp only [rd_getD, Int.toNat_natCast]
    apply List.ext_getElem?
    intro j
    have hj := congrArg (fun x => x[j]?) ht
    simp only [List.getElem?_take, List.getElem?_set] at hj ⊢
    by_cases h1 : j < i
    · rw [if_pos (show j < i + 1 by omega), if_pos (show j < i + 1 by omega), if_neg (show ¬ i = j by omega)]
      simpa [h1] using hj
    · by_cases h2 : j = i
      · subst h2
        rw [if_pos (show j < m.length by omega), List.getD_eq_getElem?_getD, List.getElem?_eq_getElem (show j < l.length by omega), if_pos rfl]; simp
      · rw [if_neg (by omega), if_neg (by omega)]
theorem toInt_ev (l : List Int) (hl : l.length ≤ 100000000) : Ev (fun k => laws_toIntS.f k l) l := by
  unfold laws_toIntS.f
  refine ev_pos (by omega) (ev_pos (by omega) ?_)
  exact toInt_loop l hl l.length 0 _ (by omega) (by simp) (by simp)

/-! pack tri: rows of 21 noughts and ones -/
def isTri (l : List Int) : Bool := l.all (fun x => x == 0 || x == 1) && l.length == 21
theorem tri_out (l : List Int) (n : Nat) (h : (l.drop n).all (fun x => x == 0 || x == 1) = true) (hn : l.length ≤ n) : True := trivial
theorem len_beq (l : List Int) : ((l.length : Int) == 21) = (l.length == 21) := by
  by_cases h : l.length = 21
  · rw [h]; rfl
  · rw [beq_false_of_ne h, beq_false_of_ne (by omega)]
theorem iTri_loop (l : List Int) (hl : l.length ≤ 100000000) (d : Nat) : ∀ i : Nat, i + d = l.length →
    Ev (fun k => impl_isTriangle.l0 k l l (l.length : Int) i) ((l.drop i).all (fun x => x == 0 || x == 1) && l.length == 21) := by
  induction d with
  | zero =>
    intro i hi
    refine Ev.step (fun _ => impl_isTriangle.l0.eq_2 _ _ _ _ _) (ev_neg (by omega) (ev_now ?_))
    rw [List.drop_of_length_le (by omega), len_beq]; rfl
  | succ d ih =>
    intro i hi
    refine Ev.step (fun _ => impl_isTriangle.l0.eq_2 _ _ _ _ _) (ev_pos (by omega) (ev_pos (by omega) (ev_pos (by omega) ?_)))
    rw [getD_drop l i (by omega), w64 (by omega) (by omega)]
    simp only [rd_getD, List.all_cons]
    by_cases h : l.getD i 0 = 0
    · refine ev_pos h (ev_eq ?_ (ih (i + 1) (by omega)))
      rw [h]; rfl
    · by_cases h1 : l.getD i 0 = 1
      · refine ev_neg h (ev_pos h1 (ev_eq ?_ (ih (i + 1) (by omega))))
        rw [h1]; rfl
      · refine ev_neg h (ev_neg h1 (ev_now ?_))
        rw [beq_false_of_ne h, beq_false_of_ne h1]; rfl
theorem iTri_ev (l : List Int) (hl : l.length ≤ 100000000) : Ev (fun k => impl_isTriangle.f k l) (isTri l) := by
  unfold impl_isTriangle.f
  exact ev_eq (by simp [isTri]) (iTri_loop l hl l.length 0 (by omega))
theorem in01 (x : Int) : spec_l1In.f x 0 1 = some (x == 0 || x == 1) := by
  unfold spec_l1In.f
  by_cases h : x ≥ 0
  · rw [if_pos h]
    by_cases h1 : x ≤ 1
    · rcases (show x = 0 ∨ x = 1 by omega) with rfl | rfl <;> rfl
    · rw [decide_eq_false h1, beq_false_of_ne (show x ≠ 0 by omega), beq_false_of_ne (show x ≠ 1 by omega)]; rfl
  · rw [if_neg h, beq_false_of_ne (show x ≠ 0 by omega), beq_false_of_ne (show x ≠ 1 by omega)]; rfl
theorem sTri_loop (l : List Int) (hl : l.length ≤ 100000000) (d : Nat) : ∀ i : Nat, i + d = l.length →
    Ev (fun k => spec_TriangleOk.l0 k l i) ((l.drop i).all (fun x => x == 0 || x == 1) && l.length == 21) := by
  induction d with
  | zero =>
    intro i hi
    refine Ev.step (fun _ => spec_TriangleOk.l0.eq_2 _ _ _) (ev_neg (by omega) (ev_now ?_))
    rw [List.drop_of_length_le (by omega), len_beq]; rfl
  | succ d ih =>
    intro i hi
    refine Ev.step (fun _ => spec_TriangleOk.l0.eq_2 _ _ _) (ev_pos (by omega) (ev_pos (by omega) ?_))
    rw [getD_drop l i (by omega), w64 (by omega) (by omega)]
    simp only [rd_getD, List.all_cons]
    refine ev_bind (in01 _) ?_
    by_cases h : (l.getD i 0 == 0 || l.getD i 0 == 1) = true
    · refine ev_pos h (ev_eq ?_ (ih (i + 1) (by omega)))
      rw [h]; rfl
    · refine ev_neg h (ev_now ?_)
      rw [Bool.not_eq_true] at h
      rw [h]; rfl
theorem sTri_ev (l : List Int) (hl : l.length ≤ 100000000) : Ev (fun k => spec_TriangleOk.f k l) (isTri l) := by
  unfold spec_TriangleOk.f
  exact ev_eq (by simp [isTri]) (sTri_loop l hl l.length 0 (by omega))

/-! pack who: what triangles say of sets and relations -/
def pl (a s : Nat) : Nat := a * (a + 1) / 2 + s
def hd (t : List Int) (a s : Nat) : Bool := t.getD (pl a s) 0 == 1
theorem sz_le : ∀ n : Fin 8, sz n.val ≤ 3 := by decide
theorem sz_and : ∀ a b : Fin 8, sz (a.val &&& b.val) ≤ sz a.val := by decide
theorem szle {n : Nat} (h : n < 8) : sz n ≤ 3 := sz_le ⟨n, h⟩
theorem szand {a b : Nat} (ha : a < 8) (hb : b < 8) : sz (a &&& b) ≤ sz a := sz_and ⟨a, ha⟩ ⟨b, hb⟩
theorem and_lt {a b : Nat} (h : b < 8) : a &&& b < 8 := Nat.and_lt_two_pow a (n := 3) h
theorem and_lt' {a b : Nat} (h : a < 8) : a &&& b < 8 := by rw [Nat.and_comm]; exact and_lt h
theorem row_lt (r x : Nat) : rowN r x < 8 := Nat.mod_lt _ (by decide)
theorem isize_all : ∀ n : Fin 8, impl_sizeOf.f (n.val : Int) = some (sz n.val : Int) := by decide +kernel
theorem irel_all : ∀ x : Fin 3, ∀ r : Fin 512, impl_relatedTo.f (r.val : Int) (x.val : Int) = some (rowN r.val x.val : Int) := by decide +kernel
theorem iand_all : ∀ a b : Fin 8, Go.bits .and .i64 (a.val : Int) (b.val : Int) = ((a.val &&& b.val : Nat) : Int) := by decide +kernel
theorem iplace_all : ∀ a s : Fin 4, impl_placeOf.f (a.val : Int) (s.val : Int) = some (pl a.val s.val : Int) := by decide +kernel
theorem ior_all : ∀ x : Fin 3, ∀ o : Fin 4, o.val < 2 ^ x.val → Go.bits .or .i64 (o.val : Int) (shl .i64 1 (x.val : Int)) = ((o.val + 2 ^ x.val : Nat) : Int) := by decide +kernel
theorem isize {n : Nat} (h : n < 8) : impl_sizeOf.f (n : Int) = some (sz n : Int) := isize_all ⟨n, h⟩
theorem irel {x r : Nat} (hx : x < 3) (h : r < 512) : impl_relatedTo.f (r : Int) (x : Int) = some (rowN r x : Int) := irel_all ⟨x, hx⟩ ⟨r, h⟩
theorem iand {a b : Nat} (ha : a < 8) (hb : b < 8) : Go.bits .and .i64 (a : Int) (b : Int) = ((a &&& b : Nat) : Int) := iand_all ⟨a, ha⟩ ⟨b, hb⟩
theorem ior {x o : Nat} (hx : x < 3) (ho : o < 2 ^ x) : Go.bits .or .i64 (o : Int) (shl .i64 1 (x : Int)) = ((o + 2 ^ x : Nat) : Int) :=
  ior_all ⟨x, hx⟩ ⟨o, by rcases (show x = 0 ∨ x = 1 ∨ x = 2 by omega) with rfl | rfl | rfl <;> omega⟩ ho
theorem pl_lt {a s : Nat} (ha : a ≤ 3) (hs : s ≤ a) : pl a s < 21 := by
  unfold pl
  rcases (show a = 0 ∨ a = 1 ∨ a = 2 ∨ a = 3 by omega) with rfl | rfl | rfl | rfl <;> omega
theorem iholds {t : List Int} (ht : t.length = 21) {a s : Nat} (ha : a ≤ 3) (hs : s ≤ a) : impl_holds.f t (a : Int) (s : Int) = some (hd t a s) := by
  unfold impl_holds.f
  rw [iplace_all ⟨a, by omega⟩ ⟨s, by omega⟩]
  have := pl_lt ha hs
  simp only [Option.bind_some]
  rw [if_pos (by omega), if_pos (by omega), rd_getD]
  unfold hd
  rfl
def who1 (t : List Int) (b rel x : Nat) : Bool := hd t (sz b) (sz (b &&& rowN rel x))
def whoN (t : List Int) (b rel : Nat) : Nat := b1 (who1 t b rel 0) + 2 * b1 (who1 t b rel 1) + 4 * b1 (who1 t b rel 2)
theorem b1_le (b : Bool) : b1 b ≤ 1 := by cases b <;> decide
theorem whoN_lt (t : List Int) (b rel : Nat) : whoN t b rel < 8 := by
  have h0 := b1_le (who1 t b rel 0)
  have h1 := b1_le (who1 t b rel 1)
  have h2 := b1_le (who1 t b rel 2)
  unfold whoN; omega

/-! pack who_i -/
theorem iwho_round {t : List Int} (ht : t.length = 21) {b rel : Nat} (hb : b < 8) (hr : rel < 512) {x o : Nat} (hx : x < 3) (ho : o < 2 ^ x) {r : Int}
    (H : Ev (fun k => impl_whoDo.l0 k t b rel ((o + 2 ^ x * b1 (who1 t b rel x) : Nat) : Int) ((x + 1 : Nat) : Int)) r) : Ev (fun k => impl_whoDo.l0 k t b rel (o : Int) (x : Int)) r := by
  have hs := szle hb
  have hs2 := szand hb (row_lt rel x)
  refine Ev.step (fun _ => impl_whoDo.l0.eq_2 _ _ _ _ _ _) (ev_pos (by omega) ?_)
  refine ev_bind (isize hb) (ev_bind (irel hx hr) (ev_bind (by rw [iand hb (row_lt _ _)]; exact isize (and_lt (row_lt _ _))) (ev_bind (iholds ht hs hs2) ?_)))
  have e : wrap64 ((x : Int) + 1) = ((x + 1 : Nat) : Int) := by rw [w64 (by omega) (by omega)]; omega
  rw [e]
  have hw : who1 t b rel x = hd t (sz b) (sz (b &&& rowN rel x)) := rfl
  rw [hw] at H
  cases hc : hd t (sz b) (sz (b &&& rowN rel x)) with
  | true =>
    rw [hc] at H
    refine ev_pos rfl (ev_pos (by omega) ?_)
    rw [ior hx ho]
    simpa [b1] using H
  | false =>
    rw [hc] at H
    refine ev_neg (by simp) ?_
    simpa [b1] using H
theorem iwho_ev {t : List Int} (ht : t.length = 21) {b rel : Nat} (hb : b < 8) (hr : rel < 512) : Ev (fun k => impl_whoDo.f k t (b : Int) (rel : Int)) (whoN t b rel : Int) := by
  have h0 := b1_le (who1 t b rel 0)
  have h1 := b1_le (who1 t b rel 1)
  unfold impl_whoDo.f
  refine iwho_round (x := 0) (o := 0) ht hb hr (by omega) (by omega) ?_
  refine iwho_round (x := 1) ht hb hr (by omega) (by simp; omega) ?_
  refine iwho_round (x := 2) ht hb hr (by omega) (by simp; omega) ?_
  refine Ev.step (fun _ => impl_whoDo.l0.eq_2 _ _ _ _ _ _) (ev_neg (by omega) (ev_now ?_))
  unfold whoN; omega

/-! pack okpairs: which numbers are relations and sets -/
def okPairs (rel a b : Int) : Bool := decide (0 ≤ rel ∧ rel < 512 ∧ 0 ≤ a ∧ a < 8 ∧ 0 ≤ b ∧ b < 8)
theorem le511 (x : Int) : (x ≤ 511) = (x < 512) := propext (by omega)
theorem le7 (x : Int) : (x ≤ 7) = (x < 8) := propext (by omega)
theorem sPairs (rel a b : Int) : spec_PairsOk.f rel a b = some (okPairs rel a b) := by
  unfold spec_PairsOk.f spec_l1In.f okPairs
  simp only [le511, le7, ge_iff_le]
  by_cases h1 : 0 ≤ rel <;> by_cases h2 : rel < 512 <;> by_cases h3 : 0 ≤ a <;> by_cases h4 : a < 8 <;> by_cases h5 : 0 ≤ b <;> by_cases h6 : b < 8 <;> simp [h1, h2, h3, h4, h5, h6]
theorem iPairs (rel a b : Int) : impl_arePairs.f rel a b = some (okPairs rel a b) := by
  unfold impl_arePairs.f okPairs
  simp only [ge_iff_le]
  by_cases h1 : 0 ≤ rel <;> by_cases h2 : rel < 512 <;> by_cases h3 : 0 ≤ a <;> by_cases h4 : a < 8 <;> by_cases h5 : 0 ≤ b <;> by_cases h6 : b < 8 <;> simp [h1, h2, h3, h4, h5, h6]
theorem okPairs_nat {rel a b : Int} (h : okPairs rel a b = true) : ∃ r x y : Nat, r < 512 ∧ x < 8 ∧ y < 8 ∧ rel = r ∧ a = x ∧ b = y := by
  unfold okPairs at h
  have h := of_decide_eq_true h
  exact ⟨rel.toNat, a.toNat, b.toNat, by omega, by omega, by omega, by omega, by omega, by omega⟩
theorem okPairs_of {r x y : Nat} (hr : r < 512) (hx : x < 8) (hy : y < 8) : okPairs (r : Int) (x : Int) (y : Int) = true := by
  unfold okPairs; exact decide_eq_true (by omega)

/-! pack whospec: the same of the reference -/
theorem ssize_all : ∀ n : Fin 8, spec_l2Size.f 20 (n.val : Int) = some (sz n.val : Int) := by decide +kernel
theorem sboth_all : ∀ a b : Fin 8, spec_l2Both.f 20 (a.val : Int) (b.val : Int) = some ((a.val &&& b.val : Nat) : Int) := by decide +kernel
theorem srow_all : ∀ x : Fin 3, ∀ r : Fin 512, spec_l8Row.f (r.val : Int) (x.val : Int) = some (rowN r.val x.val : Int) := by decide +kernel
theorem splace_all : ∀ a s : Fin 4, s.val ≤ a.val → spec_PlaceOf.f (a.val : Int) (s.val : Int) = some (pl a.val s.val : Int) := by decide +kernel
theorem sshl_all : ∀ x : Fin 3, ∀ o : Fin 4, wrap64 ((o.val : Int) + shl .i64 1 (x.val : Int)) = ((o.val + 2 ^ x.val : Nat) : Int) := by decide +kernel
theorem ssize {n : Nat} (h : n < 8) : Ev (fun k => spec_l2Size.f k (n : Int)) (sz n : Int) := Ev.of (spec_l2Size.mono _) (ssize_all ⟨n, h⟩)
theorem sboth {a b : Nat} (ha : a < 8) (hb : b < 8) : Ev (fun k => spec_l2Both.f k (a : Int) (b : Int)) ((a &&& b : Nat) : Int) := Ev.of (spec_l2Both.mono _ _) (sboth_all ⟨a, ha⟩ ⟨b, hb⟩)
theorem srow {x r : Nat} (hx : x < 3) (h : r < 512) : spec_l8Row.f (r : Int) (x : Int) = some (rowN r x : Int) := srow_all ⟨x, hx⟩ ⟨r, h⟩
theorem splace {a s : Nat} (ha : a ≤ 3) (hs : s ≤ a) : spec_PlaceOf.f (a : Int) (s : Int) = some (pl a s : Int) := splace_all ⟨a, by omega⟩ ⟨s, by omega⟩ hs
theorem sshl {x o : Nat} (hx : x < 3) (ho : o < 2 ^ x) : wrap64 ((o : Int) + shl .i64 1 (x : Int)) = ((o + 2 ^ x : Nat) : Int) :=
  sshl_all ⟨x, hx⟩ ⟨o, by rcases (show x = 0 ∨ x = 1 ∨ x = 2 by omega) with rfl | rfl | rfl <;> omega⟩
theorem swho_round {t : List Int} (ht : t.length = 21) {b rel : Nat} (hb : b < 8) (hr : rel < 512) {x o : Nat} (hx : x < 3) (ho : o < 2 ^ x) {r : Int}
    (H : Ev (fun k => spec_WhoDo.l0 k t b rel ((o + 2 ^ x * b1 (who1 t b rel x) : Nat) : Int) ((x + 1 : Nat) : Int)) r) : Ev (fun k => spec_WhoDo.l0 k t b rel (o : Int) (x : Int)) r := by
  have hs := szle hb
  have hs2 := szand hb (row_lt rel x)
  refine Ev.step (fun _ => spec_WhoDo.l0.eq_2 _ _ _ _ _ _) (ev_pos (by omega) ?_)
  refine Ev.bind (ssize hb) (ev_bind (srow hx hr) (Ev.bind (sboth hb (row_lt _ _)) (Ev.bind (ssize (and_lt (row_lt _ _))) (ev_bind (splace hs hs2) ?_))))
  have hp := pl_lt hs hs2
  refine ev_pos (by omega) (ev_pos (by omega) ?_)
  have e : wrap64 ((x : Int) + 1) = ((x + 1 : Nat) : Int) := by rw [w64 (by omega) (by omega)]; omega
  rw [e, rd_getD]
  have hw : who1 t b rel x = (t.getD (pl (sz b) (sz (b &&& rowN rel x))) 0 == 1) := rfl
  by_cases hc : t.getD (pl (sz b) (sz (b &&& rowN rel x))) 0 = 1
  · rw [hw, hc] at H
    refine ev_pos hc (ev_pos (by omega) ?_)
    rw [sshl hx ho]
    simpa [b1] using H
  · rw [hw, beq_false_of_ne hc] at H
    refine ev_neg hc ?_
    simpa [b1] using H
theorem swho_loop {t : List Int} (ht : t.length = 21) {b rel : Nat} (hb : b < 8) (hr : rel < 512) : Ev (fun k => spec_WhoDo.l0 k t (b : Int) (rel : Int) 0 0) (whoN t b rel : Int) := by
  have h0 := b1_le (who1 t b rel 0)
  have h1 := b1_le (who1 t b rel 1)
  refine swho_round (x := 0) (o := 0) ht hb hr (by omega) (by omega) ?_
  refine swho_round (x := 1) ht hb hr (by omega) (by simp; omega) ?_
  refine swho_round (x := 2) ht hb hr (by omega) (by simp; omega) ?_
  refine Ev.step (fun _ => spec_WhoDo.l0.eq_2 _ _ _ _ _ _) (ev_neg (by omega) (ev_now ?_))
  unfold whoN; omega

/-! pack two: two quantities at once, as one Bool each -/
def whoM (t : List Int) (b rel : Int) : Int := if isTri t && okPairs rel 0 b then (whoN t b.toNat rel.toNat : Int) else -1
theorem isTri_len {t : List Int} (h : isTri t = true) : t.length = 21 := by
  unfold isTri at h
  simp only [Bool.and_eq_true, beq_iff_eq] at h
  exact h.2
theorem swhoM (t : List Int) (hl : t.length ≤ 100000000) (b rel : Int) : Ev (fun k => spec_WhoDo.f k t b rel) (whoM t b rel) := by
  unfold spec_WhoDo.f whoM
  refine Ev.bind (sTri_ev t hl) ?_
  cases h : isTri t with
  | false => exact ev_neg (by simp) (Ev.step (fun _ => spec_WhoDo.j0.eq_2 _ _ _ _ _) (ev_pos rfl (ev_now rfl)))
  | true =>
    refine ev_pos rfl (ev_bind (sPairs _ _ _) ?_)
    cases hp : okPairs rel 0 b with
    | false => exact (Ev.step (fun _ => spec_WhoDo.j0.eq_2 _ _ _ _ _) (ev_pos rfl (ev_now rfl)))
    | true =>
      obtain ⟨r, x, y, hr, hx, hy, rfl, hx0, rfl⟩ := okPairs_nat hp
      exact (Ev.step (fun _ => spec_WhoDo.j0.eq_2 _ _ _ _ _) (ev_neg (by simp) (swho_loop (isTri_len h) hy hr)))

theorem iwhoM (t : List Int) (hl : t.length ≤ 100000000) (b rel : Int) : Ev (fun k => impl_WhoDo.f k t b rel) (whoM t b rel) := by
  unfold impl_WhoDo.f whoM
  refine Ev.bind (iTri_ev t hl) ?_
  cases h : isTri t with
  | false => exact ev_neg (by simp) (ev_now rfl)
  | true =>
    refine ev_pos rfl (ev_bind (iPairs _ _ _) ?_)
    cases hp : okPairs rel 0 b with
    | false => exact ev_neg (by simp) (ev_now rfl)
    | true =>
      obtain ⟨r, x, y, hr, hx, hy, rfl, hx0, rfl⟩ := okPairs_nat hp
      exact ev_pos rfl (Ev.bind (iwho_ev (isTri_len h) hy hr) (ev_now rfl))

theorem FnExactWhoDo : laws_FnExactWhoDo.Pure := by
  intro t b rel _ _ _ _ _
  refine Ev.rounds (g := fun k => laws_FnExactWhoDo.f k t b rel) ?_
  unfold laws_FnExactWhoDo.f
  by_cases h : (t.length : Int) > 1048576
  · exact ev_pos h (ev_now rfl)
  · have hl : t.length ≤ 100000000 := by omega
    refine ev_neg h (Ev.bind (toInt_ev t hl) (Ev.bind (swhoM t hl b rel) (Ev.bind (toInt_ev t hl) (Ev.bind (iwhoM t hl b rel) (ev_pos rfl (Ev.bind (toInt_ev t hl) (Ev.bind (eqInt_ev t t hl) ?_)))))))
    exact ev_pos (by simp) (ev_now rfl)

end Go.Proofs.Ytmohhjbcdfhopaa.Pure
